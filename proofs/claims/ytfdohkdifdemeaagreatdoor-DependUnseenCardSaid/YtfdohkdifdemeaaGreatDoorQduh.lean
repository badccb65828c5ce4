/- Parts. -/
import Derived.Test.YtfdohkdifdemeaaGreatDoorQdug
set_option linter.all false
set_option maxRecDepth 4000
set_option maxHeartbeats 6400000
section
namespace Go.Proofs.R
open Go Go.RowKit bt
abbrev ZB:World->Addr->Int->Prop:=Flat fun n=>[Value.int .i64 n]
abbrev Ints(w:World)(v:Value)(l:List Int):Prop:=bF 1 ZB w v l
theorem Ints.ext{w w':World}{v:Value}{l:List Int}(he:Ext w w')(h:Ints w v l):Ints w' v l:=bF.ext Flat.ext he h
theorem Ints.aV{w:World}{b n:Nat}{e:TypeId}{f:Nat×Nat}{xs:List Int}(aC:w.heap[b]? = some (.cells (xs.flatMap fun n=>[Value.int .i64 n]).toArray e f))(aD:n=xs.length)(hm:xs.length<=maxLen):Ints w (.slice (some ⟨b,0,none⟩) n n) xs :=
 bF.aV (enc:=fun n=>[Value.int .i64 n]) (fun _=>rfl) aC aD hm fun _ _ _ h=>h
theorem YX(v:Value)(l:List Int)(w:World)(aS:Ints w v l):bu Tryz.prog F.c6 #[v] w fun v w'=>v = .bool (l.all o.within)/\w'=w:=by
 obtain⟨bl,cap,rfl,hlen⟩:=aS.form;refine bL E.c6 ?_;refine bG ?_;refine a1 ?_;refine K.zX 7 l.length (fun k S w'=>w'=w/\(l.take k).all o.within=true) (by simp -dsimp only[c4,cF,Nat.reduceAdd,Nat.reduceEqDiff,reduceIte,reduceCtorEq,db]) ⟨rfl,by simp⟩ ?_;rintro k S w' cg hk cj ⟨rfl,dF⟩;have ak:=cg 0 rfl;have bg:=cg 5 rfl;have bO:=cg 6 rfl;simp only[cu,Nat.reduceAdd,Nat.reduceEqDiff,reduceIte,jg,me] at ak bg bO;clear cg;refine ch (zI ak (zI bg (zI bO cj))) ?_;refine K.cond (fun h1=>?_) (fun h1=>?_);rotate_left
 .refine ch (zI ak (zI bg (zI bO cj))) ?_;rw[List.take_of_length_le (by omega)] at dF;rw[dF];exact cC
 have br:k<l.length:=by omega
 obtain⟨a,rfl⟩:=aS.addr (by omega);have wu:l.take (k+1)=l.take k++[l[k]]:=List.take_succ_eq_append_getElem br;have rP:l.all o.within=((l.take (k+1)).all o.within&&(l.drop (k+1)).all o.within):=by rw[<-List.all_append,List.take_append_drop]
 rw[wu,List.all_append] at rP
 (repeat' first
 | assumption
 | exact Ext.refl _
 | refine Ext.trans ?_ (by assumption)
 | refine K.wrap (by omega) ?_
 | refine K.ta (by assumption) ?_ rfl ?_
 | refine K.q0 (by assumption) ?_ rfl ?_
 | refine K.uM (by assumption) ?_ (by omega) rfl ?_
 | refine K.uN (by assumption) ?_ (by omega) rfl ?_
 | refine K.uL (by assumption) ?_ (by omega) rfl ?_
 | refine K.uD (by omega) ?_
 | refine K.sy (by first | assumption | omega) ?_
 | refine K.tO (by first | assumption | omega) ?_
 | refine K.qC (by assumption) ?_
 | refine K.rI (by assumption) ?_
 | simp -dsimp only[c4,cF,Nat.reduceAdd,Nat.reduceEqDiff,reduceIte,reduceCtorEq,db,bg,cj])
 generalize l[k]=z at *;refine K.cond (fun U=>?_) (fun U=>?_)
 .refine a1 ?_;rw[rP];refine⟨?_,trivial⟩
  have:o.within z=false:=by simp[o.within];omega
  simp[this]
 refine a1 ?_;refine K.cond (fun ag=>?_) (fun ag=>?_)
 .refine a1 ?_;rw[rP];refine⟨?_,trivial⟩
  have:o.within z=false:=by simp[o.within];omega
  simp[this]
 refine ch cj ?_;refine K.wrap (by omega) ?_;refine a1 ?_;refine⟨br,trivial,trivial,?_⟩;rw[wu];simp[dF,o.within];omega
def FL(f:FuncId)(g:Int->Int->Int):Prop := ∀a b w,(o.within a&&o.within b)=true->bu Tryz.prog f #[.int .i64 a,.int .i64 b] w fun v w'=>v = .int .i64 (g a b)/\w'=w
theorem ZS:FL F.cs (· + ·):=by
 intro a b w h;simp[o.within] at h;refine bL E.cs ?_;refine bG ?_;refine aQ ?_;exact cC
theorem alz:FL F.zM (· - ·):=by
 intro a b w h;simp[o.within] at h;refine bL E.zM ?_;refine bG ?_;refine aQ ?_;exact cC
theorem WG{a b:Int}(bo : -1048576<=a/\a<=1048576)(aC : -1048576<=b/\b<=1048576) : -1099511627776<=a*b/\a*b<=1099511627776:=by
 have h:(a*b).natAbs<=1048576*1048576:=by
  rw[Int.natAbs_mul];exact Nat.mul_le_mul (by omega) (by omega)
 omega
theorem ah7:FL F.c3 (· * ·):=by
 intro a b w h;simp[o.within] at h;have hm:=WG h.1 h.2;refine bL E.c3 ?_;refine bG ?_;refine aQ ?_;exact cC
theorem Oi(f:FuncId)(g:Int->Int->Int)(aK:okF Tryz.prog f=true)(aZ:FL f g)(a b:Int)(w:World) :
  bu Tryz.prog F.lb #[.agg #[.func (.func f) #[] #[]],.int .i64 a,.int .i64 b] w fun v w'=>v = .tuple #[.int .i64 (o.tell g a b).1,.bool (o.tell g a b).2]/\Ext w w':=by
 refine bL E.lb ?_;refine bG ?_;refine a1 ?_;refine K.new fun av p aO aB ao=>?_;refine a1 ?_;refine K.lk (cs:=[a,b].flatMap fun n=>[Value.int .i64 n]) (by simp[List.range,List.range.loop,eQ,lay,ft,cu,jg,Value.cells]) fun aU q aG aA aP=>?_;refine a1 ?_;refine K.call (YX _ [a,b] aU (Ints.aV aP rfl (by simp[maxLen]))) ?_;rintro _ _ ⟨rfl,rfl⟩;refine a1 ?_;refine K.du (fun h1=>?_) (fun h1=>?_);rotate_left
 .refine a1 ?_
  have:(o.within a&&o.within b)=false:=by simpa using h1
  refine⟨?_,fL⟩;simp[o.tell,this]
 have C0:(o.within a&&o.within b)=true:=by simpa using h1
 refine aQ ?_;refine K.mS (first:=[]) (cap:=[]) aK (aZ a b _ C0) ?_;rintro _ _ ⟨rfl,rfl⟩;refine a1 ?_;refine K.lk (cs:=[g a b].flatMap fun n=>[Value.int .i64 n]) (by simp[List.range,List.range.loop,eQ,lay,ft,cu,jg,Value.cells]) fun bb eh aov ax bz=>?_;refine a1 ?_;refine K.call (YX _ [g a b] bb (Ints.aV bz rfl (by simp[maxLen]))) ?_;rintro _ _ ⟨rfl,rfl⟩;refine a1 ?_;refine K.du (fun U=>?_) (fun U=>?_)
 .refine a1 ?_
  have:o.within (g a b)=true:=by simpa using U
  refine⟨?_,fL⟩;simp[o.tell,C0,this]
 .refine a1 ?_
  have:o.within (g a b)=false:=by simpa using U
  refine⟨?_,fL⟩;simp[o.tell,this]
def sj(f:FuncId)(g:Int->Int->Int×Bool):Prop := ∀a b w,bu Tryz.prog f #[.int .i64 a,.int .i64 b] w fun v w'=>v = .tuple #[.int .i64 (g a b).1,.bool (g a b).2]/\Ext w w'
theorem RJ:sj F.dD (o.tell (· + ·)):=by
 intro a b w;refine bL E.dD ?_;refine bG ?_;refine a1 ?_;refine K.cY (cs:=[.func (.func F.cs) #[] #[]]) (by simp[eQ,lay,tS,Value.cells]) ?_;refine a1 ?_;refine K.call (Oi _ _ (by kernel_rfl) ZS a b w) ?_;rintro _ av ⟨rfl,he⟩;refine a1 ?_;exact cC
theorem Yr:sj F.a5 (o.tell (· - ·)):=by
 intro a b w;refine bL E.a5 ?_;refine bG ?_;refine a1 ?_;refine K.cY (cs:=[.func (.func F.zM) #[] #[]]) (by simp[eQ,lay,tS,Value.cells]) ?_;refine a1 ?_;refine K.call (Oi _ _ (by kernel_rfl) alz a b w) ?_;rintro _ av ⟨rfl,he⟩;refine a1 ?_;exact cC
theorem ah8:sj F.cl (o.tell (· * ·)):=by
 intro a b w;refine bL E.cl ?_;refine bG ?_;refine a1 ?_;refine K.cY (cs:=[.func (.func F.c3) #[] #[]]) (by simp[eQ,lay,tS,Value.cells]) ?_;refine a1 ?_;refine K.call (Oi _ _ (by kernel_rfl) ah7 a b w) ?_;rintro _ av ⟨rfl,he⟩;refine a1 ?_;exact cC
theorem aaB(b:Bool)(w:World):bu Tryz.prog F.xQ #[.bool b] w fun v w'=>v = .int .i64 (o.bit b)/\w'=w:=by
 refine bL E.xQ ?_;refine bG ?_;refine a1 ?_;refine K.du (fun h=>?_) (fun h=>?_)
 all_goals
  subst h;refine a1 ?_;exact cC
theorem aiI:sj F.zG fun a _=>(o.bit (decide (a=0)),true):=by
 intro a b w;refine bL E.zG ?_;refine bG ?_;refine a1 ?_;refine K.call (aaB _ w) ?_;rintro _ _ ⟨rfl,rfl⟩;refine a1 ?_;exact cC
theorem aiJ:sj F.zH fun a _=>o.tell (· - ·) 0 a:=by
 intro a b w;refine bL E.zH ?_;refine bG ?_;refine a1 ?_;refine K.call (Yr 0 a w) ?_;rintro _ av ⟨rfl,he⟩;refine a1 ?_;exact cC
def vj(f:FuncId)(p:Int->Int->Bool):Prop := ∀a b w,bu Tryz.prog f #[.int .i64 a,.int .i64 b] w fun v w'=>v = .bool (p a b)/\w'=w
theorem aiK:vj F.zI fun a b=>decide (a=b):=by
 intro a b w;refine bL E.zI ?_;refine bG ?_;refine a1 ?_;exact cC
theorem aiL:vj F.xH fun a b => !decide (a=b):=by
 intro a b w;refine bL E.xH ?_;refine bG ?_;refine a1 ?_;exact cC
theorem aiM:vj F.co fun a b=>decide (a<b):=by
 intro a b w;refine bL E.co ?_;refine bG ?_;refine a1 ?_;exact cC
theorem aiN:vj F.zJ fun a b=>decide (a<=b):=by
 intro a b w;refine bL E.zJ ?_;refine bG ?_;refine a1 ?_;exact cC
theorem aiO:vj F.zK fun a b => !decide (a=0) && !decide (b=0):=by
 intro a b w;refine bL E.zK ?_;refine bG ?_;refine a1 ?_;refine K.cond (fun h=>?_) (fun h=>?_)
 all_goals
  refine a1 ?_;exact⟨by simp[h],trivial⟩
theorem aiP:vj F.kP fun a b => !decide (a=0) || !decide (b=0):=by
 intro a b w;refine bL E.kP ?_;refine bG ?_;refine a1 ?_;refine K.cond (fun h=>?_) (fun h=>?_)
 all_goals
  refine a1 ?_;exact⟨by simp[h],trivial⟩
end Go.Proofs.R
end
section
namespace Go.Proofs.R
open Go Go.RowKit bt
def y7(w:World)(v:Value)(g:Int->Int->Int×Bool):Prop :=
 (∃f,v = .func (.func f) #[] #[]/\okF Tryz.prog f=true/\sj f g) \/
 (∃c f p,v = .func (.func F.kv) #[] #[.pointer (some ⟨c,0,none⟩)]/\w.heap[c]? = some (.cells #[.func (.func f) #[] #[]] T.B0)/\okF Tryz.prog f=true/\vj f p/\g=fun a b=>(o.bit (p a b),true))
def BP(w:World)(al:o.pz)(v:Value):Prop := ∃u,v = .agg #[.int .i64 al.parts,.int .i64 al.iX,.int .i64 al.makes,u]/\y7 w u al.Sr
def pA(w:World)(m:Value):Prop := ∃r es c l,m = .map (some r)/\w.heap[r]? = some (.map es c)/\hT (Value.int .i64) es.toList l /\
 ∀x:Int,match o.gI x with
  | some al => ∃p,l.find? (fun p=>decide (x=p.1))=some p/\BP w al p.2
  | none=>l.find? (fun p=>decide (x=p.1))=none
theorem Bl(iX:Int)(f:Nat)(w:World):bu Tryz.prog F.m #[.int .i64 iX,.func (.func f) #[] #[]] w
  fun v w'=>(∃c,v = .agg #[.int .i64 2,.int .i64 iX,.int .i64 1,.func (.func F.kv) #[] #[.pointer (some ⟨c,0,none⟩)]]/\w'.heap[c]? = some (.cells #[.func (.func f) #[] #[]] T.B0))/\Ext w w':=by
 refine bL E.m ?_;refine bG ?_;refine a1 ?_;refine K.new fun av c aw aB ao=>?_;refine a1 ?_;refine K.new fun aU b aC aA aP=>?_;refine a1 ?_;refine K.cY (cs:=[.int .i64 2,.int .i64 iX,.int .i64 1,.func (.func F.kv) #[] #[.pointer (some ⟨c,0,none⟩)]]) (by simp[eQ,lay,ft,o2,cu,jg,Value.cells]) ?_;refine a1 ?_;refine K.h6 aP rfl rfl (by simp[Value.oneCell']) fun bb hw bz=>?_;have h1:=cH ao;have c5:c≠b:=by omega
 refine a1 ?_;refine K.jX (hl bz) rfl ?_;refine a1 ?_;exact⟨⟨c,rfl,(hw.block c c5).trans (aA.obj ao)⟩,hw.ext (aB.trans aA) (by have:=aB.size;omega)⟩
theorem aiQ(w:World):bu Tryz.prog F.ex #[] w fun v w'=>pA w' v/\Ext w w':=by
 refine bL E.ex ?_;refine bG ?_;refine a1 ?_;refine K.A1 fun w0 r ba Ad m0=>?_;refine a1 ?_;refine K.cY (cs:=[.int .i64 1,.int .i64 1,.int .i64 1,.func (.func F.zG) #[] #[]]) (by simp[eQ,lay,ft,o2,tS,cu,jg,Value.cells]) ?_;refine a1 ?_;refine K.r2 m0 rfl fun av j1 m1=>?_;refine a1 ?_;refine K.cY (cs:=[.int .i64 1,.int .i64 0,.int .i64 0,.func (.func F.zH) #[] #[]]) (by simp[eQ,lay,ft,o2,tS,cu,jg,Value.cells]) ?_;refine a1 ?_;refine K.r2 m1 rfl fun aU j2 m2=>?_;refine a1 ?_;refine K.cY (cs:=[.int .i64 2,.int .i64 0,.int .i64 0,.func (.func F.dD) #[] #[]]) (by simp[eQ,lay,ft,o2,tS,cu,jg,Value.cells]) ?_;refine a1 ?_;refine K.r2 m2 rfl fun bb nY m3=>?_;refine a1 ?_;refine K.cY (cs:=[.int .i64 2,.int .i64 0,.int .i64 0,.func (.func F.a5) #[] #[]]) (by simp[eQ,lay,ft,o2,tS,cu,jg,Value.cells]) ?_;refine a1 ?_;refine K.r2 m3 rfl fun bp nq m4=>?_;refine a1 ?_;refine K.cY (cs:=[.int .i64 2,.int .i64 0,.int .i64 0,.func (.func F.cl) #[] #[]]) (by simp[eQ,lay,ft,o2,tS,cu,jg,Value.cells]) ?_;refine a1 ?_;refine K.r2 m4 rfl fun bR I5 m5=>?_;have b3:Ext w bR:=I5.ext (nq.ext (nY.ext (j2.ext (j1.ext Ad ba) ba) ba) ba) ba;clear j1 j2 nY nq I5 m0 m1 m2 m3 m4;refine a1 ?_;refine K.call (Bl (-1) F.zI _) ?_;rintro _ v6 ⟨⟨tI,rfl,Az⟩,OF⟩;refine a1 ?_;refine K.r2 (OF.obj m5) rfl fun bY Y8 m6=>?_;refine a1 ?_;refine K.call (Bl (-1) F.xH _) ?_;rintro _ Bs ⟨⟨pK,rfl,wC⟩,I9⟩;refine a1 ?_;refine K.r2 (I9.obj m6) rfl fun cd OB m7=>?_;refine a1 ?_;refine K.call (Bl 0 F.co _) ?_;rintro _ Ou ⟨⟨xD,rfl,VU⟩,Ja⟩;refine a1 ?_;refine K.r2 (Ja.obj m7) rfl fun dg I6 m8=>?_;refine a1 ?_;refine K.call (Bl 0 F.zJ _) ?_;rintro _ v9 ⟨⟨aaH,rfl,H3⟩,Jb⟩;refine a1 ?_;refine K.r2 (Jb.obj m8) rfl fun ea OC m9=>?_;refine a1 ?_;refine K.call (Bl 1 F.zK _) ?_;rintro _ v10 ⟨⟨aaF,rfl,VT⟩,I7⟩;refine a1 ?_;refine K.r2 (I7.obj m9) rfl fun e3 Oz m10=>?_;refine a1 ?_;refine K.call (Bl 1 F.kP _) ?_;rintro _ v11 ⟨⟨aaG,rfl,H2⟩,I8⟩;refine a1 ?_;refine K.r2 (I8.obj m10) rfl fun gg OA m11=>?_;refine a1 ?_;have ne:∀{w:World} {c:Nat} {es:Array MapEntry} {n:Nat} {cs:Array Value} {t:TypeId},w.heap[r]? = some (.map es n)->w.heap[c]? = some (.cells cs t)->c≠r:=by
  intro w c es n cs t h1 U e;subst e;rw[h1] at U;injection U with U
  cases U
 have lb:=(Y8.block tI (ne (OF.obj m5) Az)).trans Az;have pG:=(OB.block pK (ne (I9.obj m6) wC)).trans wC;have Gc:=(I6.block xD (ne (Ja.obj m7) VU)).trans VU;have a9:=(OC.block aaH (ne (Jb.obj m8) H3)).trans H3;have Gb:=(Oz.block aaF (ne (I7.obj m9) VT)).trans VT;have ZI:=(OA.block aaG (ne (I8.obj m10) H2)).trans H2;have t7:∀{c:Nat} {al:Obj},c≠r->bY.heap[c]? = some al->cd.heap[c]? = some al:=fun aw h=>(OB.block _ aw).trans (I9.obj h);have t8:∀{c:Nat} {al:Obj},c≠r->cd.heap[c]? = some al->dg.heap[c]? = some al:=fun aw h=>(I6.block _ aw).trans (Ja.obj h);have t9:∀{c:Nat} {al:Obj},c≠r->dg.heap[c]? = some al->ea.heap[c]? = some al:=fun aw h=>(OC.block _ aw).trans (Jb.obj h);have t10:∀{c:Nat} {al:Obj},c≠r->ea.heap[c]? = some al->e3.heap[c]? = some al:=fun aw h=>(Oz.block _ aw).trans (I7.obj h);have t11:∀{c:Nat} {al:Obj},c≠r->e3.heap[c]? = some al->gg.heap[c]? = some al:=fun aw h=>(OA.block _ aw).trans (I8.obj h);have n6:=ne m6 lb;have n7:=ne m7 pG;have n8:=ne m8 Gc;have n9:=ne m9 a9;have n10:=ne m10 Gb;replace lb:=t11 n6 (t10 n6 (t9 n6 (t8 n6 (t7 n6 lb))));replace pG:=t11 n7 (t10 n7 (t9 n7 (t8 n7 pG)));replace Gc:=t11 n8 (t10 n8 (t9 n8 Gc));replace a9:=t11 n9 (t10 n9 a9);replace Gb:=t11 n10 Gb;have au:Ext w gg:=OA.ext ((Oz.ext ((OC.ext ((I6.ext ((OB.ext ((Y8.ext (b3.trans OF) ba).trans I9) ba).trans Ja) ba).trans Jb) ba).trans I7) ba).trans I8) ba;refine⟨⟨r,_,_,[(9,_),(10,_),(11,_),(12,_),(13,_),(14,_),(15,_),(16,_),(17,_),(18,_),(19,_)],rfl,m11,rfl,fun x=>?_⟩,au⟩;have bw:∀{f:Nat} {g:Int->Int->Int×Bool},okF Tryz.prog f=true->sj f g->y7 gg (.func (.func f) #[] #[]) g:=fun h1 U=>.inl ⟨_,rfl,h1,U⟩;have ay:∀{c f:Nat} {p:Int->Int->Bool},gg.heap[c]? = some (.cells #[.func (.func f) #[] #[]] T.B0)->okF Tryz.prog f=true->vj f p->y7 gg (.func (.func F.kv) #[] #[.pointer (some ⟨c,0,none⟩)]) fun a b=>(o.bit (p a b),true) :=
  fun h1 U ag=>.inr ⟨_,_,_,rfl,h1,U,ag,rfl⟩
 unfold o.gI;by_cases g9:x=9
 .subst g9;exact⟨_,rfl,_,rfl,bw (by kernel_rfl) aiI⟩
 by_cases g10:x=10
 .subst g10;exact⟨_,rfl,_,rfl,bw (by kernel_rfl) aiJ⟩
 by_cases g11:x=11
 .subst g11;exact⟨_,rfl,_,rfl,bw (by kernel_rfl) RJ⟩
 by_cases g12:x=12
 .subst g12;exact⟨_,rfl,_,rfl,bw (by kernel_rfl) Yr⟩
 by_cases g13:x=13
 .subst g13;exact⟨_,rfl,_,rfl,bw (by kernel_rfl) ah8⟩
 by_cases g14:x=14
 .subst g14;exact⟨_,rfl,_,rfl,ay lb (by kernel_rfl) aiK⟩
 by_cases g15:x=15
 .subst g15;exact⟨_,rfl,_,rfl,ay pG (by kernel_rfl) aiL⟩
 by_cases g16:x=16
 .subst g16;exact⟨_,rfl,_,rfl,ay Gc (by kernel_rfl) aiM⟩
 by_cases g17:x=17
 .subst g17;exact⟨_,rfl,_,rfl,ay a9 (by kernel_rfl) aiN⟩
 by_cases g18:x=18
 .subst g18;exact⟨_,rfl,_,rfl,ay Gb (by kernel_rfl) aiO⟩
 by_cases g19:x=19
 .subst g19;exact⟨_,rfl,_,rfl,ay ZI (by kernel_rfl) aiP⟩
 simp[g9,g10,g11,g12,g13,g14,g15,g16,g17,g18,g19]
theorem pA.look{w:World}{m:Value}(h:pA w m)(x:Int):∃es r,qs w m es/\Instr.findNow (.int .i64) (.int .i64 x) es.toList 0=some r /\
  match o.gI x with
  | some al => ∃i v,r=some (i,v)/\BP w al v
  | none=>r=none:=by
 obtain⟨r,es,c,l,rfl,dm,lT,au⟩:=h;obtain⟨q,h1,U⟩:=xR (IA .i64 .i64) x es.toList l 0 lT;refine⟨es,q,.inr ⟨r,c,rfl,dm⟩,h1,?_⟩
 have:=au x
 cases bc:o.gI x with
 | none =>
  simp only[bc] at this ⊢;rw[this] at U;cases q with
  | none=>rfl
  | some q=>simp at U
 | some al =>
  simp only[bc] at this ⊢;obtain⟨p,aO,aT⟩:=this;rw[aO] at U;cases q with
  | none=>simp at U
  | some q=>simp at U;exact⟨q.1,q.2,rfl,U ▸ aT⟩
theorem pA.mod{A:Nat->Prop}{w w':World}{m:Value}(h:pA w m)(hm:Mod A w w')(eL:∀k al,w.heap[k]? = some al->(∃es c,al = .map es c)\/(∃cs,al = .cells cs T.B0)->¬A k):pA w' m:=by
 obtain⟨r,es,c,l,rfl,dm,lT,au⟩:=h;refine⟨r,es,c,l,rfl,hm.obj (eL r _ dm (.inl ⟨_,_,rfl⟩)) dm,lT,fun x=>?_⟩
 have:=au x
 cases bc:o.gI x with
 | none=>simpa only[bc] using this
 | some al =>
  simp only[bc] at this ⊢;obtain⟨p,aO,u,aT,bw⟩:=this;refine⟨p,aO,u,aT,?_⟩;rcases bw with bw | ⟨c,f,p,h1,U,ag⟩
  .exact .inl bw
  .exact .inr ⟨c,f,p,h1,hm.obj (eL c _ U (.inr ⟨_,rfl⟩)) U,ag⟩
theorem pA.ext{w w':World}{m:Value}(h:pA w m)(he:Ext w w'):pA w' m:=h.mod (A:=fun _=>False) he.mod fun _ _ _ _ h=>h
theorem ai5(x:Int)(m:Value)(w:World)(h:pA w m):bu Tryz.prog F.fd #[.int .i64 x,m] w fun v w'=>v = .int .i64 (o.e0 x)/\Ext w w':=by
 refine bL E.fd ?_;refine bG ?_;obtain⟨es,r,U,ag,aJ⟩:=h.look x;simp -dsimp only[cF];simp -dsimp only[c4,Nat.reduceAdd,Nat.reduceEqDiff,reduceIte,reduceCtorEq,db];refine K.cut (fun bh w'=>bh 0 = .int .i64 x/\bh 1=m/\w'=w/\x≠3/\¬(1<=x/\x<=8)) ?_ ?_
 .refine a1 ?_;refine K.cond (fun h1=>?_) (fun h1=>?_)
  .refine a1 ?_;exact⟨by simp[o.e0,h1],Ext.refl _⟩
  refine a1 ?_;refine K.cond (fun bg=>?_) (fun bg=>?_)
  .refine a1 ?_;refine K.cond (fun bO=>?_) (fun bO=>?_)
   .refine a1 ?_;exact⟨by simp[o.e0,h1,bg,bO],Ext.refl _⟩
   .refine a1 ?_;refine⟨trivial,trivial,trivial,h1,by omega⟩
  .refine a1 ?_;refine⟨trivial,trivial,trivial,h1,by omega⟩
 .rintro S w' cg ⟨jl,s1,rfl,nY,I6⟩;refine ch (zI jl s1) ?_;refine K.mv U ag ?_;cases bc:o.gI x with
  | none =>
   simp only[bc] at aJ;subst aJ;simp only[lY,Option.map_none,Option.getD_none,Option.isSome_none,if_true];have aO:o.e0 x = -1:=by
    unfold o.gI at bc;unfold o.e0
    repeat' split
    all_goals first | rfl | (exfalso;omega) | skip
    all_goals
     exfalso
     (repeat' split at bc)
     all_goals first | (cases bc;done) | omega
   refine a1 ?_;refine K.tf (vs:=[.int .i64 0,.int .i64 0,.int .i64 0,.nilFunc]) (fun _=>by simp -dsimp only[c4,cF,Nat.reduceAdd,Nat.reduceEqDiff,reduceIte,reduceCtorEq,db]) rfl rfl (by simp[Value.oneCell']) fun av b aC he aw=>?_;refine a1 ?_;rw[aO];exact cC
  | some al =>
   simp only[bc] at aJ;obtain⟨i,v,rfl,u,rfl,bw⟩:=aJ;simp only[lY,Option.map_some,Option.getD_some,Option.isSome_some,if_true];refine a1 ?_;refine K.tf (vs:=[.int .i64 al.parts,.int .i64 al.iX,.int .i64 al.makes,u]) (fun _=>by simp -dsimp only[c4,cF,Nat.reduceAdd,Nat.reduceEqDiff,reduceIte,reduceCtorEq,db]) rfl rfl (by rcases bw with ⟨f,rfl,_⟩ | ⟨c,f,p,rfl,_⟩<;>simp[Value.oneCell']) fun av b aC he aw=>?_;refine aQ ?_;rw[(o.ER bc).1];exact cC
end Go.Proofs.R
end
section
namespace o
open Go Go.RowKit bt
structure fC(w:World)(cs:List Value)(s:Scope):Prop where
 qi:s.vars.length<=1152921504606846976/\s.aM.length<=1152921504606846976/\s.procs.length<=1152921504606846976/\s.locals.length<=1152921504606846976/\ez s.self
 ex:∃v0 v1 v2 v3 v4,cs=[v0,v1,v2,v3,v4,.int .i64 s.self]/\hI w v0 s.scalars/\hh w v1 s.vars/\mC w v2 s.aM/\pB w v3 s.procs/\hh w v4 s.locals/\s.scalars.length<=4611686018427387904
theorem fC.ext{w w':World}{cs:List Value}{s:Scope}(he:Ext w w')(h:fC w cs s):fC w' cs s :=
 let ⟨v0,v1,v2,v3,v4,e,ak,h1,U,ag,aJ,bg⟩:=h.ex
 ⟨h.qi,v0,v1,v2,v3,v4,e,ak.ext he,h1.ext he,U.ext he,ag.ext he,aJ.ext he,bg⟩
theorem fC.form{w:World}{cs:List Value}{s:Scope}(h:fC w cs s):∃a0 bS dD c1 a2 c2 a3 bP a4 bX,cs=[.slice a0 s.scalars.length bS,.slice dD s.vars.length c1,.slice a2 s.aM.length c2,.slice a3 s.procs.length bP,.slice a4 s.locals.length bX,.int .i64 s.self] /\
  hI w (.slice a0 s.scalars.length bS) s.scalars/\hh w (.slice dD s.vars.length c1) s.vars/\mC w (.slice a2 s.aM.length c2) s.aM/\pB w (.slice a3 s.procs.length bP) s.procs/\hh w (.slice a4 s.locals.length bX) s.locals /\
  s.scalars.length<=4611686018427387904/\s.vars.length<=9223372036854775807/\s.aM.length<=9223372036854775807/\s.procs.length<=9223372036854775807/\s.locals.length<=9223372036854775807:=by
 obtain⟨v0,v1,v2,v3,v4,rfl,ak,h1,U,ag,aJ,bg⟩:=h.ex;obtain⟨a0,bS,rfl,_⟩:=ak.form;obtain⟨dD,c1,rfl,ej⟩:=h1.form;obtain⟨a2,c2,rfl,eo⟩:=U.form;obtain⟨a3,bP,rfl,dX⟩:=ag.form;obtain⟨a4,bX,rfl,ep⟩:=aJ.form;exact⟨a0,bS,dD,c1,a2,c2,a3,bP,a4,bX,rfl,ak,h1,U,ag,aJ,bg,ej,eo,dX,ep⟩
end o
namespace Go.Proofs.R
open Go Go.RowKit bt
theorem NX(n:Int)(cs:List Value)(s:o.Scope)(w:World)(h:o.fC w cs s) :
  bu Tryz.prog F.pG #[.int .i64 n,.agg cs.toArray] w fun v w'=>v = .tuple #[.int .i64 (o.gR n s).1,.bool (o.gR n s).2]/\Ext w w':=by
 obtain⟨a0,bS,dD,c1,a2,c2,a3,bP,a4,bX,rfl,ak,h1,U,ag,aJ,eI,ej,eo,dX,ep⟩:=h.form;refine bL E.pG ?_;refine bG ?_;refine a1 ?_;refine K.new fun av b aC aB ao=>?_
 (repeat' (refine aQ ?_;first | (refine K.cond (fun _=>?_) (fun _=>?_)<;>try (exfalso;omega)) | refine K.du (fun _=>?_) (fun _=>?_)))<;>try refine aQ ?_
 all_goals
  refine⟨?_,fL⟩;unfold o.gR
  (repeat' split)<;>first | rfl | (exfalso;omega)
theorem ame(v:Value)(l:List o.Var)(n:Int)(cs:List Value)(s:o.Scope)(w:World)(aS:o.hh w v l)(h:o.fC w cs s) :
  bu Tryz.prog F.dS #[v,.int .i64 n,.agg cs.toArray] w fun v w'=>v = .tuple #[.int .i64 (o.fP l n s).1,.int .i64 (o.fP l n s).2.1,.bool (o.fP l n s).2.2]/\Ext w w':=by
 obtain⟨a0,bS,dD,c1,a2,c2,a3,bP,a4,bX,rfl,_⟩:=h.form;obtain⟨bl,cap,rfl,hlen⟩:=aS.form;refine bL E.dS ?_;refine bG ?_;refine a1 ?_;refine K.new fun av b aC aB ao=>?_;refine a1 ?_;apply K.cond<;>intro g1
 .refine a1 ?_;rw[o.fP,o.hL (.inl g1)];exact cC
 refine a1 ?_;apply K.cond<;>intro g2
 .refine a1 ?_;rw[o.fP,o.hL (.inr (by omega))];exact cC
 refine a1 ?_;obtain⟨i,rfl⟩:=Int.eq_ofNat_of_zero_le (show 0<=n by omega);have ad:i<l.length:=by omega
 rw[o.fP,o.iT (by omega) (by omega)];simp only[Int.toNat_natCast];obtain⟨a,rfl⟩:=aS.addr (by omega);refine aQ ?_;refine K.gS (c:=[_,_,_,_,_,_]) ao (Ext.refl _) rfl ?_;refine a1 ?_;refine K.gB _ (fun w' e=>NX _ _ s w' (h.ext (aB.trans e))) ?_;refine a1 ?_;intro aU aA;refine aQ ?_;refine K.gS (c:=[_,_,_,_,_,_]) ao aA rfl ?_;refine a1 ?_;refine K.gB _ (fun w' e=>NX _ _ s w' (h.ext ((aB.trans aA).trans e))) ?_;refine a1 ?_;intro bb ax;refine aQ ?_;refine K.du (fun g3=>?_) (fun g3=>?_)
 all_goals
  refine a1 ?_;refine⟨?_,fL⟩;simp[g3]
theorem aha(x:o.Node)(cs:List Value)(s:o.Scope)(w:World)(au:x.ok)(h:o.fC w cs s) :
  bu Tryz.prog F.sG #[.agg x.enc.toArray,.agg cs.toArray] w fun v w'=>v = .tuple #[.int .i64 (o.lC x s).1,.int .i64 (o.lC x s).2]/\Ext w w':=by
 obtain⟨a0,bS,dD,c1,a2,c2,a3,bP,a4,bX,rfl,ak,h1,U,ag,aJ,eI,ej,eo,dX,ep⟩:=h.form;refine bL E.sG ?_;refine bG ?_;refine a1 ?_;refine K.new fun av bC cR aB ao=>?_;refine a1 ?_;refine K.new fun aU cr dQ aA aP=>?_;have dc:aU.heap[bC]? = some (.cells #[.int .i64 x.op,.int .i64 x.n] T.f):=aA.obj ao;clear ao;refine aQ ?_;apply K.cond<;>intro g5
 ·(repeat' (refine aQ ?_;first | (refine K.cond (fun _=>?_) (fun _=>?_)<;>try (exfalso;omega)) | refine K.du (fun _=>?_) (fun _=>?_)))<;>try refine aQ ?_
  all_goals
   refine⟨?_,fL⟩;rw[o.lC,if_pos g5];split<;>first | rfl | (exfalso;omega)
 refine aQ ?_;apply K.cond<;>intro g6
 .have hk:o.lC x s=o.jE x.n s:=by rw[o.lC,if_neg g5,if_pos g6]
  rw[hk,o.jE];refine aQ ?_;apply K.cond<;>intro g1;rotate_left
  .refine aQ ?_;rw[o.hL (.inl (by omega))];exact cC
  refine aQ ?_;apply K.cond<;>intro g2;rotate_left
  .refine aQ ?_;rw[o.hL (.inr (by omega))];exact cC
  refine aQ ?_;rw[o.iT (by omega) (by omega)];obtain⟨a,rfl⟩:=U.addr (by omega);have ad:x.n.toNat<s.aM.length:=by omega
  refine K.dp x.n.toNat (by omega) ad ?_;refine aQ ?_;refine K.gS (c:=[_,_,_,_,_,_]) aP (Ext.refl _) rfl ?_;refine a1 ?_;refine K.gB _ (fun w' e=>NX _ _ s w' (h.ext ((aB.trans aA).trans e))) ?_;refine a1 ?_;intro bb ax;refine K.du (fun g3=>?_) (fun g3=>?_)
  all_goals
   refine a1 ?_;refine⟨?_,fL⟩;simp[g3]
 refine aQ ?_;apply K.cond<;>intro g7
 .have hk:o.lC x s=o.AA x.n s:=by rw[o.lC,if_neg g5,if_neg g6,if_pos g7]
  rw[hk,o.AA];refine aQ ?_;apply K.cond<;>intro g1;rotate_left
  .refine aQ ?_;intro bb ax;refine aQ ?_;rw[if_neg g1];exact cC
  rw[if_pos g1];obtain⟨i,ad⟩:=Int.eq_ofNat_of_zero_le g1;obtain⟨_,hA⟩:=au.n;rw[ad] at hA;have aG:x.n.tdiv 16=((i / 16:Nat):Int):=by rw[ad];rfl
  have hm:x.n.tmod 16=((i % 16:Nat):Int):=by rw[ad];rfl
  refine aQ ?_;refine K.quo (by omega) ?_;rw[aG];refine aQ ?_;apply K.cond<;>intro g2;rotate_left
  .refine aQ ?_;intro bb ax;refine aQ ?_;rw[o.hL (.inr (by omega))];exact cC
  have aR:i / 16<s.procs.length:=by omega
  rw[o.iT (by omega) (by omega)];simp only[Int.toNat_natCast];refine aQ ?_;refine K.rem (by omega) ?_;refine aQ ?_;refine K.quo (by omega) ?_;rw[aG];obtain⟨a,rfl⟩:=ag.addr (by omega);obtain⟨_,cE,dT,De,_⟩:=ag.at (i / 16) aR;have Lq:w.cell? ((a.add (i / 16*5)).add 2)=some (.int .i64 s.procs[i / 16].cx):=De 2 _ rfl;refine aQ ?_;refine K.ld ((aB.trans aA).cell Lq) ?_;refine aQ ?_;rw[hm];intro bb ax;refine aQ ?_;apply K.cond<;>intro g3
  all_goals
   refine aQ ?_;refine⟨?_,fL⟩
   first | rw[if_pos g3] | rw[if_neg g3]
 refine aQ ?_;apply K.cond<;>intro g8
 ·(repeat' (refine aQ ?_;first | (refine K.cond (fun _=>?_) (fun _=>?_)<;>try (exfalso;omega)) | refine K.du (fun _=>?_) (fun _=>?_)))<;>try refine aQ ?_
  all_goals
   refine⟨?_,fL⟩;rw[o.lC,if_neg g5,if_neg g6,if_neg g7,if_pos g8];split<;>first | rfl | (exfalso;omega)
 refine aQ ?_;refine⟨?_,fL⟩;rw[o.lC,if_neg g5,if_neg g6,if_neg g7,if_neg g8]
end Go.Proofs.R
end
section
namespace o
open Go bt
def dN(n b:Nat):Prop:=n*b<=140737488351232
structure Scalar.cQ(x:Scalar):Prop where
 size:ez x.size
structure Var.cQ(x:Var):Prop where
 scalar:ez x.scalar
 over:ez x.over
 bf:ez x.bf
 ad:ez x.ad
 init:ez x.init
structure dv.cQ(x:dv):Prop where
 scalar:ez x.scalar
 cap:ez x.cap
 bf:ez x.bf
 ad:ez x.ad
structure Act.cQ(x:Act):Prop where
 kind:ez x.kind
 to:ez x.to
 loc:ez x.loc
 index:dN x.index.length 16
 value:dN x.value.length 16
structure dI.cQ(x:dI):Prop where
 from_:ez x.from_
 to:ez x.to
 guard:dN x.guard.length 16
 cb:dN x.cb.length 72
 act:∀a∈x.cb,a.cQ
structure dz.cQ(x:dz):Prop where
 over:ez x.over
 cx:ez x.cx
 vars:dN x.vars.length 56
 cI:dN x.cI.length 88
 var:∀a∈x.vars,a.cQ
 cmd:∀a∈x.cI,a.cQ
structure ks.cQ(x:ks):Prop where
 expr:dN x.expr.length 16
structure Model.cQ(m:Model):Prop where
 scalars:dN m.scalars.length 24
 vars:dN m.vars.length 56
 aM:dN m.aM.length 56
 procs:dN m.procs.length 80
 props:dN m.props.length 40
 scalar:∀a∈m.scalars,a.cQ
 var:∀a∈m.vars,a.cQ
 chan:∀a∈m.aM,a.cQ
 proc:∀a∈m.procs,a.cQ
 prop:∀a∈m.props,a.cQ
end o
end
section
namespace o
open Go Go.RowKit bt
structure Scope.cQ(s:Scope):Prop where
 scalars:dN s.scalars.length 24
 vars:dN s.vars.length 56
 aM:dN s.aM.length 56
 procs:dN s.procs.length 80
 locals:dN s.locals.length 56
 proc:∀a∈s.procs,a.cQ
 self:ez s.self
theorem Model.cQ.scope{m:Model}(h:m.cQ):(eN m).cQ:=⟨h.scalars,h.vars,h.aM,h.procs,by simp[eN,dN],h.proc,by simp[eN,ez]⟩
theorem Scope.cQ.inner{s:Scope}{p:dz}(h:s.cQ)(aO:p.cQ):(inner p s).cQ:=⟨h.scalars,h.vars,h.aM,h.procs,aO.vars,h.proc,aO.over⟩
theorem Scope.cQ.qi{s:Scope}(h:s.cQ):(s.vars.length<=1152921504606846976/\s.aM.length<=1152921504606846976/\s.procs.length<=1152921504606846976/\s.locals.length<=1152921504606846976/\ez s.self)/\s.scalars.length<=4611686018427387904:=by
 have ak:=h.scalars;have h1:=h.vars;have U:=h.aM;have ag:=h.procs;have aJ:=h.locals;unfold dN at ak h1 U ag aJ;exact⟨⟨by omega,by omega,by omega,by omega,h.self⟩,by omega⟩
end o
namespace Go.Proofs.R
open Go Go.RowKit bt
theorem M3(v:Value)(xs:List o.Node)(w:World)(h:o.fW w v xs)(aC:o.dN xs.length 16) :
  bu Tryz.prog F.cN #[v] w fun ck w'=>(∃bl c,ck = .slice bl xs.length c)/\eH w (fun w=>o.fW w ck xs) w'/\Ext w w' :=
 Gv mn E.cN (by kernel_rfl) (fun h=>h) v xs w h (by unfold o.dN at aC;omega)
theorem Ow(v:Value)(xs:List o.Var)(w:World)(h:o.hh w v xs)(aC:o.dN xs.length 56) :
  bu Tryz.prog F.xA #[v] w fun ck w'=>(∃bl c,ck = .slice bl xs.length c)/\eH w (fun w=>o.hh w ck xs) w'/\Ext w w' :=
 Gv mn E.xA (by kernel_rfl) (fun h=>h) v xs w h (by unfold o.dN at aC;omega)
theorem akI(v:Value)(xs:List o.Scalar)(w:World)(h:o.hI w v xs)(aC:o.dN xs.length 24) :
  bu Tryz.prog F.CK #[v] w fun ck w'=>(∃bl c,ck = .slice bl xs.length c)/\eH w (fun w=>o.hI w ck xs) w'/\Ext w w' :=
 Gv mn E.CK (by kernel_rfl) (fun h=>h) v xs w h (by unfold o.dN at aC;omega)
theorem abj(v:Value)(xs:List o.dv)(w:World)(h:o.mC w v xs)(aC:o.dN xs.length 56) :
  bu Tryz.prog F.CL #[v] w fun ck w'=>(∃bl c,ck = .slice bl xs.length c)/\eH w (fun w=>o.mC w ck xs) w'/\Ext w w' :=
 Gv mn E.CL (by kernel_rfl) (fun h=>h) v xs w h (by unfold o.dN at aC;omega)
abbrev gN:=Option Addr×Nat×Nat
theorem abC(v:Value)(l:List o.dI)(w:World)(h:o.oO w v l)(aC:o.dN l.length 88)(aZ:∀c∈l,c.cQ) :
  bu Tryz.prog F.bn #[v] w fun ck w'=>(∃bl c,ck = .slice bl l.length c)/\eH w (fun w=>o.oO w ck l) w'/\Ext w w':=by
 obtain⟨b9,c1,rfl,bC⟩:=h.form;refine bL E.bn ?_;refine bG ?_;refine aa ?_;refine K.dj 11 l.length [9,10] (fun v:gN=>[(3,.slice v.1 v.2.1 v.2.2)]) (none,0,0) (fun k v w'=>Ext w w'/\fs o.w8 T.h 6 w.heap.size w' (.slice v.1 v.2.1 v.2.2) (l.take k)) bx bx ⟨Ext.refl _,by simpa using fs.nil _ _ _ _ _⟩ ?_;rintro k v S av hk ⟨aB,qS⟩;refine aa ?_;apply K.cond<;>intro g1
 .have br:k<l.length:=by omega
  have LI:=aZ l[k] (List.getElem_mem _);obtain⟨a,rfl⟩:=h.addr (by omega);obtain⟨ay,fB,ee,aw,wx,uB⟩:=h.at k br;obtain⟨_,_,rfl,_⟩:=wx.form;obtain⟨bl,gO,rfl,aaC⟩:=uB.form;refine aa ?_;intro aU cr dQ aA aP;have Dv:=cH aP;refine aa ?_;refine K.call (M3 _ _ aU (wx.ext (aB.trans aA)) LI.guard) ?_;rintro _ bp ⟨⟨hM,gF,rfl⟩,ox,aN⟩;have bA:=aN.obj aP;have sT:=aA.trans aN;refine aa ?_;intro bR eZ cD;have nK:=eZ.ext sT dQ;have aW:=aB.trans nK;have LZ:=ox.wr eZ Dv;have afk:=cH cD;refine aa ?_;refine K.dj 22 l[k].cb.length [3,5,9,10,11,20,21] (fun v:gN=>[(6,.slice v.1 v.2.1 v.2.2)]) (none,0,0) (fun j v w'=>Ext bR w'/\fs o.Bz T.q 5 bR.heap.size w' (.slice v.1 v.2.1 v.2.2) (l[k].cb.take j)) bx bx ⟨Ext.refl _,by simpa using fs.nil _ _ _ _ _⟩ ?_;rintro j IX S bY aR ⟨a8,dO⟩;have ct:=a8.obj cD;refine aa ?_;apply K.cond<;>intro g2
  .have eP:j<l[k].cb.length:=by omega
   have Uy:=LI.act l[k].cb[j] (List.getElem_mem _);obtain⟨a2,rfl⟩:=uB.addr (by omega);obtain⟨cy,cE,x2,fy,qX⟩:=uB.at j eP;obtain⟨_,_,rfl,_⟩:=fy.form;obtain⟨_,_,rfl,_⟩:=qX.form;have ui:=aW.trans a8;refine aa ?_;intro cd lh jw bJ cS;have Hq:=ui.trans bJ;have aoq:=cH cS;refine aa ?_;intro dg bV;have cK:=bV.obj cS;have Hr:=Hq.trans bV;refine aa ?_;refine K.call (M3 _ _ dg (fy.ext Hr) Uy.index) ?_;rintro _ ea ⟨⟨cU,ci,rfl⟩,HH,b1⟩;refine⟨b1,?_⟩;have dJ:=b1.obj cK;have aeQ:=Hr.trans b1;refine aa ?_;refine K.call (M3 _ _ ea (qX.ext aeQ) Uy.value) ?_;rintro _ e3 ⟨⟨W3,c3,rfl⟩,p1,cv⟩;have hJ:=cv.obj dJ;have HV:=HH.ext cv b1.size;refine aa ?_;intro gg gZ mj;refine aa ?_;intro lI oz ug;refine aa ?_;intro nn pH C5 ke gV;have UN:=cH cK;have UO:=cH dJ;have Zf:=b1.size;have OI:=cv.size;have Jc:=gZ.size;have Zc:=oz.size;have agv:=((HV.wr gZ UN).wr oz UN).ext ke (by omega);have agC:=((p1.wr gZ UO).wr oz UO).ext ke (by omega);have abW:=((bJ.trans bV).trans b1).trans cv;have SG:=(oz.ext (gZ.ext abW jw) jw).trans ke;have Zd:=(bJ.trans bV).size;have SF:=a8.trans SG;have XK:=dO.ext SG;have aG:=NQ eP LI.cb aaC;refine aa ?_;refine K.zq (x:=l[k].cb[j]) (cs:=l[k].cb[j].enc (.slice cU l[k].cb[j].index.length ci) (.slice W3 l[k].cb[j].value.length c3)) XK (hl gV)
    (eH.own (((agv.low Zd).and (agC.low (by omega))).imp fun w h=>⟨_,_,rfl,h.1,h.2⟩) dO a8.size) rfl (by simp[o.Act.enc,Value.oneCell']) aG.1 aG.2 SF.size fun ck w' ba Dn=>?_
   obtain⟨jH,oZ,rfl,_⟩:=ba.form;refine aa ?_;exact⟨eP,bk,(jH,_,oZ),bx,XK.mc SF Dn (Nat.le_refl _),ba.snoc eP⟩
  .have yb:=dO.done (by omega);have KQ:eH bR (fun w=>o.nt w (.slice IX.1 IX.2.1 IX.2.2) l[k].cb) bY:=yb.new;obtain⟨wL,Cc,cV,_⟩:=KQ.here.form;rw[cV] at KQ;refine aa ?_;intro cd dB cS;refine aa ?_;intro dg kN qK bV cK;have z25:aU.heap.size<=bR.heap.size:=by have:=aN.size;have:=eZ.size;omega
   have y3:=a8.size;have z67:=dB.size;have agw:=((LZ.ext a8 z25).wr dB Dv).ext bV (by omega);have agE:=(KQ.wr dB afk).ext bV (by omega);have SC:=(dB.ext (nK.trans a8) dQ).trans bV;have Sw:=aB.trans SC;have XL:=qS.ext SC;have z12:=aA.size;have aG:=NQ br aC bC;refine aa ?_;refine K.zq (x:=l[k]) (cs:=l[k].enc (.slice hM l[k].guard.length gF) (.slice wL l[k].cb.length Cc)) XL (by have:=hl cK;rw[cV] at this;exact this)
    (eH.own (((agw.low z12).and (agE.low nK.size)).imp fun w h=>⟨ay,_,_,rfl,h.1,h.2⟩) qS aB.size) rfl (by simp[o.dI.enc,Value.oneCell']) aG.1 aG.2 Sw.size fun ck w' ba Dn=>?_
   obtain⟨jH,oZ,rfl,_⟩:=ba.form;refine aa ?_;exact⟨br,bk,(jH,_,oZ),bx,XL.mc Sw Dn (Nat.le_refl _),ba.snoc br⟩
 .refine aa ?_;have yb:=qS.done (by omega);have gi:eH w (fun w=>o.oO w (.slice v.1 v.2.1 v.2.2) l) av:=yb.new;obtain⟨wL,Cc,cV,_⟩:=gi.here.form;exact⟨⟨wL,Cc,cV⟩,gi,aB⟩
end Go.Proofs.R
namespace Go.Proofs.R
open Go Go.RowKit bt
theorem VB(p:o.dz)(cz b9 cn cp cA e1 oE:Option Addr)(hb lD jY pn r4 yI M1 bS c1 c2 bP bX fv oe:Nat)(n:Int)(w:World) :
  bu Tryz.prog F.ek #[.agg (p.enc (.slice e1 yI fv) (.slice oE M1 oe)).toArray,.agg #[.slice cz hb bS,.slice b9 lD c1,.slice cn jY c2,.slice cp pn bP,.slice cA r4 bX,.int .i64 n]] w fun v w' =>
   v = .agg #[.slice cz hb bS,.slice b9 lD c1,.slice cn jY c2,.slice cp pn bP,.slice e1 yI fv,.int .i64 p.over]/\Ext w w':=by
 refine bL E.ek ?_;refine bG ?_;simp -dsimp only[cF];refine ef ?_;intro av bC cR aB ao;refine ef ?_;intro aU cr dQ aA aP;refine ef ?_;intro bb b5 fo ax bz;refine ef ?_;have dM:cr≠bC:=by have:=cH ao;omega
 have eh:b5≠cr:=by have:=cH aP;omega
 refine K.gU [2,3,4] (fun _=>[]) (fun(_:Unit) w'=>(Ext w w'/\bb.heap.size<=w'.heap.size)/\w'.heap[cr]? = some (.cells #[.slice cz hb bS,.slice b9 lD c1,.slice cn jY c2,.slice cp pn bP,.slice e1 yI fv,.int .i64 p.over] T.e)/\w'.heap[b5]? = bb.heap[b5]?) ?_ ?_
 .refine aa ?_;intro bp aN;have ao:=((aA.trans ax).trans aN).obj ao;have aP:=(ax.trans aN).obj aP;have bz:=aN.obj bz;have o5:=((aB.trans aA).trans ax).trans aN;have ap2:=aB.size;have Bx:=aN.size;have fin:∀bR bY,dC cr bp bR->dC cr bR bY->bY.heap[cr]? = some (.cells #[.slice cz hb bS,.slice b9 lD c1,.slice cn jY c2,.slice cp pn bP,.slice e1 yI fv,.int .i64 p.over] T.e) ->
    (Ext w bY/\bb.heap.size<=bY.heap.size)/\bY.heap[cr]? = some (.cells #[.slice cz hb bS,.slice b9 lD c1,.slice cn jY c2,.slice cp pn bP,.slice e1 yI fv,.int .i64 p.over] T.e)/\bY.heap[b5]? = bb.heap[b5]? := fun bR bY a b c=>by
   have:=a.size
   have:=b.size
   refine⟨⟨b.ext (a.ext o5 (by omega)) (by omega),by omega⟩,c,?_⟩;rw[b.block b5 eh,a.block b5 eh,bz]
   symm
   assumption
  refine aa ?_;refine⟨?_,?_⟩
  .refine aa ?_;refine⟨?_,?_⟩
   .refine aa ?_;intro bR eZ cD;refine aa ?_;intro bY fZ ct;refine aa ?_;exact⟨(),trivial,fin bR bY eZ fZ ct⟩
   .refine aa ?_;intro bR eZ cD;have ao:=eZ.obj ao (Ne.symm dM);refine aa ?_;intro bY fZ ct;refine aa ?_;exact⟨(),trivial,fin bR bY eZ fZ ct⟩
  .refine aa ?_;intro bR eZ cD;refine aa ?_;intro bY fZ ct;refine aa ?_;exact⟨(),trivial,fin bR bY eZ fZ ct⟩
 rintro _ S bp ⟨⟨aN,z4⟩,bA,Lv⟩;rw[bz] at Lv;have cw:=cH bz;refine aa ?_;intro bR eZ cD;refine aa ?_;exact⟨bk,eZ.ext aN (by have:=aB.size;have:=aA.size;omega)⟩
theorem abH(cs:List Value)(s:o.Scope)(w:World)(h:o.fC w cs s)(aZ:s.cQ) :
  bu Tryz.prog F.Cv #[.agg cs.toArray] w fun v w'=>(∃iy,v = .agg iy.toArray/\eH w (fun w=>o.fC w iy s) w')/\Ext w w':=by
 have sZ:=aZ.qi;obtain⟨cz,bS,b9,c1,cn,c2,cp,bP,cA,bX,rfl,ak,h1,U,ag,aJ,_,ej,eo,dX,ep⟩:=h.form;refine bL E.Cv ?_;refine bG ?_;refine aa ?_;intro av bC cR aB ao;refine aa ?_;intro aU cr dQ aA aP;have sM:cr≠bC:=by have:=cH ao;omega
 refine aa ?_;intro bb ax;have tR:=(aB.trans aA).trans ax;have ao:=(aA.trans ax).obj ao;have aP:=ax.obj aP;have Du:=cH ao;have Dv:=cH aP;refine aa ?_;refine K.call (akI _ _ bb (ak.ext tR) aZ.scalars) ?_;rintro _ bp ⟨⟨k3,Fx,rfl⟩,hb,aN⟩;refine⟨aN,?_⟩;refine aa ?_;refine K.call (Ow _ _ bp (h1.ext (tR.trans aN)) aZ.vars) ?_;rintro _ bR ⟨⟨j1,kI,rfl⟩,lD,aW⟩;refine⟨aN.trans aW,?_⟩;refine aa ?_;refine K.call (abj _ _ bR (U.ext ((tR.trans aN).trans aW)) aZ.aM) ?_;rintro _ bY ⟨⟨j2,kq,rfl⟩,jY,a8⟩;have ao:=((aN.trans aW).trans a8).obj ao;have aP:=((aN.trans aW).trans a8).obj aP;have vP:=((tR.trans aN).trans aW).trans a8;have n36:=(hb.ext (aW.trans a8) aN.size).and (((lD.ext a8 aW.size).low aN.size).and (jY.low (aN.trans aW).size));refine aa ?_;intro cd dB cS;refine aa ?_;intro dg iG cK;refine aa ?_;intro ea iQ dJ;have Sx:=iQ.ext (iG.ext (dB.ext vP cR) cR) cR;have n39:=((n36.wr dB Du).wr iG Du).wr iQ Du;have z36:=((aN.trans aW).trans a8).size;have ap6:ea.heap.size=bY.heap.size:=by rw[iQ.size,iG.size,dB.size]
 have aP:=iQ.obj (iG.obj (dB.obj aP sM) sM) sM;refine aa ?_;refine K.call (Ow _ _ ea (aJ.ext Sx) aZ.locals) ?_;rintro _ e3 ⟨⟨nq,y0,rfl⟩,r4,cv⟩;have hJ:=cv.obj dJ;have aP:=cv.obj aP;refine aa ?_;intro gg gZ mj;have aP:=gZ.obj aP sM;have Su:=gZ.ext (Sx.trans cv) cR;have OI:=cv.size;have Jc:=gZ.size;have n311:=((n39.ext cv (by omega)).wr gZ Du).and ((r4.wr gZ (cH dJ)).low (w0:=bb) (by omega));have afj:=cH mj;refine aa ?_;refine K.dj 25 s.procs.length [1,2,23,24] (fun v:gN=>[(3,.slice v.1 v.2.1 v.2.2)]) (none,0,0) (fun k v w'=>Ext gg w'/\fs o.vp T.i 5 gg.heap.size w' (.slice v.1 v.2.1 v.2.2) (s.procs.take k)) bx bx ⟨Ext.refl _,by simpa using fs.nil _ _ _ _ _⟩ ?_;rintro k v S lI hk ⟨fx,L2⟩;have ug:=fx.obj mj;refine aa ?_;apply K.cond<;>intro g1
 .have br:k<s.procs.length:=by omega
  have LJ:=aZ.proc s.procs[k] (List.getElem_mem _);obtain⟨a,rfl⟩:=ag.addr (by omega);obtain⟨ay,cE,dT,dL,eR,gn⟩:=ag.at k br;obtain⟨_,_,rfl,_⟩:=eR.form;obtain⟨_,_,rfl,_⟩:=gn.form;have Sv:=Su.trans fx;refine aa ?_;intro np xz G9 ya Hh;have abT:=Sv.trans ya;refine aa ?_;refine K.call (Ow _ _ np (eR.ext abT) LJ.vars) ?_;rintro _ yX ⟨⟨e1,fv,rfl⟩,yI,pW⟩;have sQ:=pW.obj Hh;refine aa ?_;intro Bv Mt T1;have Kk:=Mt.ext (ya.trans pW) G9;have abU:=Sv.trans Kk;refine aa ?_;refine K.call (abC _ _ Bv (gn.ext abU) LJ.cI LJ.cmd) ?_;rintro _ apT ⟨⟨oE,oe,rfl⟩,M1,Hu⟩;have an4:=Hu.obj T1;refine aa ?_;intro apU HS hy;have abV:=HS.ext (Kk.trans Hu) G9;refine aa ?_;intro apV ana anV LA aeC;have SB:=abV.trans LA;have Zg:=cH Hh;have ap9:=pW.size;have aqa:=Mt.size;have aqb:=Hu.size;have aqc:=HS.size;have ais:=(((yI.wr Mt Zg).ext Hu (by omega)).wr HS Zg).ext LA (by omega);have aib:=(M1.wr HS (cH T1)).ext LA (by omega);have XM:=L2.ext SB;have aG:=NQ br aZ.procs dX;have SA:=fx.trans SB;refine aa ?_;refine K.zq (x:=s.procs[k]) (cs:=s.procs[k].enc (.slice e1 s.procs[k].vars.length fv) (.slice oE s.procs[k].cI.length oe)) XM (hl aeC)
   (eH.own (((ais.low ya.size).and (aib.low Kk.size)).imp fun w h=>⟨ay,_,_,rfl,h.1,h.2⟩) L2 fx.size) rfl (by simp[o.dz.enc,Value.oneCell']) aG.1 aG.2 SA.size fun ck w' ba Dn=>?_
  obtain⟨jH,oZ,rfl,_⟩:=ba.form;refine aa ?_;exact⟨br,bk,(jH,_,oZ),bx,XM.mc SA Dn (Nat.le_refl _),ba.snoc br⟩
 .have yb:=L2.done (by omega);have gi:eH gg (fun w=>o.pB w (.slice v.1 v.2.1 v.2.2) s.procs) lI:=yb.new;obtain⟨wL,Cc,cV,_⟩:=gi.here.form;rw[cV] at gi;have aP:=fx.obj aP;refine aa ?_;intro nn hK gV;have aP:=hK.obj aP sM;refine aa ?_;intro YS DQ ael;have Zc:=fx.size;have n14:=(((n311.ext fx (by omega)).wr hK Du).wr DQ Dv).and (((gi.wr hK afj).wr DQ (Nat.lt_of_lt_of_le Dv (by omega))).low (w0:=bb) (by omega));have z12:=aB.size;have dS:=DQ.ext (hK.ext (Su.trans fx) cR) (by omega);refine aa ?_;refine⟨⟨[.slice k3 s.scalars.length Fx,.slice j1 s.vars.length kI,.slice j2 s.aM.length kq,.slice wL s.procs.length Cc,.slice nq s.locals.length y0,.int .i64 s.self],?_,
   (n14.low tR.size).imp fun w h=>⟨sZ.1,_,_,_,_,_,rfl,h.1.1.1,h.1.1.2.1,h.1.1.2.2,h.2,h.1.2,sZ.2⟩⟩,dS⟩
  rw[cV]
  first | trivial | rfl
end Go.Proofs.R
end
section
namespace o
open Go Go.RowKit bt
theorem ec.form{w:World}{cs:List Value}{m:Model}(h:ec w cs m):∃a0 bS dD c1 a2 c2 a3 bP a4 bX,cs=[.slice a0 m.scalars.length bS,.slice dD m.vars.length c1,.slice a2 m.aM.length c2,.slice a3 m.procs.length bP,.slice a4 m.props.length bX] /\
  hI w (.slice a0 m.scalars.length bS) m.scalars/\hh w (.slice dD m.vars.length c1) m.vars/\mC w (.slice a2 m.aM.length c2) m.aM/\pB w (.slice a3 m.procs.length bP) m.procs/\zf w (.slice a4 m.props.length bX) m.props /\
  m.scalars.length<=9223372036854775807/\m.vars.length<=9223372036854775807/\m.aM.length<=9223372036854775807/\m.procs.length<=9223372036854775807/\m.props.length<=9223372036854775807:=by
 obtain⟨v0,v1,v2,v3,v4,rfl,ak,h1,U,ag,aJ⟩:=h.ex;obtain⟨a0,bS,rfl,eI⟩:=ak.form;obtain⟨dD,c1,rfl,ej⟩:=h1.form;obtain⟨a2,c2,rfl,eo⟩:=U.form;obtain⟨a3,bP,rfl,dX⟩:=ag.form;obtain⟨a4,bX,rfl,ep⟩:=aJ.form;exact⟨a0,bS,dD,c1,a2,c2,a3,bP,a4,bX,rfl,ak,h1,U,ag,aJ,eI,ej,eo,dX,ep⟩
theorem Xe{m:Model}{k:Nat}(h:k<m.procs.length):gJ m (k:Int)=inner m.procs[k] (eN m):=by
 unfold gJ;rw[iT (by omega) (by omega)];simp
theorem Iu{m:Model}{i:Int}(h:i<0\/(m.procs.length:Int)<=i):gJ m i=eN m:=by
 unfold gJ;rw[hL h]
theorem Model.cQ.gJ{m:Model}(h:m.cQ)(i:Int):(gJ m i).cQ:=by
 unfold o.gJ;cases aD:nth m.procs i with
 | none=>exact h.scope
 | some p =>
  refine h.scope.inner (h.proc p ?_);unfold nth at aD;by_cases ak:0<=i
  .rw[if_pos ak] at aD;exact List.mem_of_getElem? aD
  .rw[if_neg ak] at aD;cases aD
end o
namespace Go.Proofs.R
open Go Go.RowKit bt
theorem X6(cs:List Value)(m:o.Model)(i:Int)(w:World)(h:o.ec w cs m)(aZ:m.cQ) :
  bu Tryz.prog F.dU #[.agg cs.toArray,.int .i64 i] w fun v w'=>(∃iy,v = .agg iy.toArray/\eH w (fun w=>o.fC w iy (o.gJ m i)) w')/\Ext w w':=by
 obtain⟨cz,bS,b9,c1,cn,c2,cp,bP,cA,bX,rfl,ak,h1,U,ag,aJ,eI,ej,eo,dX,ep⟩:=h.form;have sZ:=aZ.scope.qi;refine bL E.dU ?_;refine bG ?_;simp -dsimp only[cF];refine ef ?_;intro av bC cR aB ao;refine ef ?_;intro aU cr dQ aA aP;simp -dsimp only[cF];refine ef ?_;intro bb b5 fo ax bz;refine ef ?_;have BE:∀{w':World},Ext bb w'->Ext w w':=fun e=>((aB.trans aA).trans ax).trans e;have cg:∀w',Ext w w'->o.fC w' [.slice cz m.scalars.length bS,.slice b9 m.vars.length c1,.slice cn m.aM.length c2,.slice cp m.procs.length bP,.slice none 0 0,.int .i64 0] (o.eN m):=fun w' e =>
  ⟨sZ.1,_,_,_,_,_,rfl,ak.ext e,h1.ext e,U.ext e,ag.ext e,bF.nil,sZ.2⟩
 refine K.gU [2,4,5] (fun _=>[]) (fun(x:List Value) w'=>Ext w w'/\Ext aU w'/\w'.heap[b5]? = some (.cells x.toArray T.e)/\o.fC w' x (o.gJ m i)) ?_ ?_
 .refine aa ?_;apply K.cond<;>intro g1;rotate_left
  .refine aa ?_;exact⟨_,trivial,BE (Ext.refl _),ax,bz,by rw[o.Iu (.inl (by omega))];exact cg _ (BE (Ext.refl _))⟩
  refine aa ?_;apply K.cond<;>intro g2;rotate_left
  .refine aa ?_;exact⟨_,trivial,BE (Ext.refl _),ax,bz,by rw[o.Iu (.inr (by omega))];exact cg _ (BE (Ext.refl _))⟩
  obtain⟨k,rfl⟩:=Int.eq_ofNat_of_zero_le (show 0<=i by omega);have hk:k<m.procs.length:=by omega
  obtain⟨a,rfl⟩:=ag.addr (by omega);obtain⟨ay,cE,dT,dL,eR,gn⟩:=ag.at k hk;obtain⟨e1,fv,rfl,_⟩:=eR.form;obtain⟨_,_,rfl,_⟩:=gn.form;refine aa ?_;intro bp aN;have bA:=aN.obj bz;refine aa ?_;refine K.call (VB m.procs[k] _ _ _ _ _ _ _ _ _ _ _ _ _ _ _ _ _ _ _ _ _ _ bp) ?_;rintro _ bR ⟨rfl,aW⟩;have cD:=aW.obj bA;refine aa ?_;intro bY fZ ct;refine aa ?_;have vP:=fZ.ext (BE (aN.trans aW)) (by have:=aB.size;have:=aA.size;omega);exact⟨_,trivial,vP,fZ.ext ((ax.trans aN).trans aW) fo,ct,by
   rw[o.Xe hk];exact⟨(aZ.scope.inner (aZ.proc _ (List.getElem_mem hk))).qi.1,_,_,_,_,_,rfl,ak.ext vP,h1.ext vP,U.ext vP,ag.ext vP,eR.ext vP,sZ.2⟩⟩
 rintro x S bp ⟨Cq,GJ,bA,au⟩;have aP:=GJ.obj aP;refine aa ?_;refine K.jX (hl bA) ?_ ?_
 .obtain⟨_,_,_,_,_,rfl,_⟩:=au.ex;rfl
 refine aa ?_;refine K.call (abH _ _ bp au (aZ.gJ i)) ?_;rintro _ bR ⟨⟨iy,rfl,aD⟩,aW⟩;have cD:=aW.obj aP;obtain⟨Fx,d0,kI,d1,kq,d2,yZ,d3,y0,d4,rfl,_⟩:=aD.here.form;refine aa ?_;intro bY fZ ct;refine aa ?_
 have:=cH aP
 exact⟨⟨_,rfl,(aD.wr fZ this).low Cq.size⟩,fZ.ext (Cq.trans aW) (by have:=aB.size;omega)⟩
theorem aj0{w0:World}(cs:List Value)(m:o.Model)(i:Int)(w:World)(h:o.ec w0 cs m)(dS:Ext w0 w)(aZ:m.cQ) :
  bu Tryz.prog F.Em #[.agg cs.toArray,.int .i64 i] w fun v w'=>(∃iy,v = .agg iy.toArray/\∀b2,Ext w0 b2->o.fC b2 iy (o.gJ m i))/\Ext w w':=by
 obtain⟨cz,bS,b9,c1,cn,c2,cp,bP,cA,bX,rfl,ak,h1,U,ag,aJ,eI,ej,eo,dX,ep⟩:=h.form;have sZ:=aZ.scope.qi;refine bL E.Em ?_;refine bG ?_;refine aa ?_;intro av bC cR aB ao;refine aa ?_;intro aU cr dQ aA aP;have Jg:∀{w':World},Ext aU w'->Ext w w':=fun e=>(aB.trans aA).trans e;have UR:∀{w':World},i<0\/(m.procs.length:Int)<=i->Ext w0 w'->o.fC w' [.slice cz m.scalars.length bS,.slice b9 m.vars.length c1,.slice cn m.aM.length c2,.slice cp m.procs.length bP,.slice none 0 0,.int .i64 0] (o.gJ m i):=fun {w'} ad e=>by
  rw[o.Iu ad];exact⟨sZ.1,_,_,_,_,_,rfl,ak.ext e,h1.ext e,U.ext e,ag.ext e,bF.nil,sZ.2⟩
 refine aa ?_;apply K.cond<;>intro g1
 .refine aa ?_;intro bb fR bz;have tR:=fR.ext (Jg (Ext.refl _)) (by have:=aB.size;omega);refine aa ?_;exact⟨⟨_,rfl,fun b2 e=>UR (.inl g1) e⟩,tR⟩
 refine aa ?_;apply K.cond<;>intro g2
 .refine aa ?_;intro bb fR bz;have tR:=fR.ext (Jg (Ext.refl _)) (by have:=aB.size;omega);refine aa ?_;exact⟨⟨_,rfl,fun b2 e=>UR (.inr g2) e⟩,tR⟩
 obtain⟨k,rfl⟩:=Int.eq_ofNat_of_zero_le (show 0<=i by omega);have hk:k<m.procs.length:=by omega
 obtain⟨a,rfl⟩:=ag.addr (by omega);obtain⟨ay,cE,dT,dL,eR,gn⟩:=ag.at k hk;obtain⟨e1,fv,rfl,_⟩:=eR.form;obtain⟨_,_,rfl,_⟩:=gn.form;refine aa ?_;intro bb b5 fo ax bz;have aP:=ax.obj aP;refine aa ?_;intro bp ey bA;have Cq:=ey.ext (Jg ax) (by have:=aB.size;omega);refine aa ?_;exact⟨⟨_,rfl,fun b2 e=>by
  rw[o.Xe hk];exact⟨(aZ.scope.inner (aZ.proc _ (List.getElem_mem hk))).qi.1,_,_,_,_,_,rfl,ak.ext e,h1.ext e,U.ext e,ag.ext e,eR.ext e,sZ.2⟩⟩,Cq⟩
abbrev kL:=Option Addr×Nat×Nat
def IF(x:kL):Value:=.slice x.1 x.2.1 x.2.2
def encS(x:ByteArray):List Value:=[.string x]
theorem ab9(y:ByteArray):∀u∈encS y,u.oneCell'=true:=by
 intro u hu;simp only[encS,List.mem_cons,List.not_mem_nil,or_false] at hu;subst hu;rfl
abbrev ze(base:Nat)(w:World)(v:kL)(b6:List ByteArray):Prop:=bs encS T.k 1 base w (IF v) b6
structure P8(m:o.Model):Prop where
 s:m.scalars.length<=20
 v:m.vars.length<=20
 c:m.aM.length<=20
 p:m.procs.length<=20
 q:m.props.length<=20
 i:∀(j:Nat) (h:j<m.procs.length),m.procs[j].vars.length<=20/\m.procs[j].cI.length<=20
structure jo(w w':World)(bC:Nat)(cs:List Value)(v:kL)(b6:List ByteArray):Prop where
 ext:Ext w w'
 h1:w'.heap[bC]? = some (.cells cs.toArray T.b)
 own:ze w.heap.size w' v b6
theorem jo.then{w w' b2:World}{bC:Nat}{cs:List Value}{v:kL}{b6:List ByteArray}(h:jo w w' bC cs v b6)(he:Ext w' b2):jo w b2 bC cs v b6:=⟨h.ext.trans he,he.obj h.h1,h.own.ext he⟩
theorem jo.grown{w w' b2:World}{bC:Nat}{cs:List Value}{v ck:kL}{b6 nj:List ByteArray}(h:jo w w' bC cs v b6)(aZ:w'.grownBy b2 (IF v).ownBlock)(bc:ze w.heap.size b2 ck nj):jo w b2 bC cs ck nj:=by
 refine⟨Ext.grown h.ext aZ fun k hk=>(h.own.lt k hk).1,?_,bc⟩;rw[aZ.block bC (cH h.h1) fun e'=>?_]
 .exact h.h1
 rcases h.own.2 with ⟨e,_⟩ | ⟨g,cap,c2,e,_,Ai,_⟩
 .rw[e] at e';cases e'
 .rw[e] at e';simp only[Value.ownBlock,Option.some.injEq] at e';subst e'
  have:=h.h1.symm.trans Ai
  injection this with this
  injection this with _ this
  revert this;decide
theorem jo.iu{w w':World}{bC:Nat}{cs:List Value}{v:kL}{b6 nj:List ByteArray}(h:jo w w' bC cs v b6)(e:b6=nj):jo w w' bC cs v nj:=e ▸ h
theorem Bp{α β:Type}(f:α->β)(pre:List β)(l:List α)(k:Nat)(h:k<l.length):pre++(l.take k).map f++[f l[k]]=pre++(l.take (k+1)).map f:=by
 rw[List.take_succ_eq_append_getElem h,List.map_append,<-List.append_assoc];rfl
end Go.Proofs.R
end
section
namespace o
def cP(q p i:Int)(len:Nat):Nat:=if q<p then (if q+1<p then len else min len i.toNat) else 0
def hs(p i:Int)(len:Nat):Nat:=if 4<p then min len i.toNat else 0
def tE(m:Model)(p i:Int):List ByteArray :=
 m.scalars.map (·.name)++(m.vars.take (cP 1 p i m.vars.length)).map (·.name)++(m.aM.take (cP 2 p i m.aM.length)).map (·.name)++(m.procs.take (cP 3 p i m.procs.length)).map (·.name)++(m.props.take (hs p i m.props.length)).map (·.name)
end o
namespace Go.Proofs.R
open Go Go.RowKit bt
theorem B3{P:Program}{v:kL}{b6:List ByteArray}{x:ByteArray}{b c base:Nat}{w:World}{da:Value->World->Prop}{ty:TypeId}{t}(h:ze base w v b6)(aw:w.heap[b]? = some (.cells #[.string x] T.k))(hm:b6.length+1<=8796093022208)(jx:base<=w.heap.size)
  (hk:∀(ck:kL) w',ze base w' ck (b6++[x])->w.grownBy w' (IF v).ownBlock->da (.slice ck.1 ck.2.1 ck.2.2) w'):k4 P ty T.k 1 16 (.slice v.1 v.2.1 v.2.2) (.slice (some ⟨b,0,none⟩) 1 c) w da t:=by
 have qd:(b6.length+1)*16<=140737488355328:=by omega
 have sa:b6.length+1<=maxLen:=by unfold maxLen;omega
 refine K.su (b:=16) (s:=IF v) (ys:=[x]) h (fun _=>rfl) (hl aw) rfl ab9 qd sa jx fun ck w' bc aZ=>?_;obtain⟨bl,cap,rfl,_⟩:=bc.form;exact hk (bl,_,cap) w' bc aZ
theorem BZ(cs:List Value)(m:o.Model)(p i:Int)(w:World)(h:o.ec w cs m)(aO:2<=p)(ad:0<=i)(aS:m.scalars.length+o.cP 1 p i m.vars.length+o.cP 2 p i m.aM.length+o.cP 3 p i m.procs.length+o.hs p i m.props.length<=8000000000000) :
  bu Tryz.prog F.uP #[.agg cs.toArray,.int .i64 p,.int .i64 i] w fun u w'=>(∃v:kL,u = .slice v.1 v.2.1 v.2.2/\ze w.heap.size w' v (o.tE m p i))/\Ext w w':=by
 obtain⟨cz,bS,b9,c1,cn,c2,cp,bP,cA,bX,rfl,ak,h1,U,ag,aJ,eI,ej,eo,dX,ep⟩:=h.form;refine bL E.uP ?_;refine bG ?_;simp -dsimp only[cF];refine ef ?_;intro av bC cR aB ao;have tp:jo w av bC _ (none,0,0) []:=⟨aB,ao,bs.nil _ _ _ _ _⟩;clear ao;refine ef ?_;simp -dsimp only[cF];refine ef ?_;refine K.gU [1,2,3] (fun v:kL=>[(7,.slice v.1 v.2.1 v.2.2)]) (fun v w'=>jo w w' bC [.slice cz m.scalars.length bS,.slice b9 m.vars.length c1,.slice cn m.aM.length c2,.slice cp m.procs.length bP,.slice cA m.props.length bX] v (([]:List ByteArray)++(m.scalars.map (·.name)))) ?_ ?_
 .have gi:m.scalars.length<=m.scalars.length:=by exact Nat.le_refl _
  have dS:=tp.ext;have f0:=tp.h1;refine aa ?_;refine K.dj 8 (m.scalars.length) [1,2,3] (fun v:kL=>[(7,.slice v.1 v.2.1 v.2.2)]) ((none,0,0):kL) (fun k v w'=>jo w w' bC [.slice cz m.scalars.length bS,.slice b9 m.vars.length c1,.slice cn m.aM.length c2,.slice cp m.procs.length bP,.slice cA m.props.length bX] v (([]:List ByteArray)++(m.scalars.take k).map (·.name))) bx bx (tp.iu (by simp)) ?_;clear dS f0;rintro k k2 S ps hk jZ;have oi:=jZ.ext;have tZ:=jZ.h1;have fin:k=m.scalars.length->jo w ps bC [.slice cz m.scalars.length bS,.slice b9 m.vars.length c1,.slice cn m.aM.length c2,.slice cp m.procs.length bP,.slice cA m.props.length bX] k2 (([]:List ByteArray)++(m.scalars.map (·.name))):=fun e=>jZ.iu (by rw[e];simp);refine K.gU [1,2,3,7,8] (fun _:Unit=>[]) (fun _ w'=>w'=ps/\k<m.scalars.length) ?_ ?_
  .refine aa ?_;apply K.cond<;>intro g1
   .refine aa ?_;exact⟨(),trivial,bk,by omega⟩
   .refine aa ?_;exact⟨k2,bx,fin (by omega)⟩
  rintro _ kt _ ⟨rfl,uq⟩;have br:k<m.scalars.length:=by omega
  obtain⟨a,rfl⟩:=ak.addr (by omega);have en:=((ak.at k br).cells).ext oi;refine aa ?_;intro yX Gk Ha pW sQ;have lH:=jZ.then pW;have z:=lH.ext.size;refine aa ?_;refine B3 lH.own sQ (by simp only[List.length_append,List.length_map,List.length_nil,List.length_cons,List.length_take];omega) z fun vb Bv uv uo=>?_;have u6:=(lH.grown uo uv).iu (Bp (fun x:o.Scalar=>x.name) _ _ _ br);refine aa ?_;exact⟨uq,bk,vb,bx,u6⟩
 clear tp;rintro v1 sn aU st1;have j1:=st1.ext;have f1:=st1.h1;refine K.gU [1,2,3] (fun v:kL=>[(7,.slice v.1 v.2.1 v.2.2)]) (fun v w'=>jo w w' bC [.slice cz m.scalars.length bS,.slice b9 m.vars.length c1,.slice cn m.aM.length c2,.slice cp m.procs.length bP,.slice cA m.props.length bX] v (([]++(m.scalars.map (·.name)))++((m.vars.take (o.cP 1 p i m.vars.length)).map (·.name)))) ?_ ?_
 .have gi:o.cP 1 p i m.vars.length<=m.vars.length:=by unfold o.cP; (repeat' split)<;>omega
  have dS:=st1.ext;have f0:=st1.h1;refine aa ?_;refine K.dj 9 (o.cP 1 p i m.vars.length) [1,2,3] (fun v:kL=>[(7,.slice v.1 v.2.1 v.2.2)]) v1 (fun k v w'=>jo w w' bC [.slice cz m.scalars.length bS,.slice b9 m.vars.length c1,.slice cn m.aM.length c2,.slice cp m.procs.length bP,.slice cA m.props.length bX] v (([]++(m.scalars.map (·.name)))++(m.vars.take k).map (·.name))) bx bx (st1.iu (by simp)) ?_;clear dS f0;rintro k k2 S ps hk jZ;have oi:=jZ.ext;have tZ:=jZ.h1;have fin:k=o.cP 1 p i m.vars.length->jo w ps bC [.slice cz m.scalars.length bS,.slice b9 m.vars.length c1,.slice cn m.aM.length c2,.slice cp m.procs.length bP,.slice cA m.props.length bX] k2 (([]++(m.scalars.map (·.name)))++((m.vars.take (o.cP 1 p i m.vars.length)).map (·.name))):=fun e=>jZ.iu (by rw[e]);refine K.gU [1,2,3,7,9] (fun _:Unit=>[]) (fun _ w'=>w'=ps/\k<o.cP 1 p i m.vars.length) ?_ ?_
  .refine aa ?_;apply K.cond<;>intro g1
   .refine aa ?_;apply K.cond<;>intro g3
    .refine aa ?_;exact⟨(),trivial,bk,by unfold o.cP at gi hk ⊢; (repeat' split at hk) <;> (repeat' split)<;>omega⟩
    .refine aa ?_;apply K.cond<;>intro g4
     .refine aa ?_;exact⟨(),trivial,bk,by unfold o.cP at gi hk ⊢; (repeat' split at hk) <;> (repeat' split)<;>omega⟩
     .refine aa ?_;exact⟨k2,bx,fin (by unfold o.cP at gi hk ⊢; (repeat' split at hk) <;> (repeat' split)<;>omega)⟩
   .refine aa ?_;exact⟨k2,bx,fin (by unfold o.cP at gi hk ⊢; (repeat' split at hk) <;> (repeat' split)<;>omega)⟩
  rintro _ kt _ ⟨rfl,uq⟩;have br:k<m.vars.length:=by omega
  obtain⟨a,rfl⟩:=h1.addr (by omega);have en:=((h1.at k br).cells).ext oi;refine aa ?_;intro yX Gk Ha pW sQ;have lH:=jZ.then pW;have z:=lH.ext.size;refine aa ?_;refine B3 lH.own sQ (by simp only[List.length_append,List.length_map,List.length_nil,List.length_cons,List.length_take];omega) z fun vb Bv uv uo=>?_;have u6:=(lH.grown uo uv).iu (Bp (fun x:o.Var=>x.name) _ _ _ br);refine aa ?_;exact⟨uq,bk,vb,bx,u6⟩
 clear st1;rintro v2 kt bb st2;have j2:=st2.ext;have f2:=st2.h1;refine K.gU [1,2,3] (fun v:kL=>[(7,.slice v.1 v.2.1 v.2.2)]) (fun v w'=>jo w w' bC [.slice cz m.scalars.length bS,.slice b9 m.vars.length c1,.slice cn m.aM.length c2,.slice cp m.procs.length bP,.slice cA m.props.length bX] v ((([]++(m.scalars.map (·.name)))++((m.vars.take (o.cP 1 p i m.vars.length)).map (·.name)))++((m.aM.take (o.cP 2 p i m.aM.length)).map (·.name)))) ?_ ?_
 .have gi:o.cP 2 p i m.aM.length<=m.aM.length:=by unfold o.cP; (repeat' split)<;>omega
  have dS:=st2.ext;have f0:=st2.h1;refine aa ?_;refine K.dj 10 (o.cP 2 p i m.aM.length) [1,2,3] (fun v:kL=>[(7,.slice v.1 v.2.1 v.2.2)]) v2 (fun k v w'=>jo w w' bC [.slice cz m.scalars.length bS,.slice b9 m.vars.length c1,.slice cn m.aM.length c2,.slice cp m.procs.length bP,.slice cA m.props.length bX] v ((([]++(m.scalars.map (·.name)))++((m.vars.take (o.cP 1 p i m.vars.length)).map (·.name)))++(m.aM.take k).map (·.name))) bx bx (st2.iu (by simp)) ?_;clear dS f0;rintro k k2 S ps hk jZ;have oi:=jZ.ext;have tZ:=jZ.h1;have fin:k=o.cP 2 p i m.aM.length->jo w ps bC [.slice cz m.scalars.length bS,.slice b9 m.vars.length c1,.slice cn m.aM.length c2,.slice cp m.procs.length bP,.slice cA m.props.length bX] k2 ((([]++(m.scalars.map (·.name)))++((m.vars.take (o.cP 1 p i m.vars.length)).map (·.name)))++((m.aM.take (o.cP 2 p i m.aM.length)).map (·.name))):=fun e=>jZ.iu (by rw[e]);refine K.gU [1,2,3,7,10] (fun _:Unit=>[]) (fun _ w'=>w'=ps/\k<o.cP 2 p i m.aM.length) ?_ ?_
  .refine aa ?_;apply K.cond<;>intro g1
   .refine aa ?_;apply K.cond<;>intro g2
    .refine aa ?_;apply K.cond<;>intro g3
     .refine aa ?_;exact⟨(),trivial,bk,by unfold o.cP at gi hk ⊢; (repeat' split at hk) <;> (repeat' split)<;>omega⟩
     .refine aa ?_;apply K.cond<;>intro g4
      .refine aa ?_;exact⟨(),trivial,bk,by unfold o.cP at gi hk ⊢; (repeat' split at hk) <;> (repeat' split)<;>omega⟩
      .refine aa ?_;exact⟨k2,bx,fin (by unfold o.cP at gi hk ⊢; (repeat' split at hk) <;> (repeat' split)<;>omega)⟩
    .refine aa ?_;exact⟨k2,bx,fin (by unfold o.cP at gi hk ⊢; (repeat' split at hk) <;> (repeat' split)<;>omega)⟩
   .refine aa ?_;exact⟨k2,bx,fin (by unfold o.cP at gi hk ⊢; (repeat' split at hk) <;> (repeat' split)<;>omega)⟩
  rintro _ kt _ ⟨rfl,uq⟩;have br:k<m.aM.length:=by omega
  obtain⟨a,rfl⟩:=U.addr (by omega);have en:=((U.at k br).cells).ext oi;refine aa ?_;intro yX Gk Ha pW sQ;have lH:=jZ.then pW;have z:=lH.ext.size;refine aa ?_;refine B3 lH.own sQ (by simp only[List.length_append,List.length_map,List.length_nil,List.length_cons,List.length_take];omega) z fun vb Bv uv uo=>?_;have u6:=(lH.grown uo uv).iu (Bp (fun x:o.dv=>x.name) _ _ _ br);refine aa ?_;exact⟨uq,bk,vb,bx,u6⟩
 clear st2;rintro v3 Jx bp k1;have nY:=k1.ext;have f3:=k1.h1;refine K.gU [1,2,3] (fun v:kL=>[(7,.slice v.1 v.2.1 v.2.2)]) (fun v w'=>jo w w' bC [.slice cz m.scalars.length bS,.slice b9 m.vars.length c1,.slice cn m.aM.length c2,.slice cp m.procs.length bP,.slice cA m.props.length bX] v (((([]++(m.scalars.map (·.name)))++((m.vars.take (o.cP 1 p i m.vars.length)).map (·.name)))++((m.aM.take (o.cP 2 p i m.aM.length)).map (·.name)))++((m.procs.take (o.cP 3 p i m.procs.length)).map (·.name)))) ?_ ?_
 .have gi:o.cP 3 p i m.procs.length<=m.procs.length:=by unfold o.cP; (repeat' split)<;>omega
  have dS:=k1.ext;have f0:=k1.h1;refine aa ?_;refine K.dj 11 (o.cP 3 p i m.procs.length) [1,2,3] (fun v:kL=>[(7,.slice v.1 v.2.1 v.2.2)]) v3 (fun k v w'=>jo w w' bC [.slice cz m.scalars.length bS,.slice b9 m.vars.length c1,.slice cn m.aM.length c2,.slice cp m.procs.length bP,.slice cA m.props.length bX] v (((([]++(m.scalars.map (·.name)))++((m.vars.take (o.cP 1 p i m.vars.length)).map (·.name)))++((m.aM.take (o.cP 2 p i m.aM.length)).map (·.name)))++(m.procs.take k).map (·.name))) bx bx (k1.iu (by simp)) ?_;clear dS f0;rintro k k2 S ps hk jZ;have oi:=jZ.ext;have tZ:=jZ.h1;have fin:k=o.cP 3 p i m.procs.length->jo w ps bC [.slice cz m.scalars.length bS,.slice b9 m.vars.length c1,.slice cn m.aM.length c2,.slice cp m.procs.length bP,.slice cA m.props.length bX] k2 (((([]++(m.scalars.map (·.name)))++((m.vars.take (o.cP 1 p i m.vars.length)).map (·.name)))++((m.aM.take (o.cP 2 p i m.aM.length)).map (·.name)))++((m.procs.take (o.cP 3 p i m.procs.length)).map (·.name))):=fun e=>jZ.iu (by rw[e]);refine K.gU [1,2,3,7,11] (fun _:Unit=>[]) (fun _ w'=>w'=ps/\k<o.cP 3 p i m.procs.length) ?_ ?_
  .refine aa ?_;apply K.cond<;>intro g1
   .refine aa ?_;apply K.cond<;>intro g2
    .refine aa ?_;apply K.cond<;>intro g3
     .refine aa ?_;exact⟨(),trivial,bk,by unfold o.cP at gi hk ⊢; (repeat' split at hk) <;> (repeat' split)<;>omega⟩
     .refine aa ?_;apply K.cond<;>intro g4
      .refine aa ?_;exact⟨(),trivial,bk,by unfold o.cP at gi hk ⊢; (repeat' split at hk) <;> (repeat' split)<;>omega⟩
      .refine aa ?_;exact⟨k2,bx,fin (by unfold o.cP at gi hk ⊢; (repeat' split at hk) <;> (repeat' split)<;>omega)⟩
    .refine aa ?_;exact⟨k2,bx,fin (by unfold o.cP at gi hk ⊢; (repeat' split at hk) <;> (repeat' split)<;>omega)⟩
   .refine aa ?_;exact⟨k2,bx,fin (by unfold o.cP at gi hk ⊢; (repeat' split at hk) <;> (repeat' split)<;>omega)⟩
  rintro _ kt _ ⟨rfl,uq⟩;have br:k<m.procs.length:=by omega
  obtain⟨a,rfl⟩:=ag.addr (by omega);obtain⟨_,cE,dT,en,eR,dL⟩:=ag.at k br;obtain⟨e1,fv,rfl,ga⟩:=eR.form;obtain⟨oE,oe,rfl,lc⟩:=dL.form;replace en:=en.ext oi;refine aa ?_;intro yX Gk Ha pW sQ;have lH:=jZ.then pW;have z:=lH.ext.size;refine aa ?_;refine B3 lH.own sQ (by simp only[List.length_append,List.length_map,List.length_nil,List.length_cons,List.length_take];omega) z fun vb Bv uv uo=>?_;have u6:=(lH.grown uo uv).iu (Bp (fun x:o.dz=>x.name) _ _ _ br);refine aa ?_;exact⟨uq,bk,vb,bx,u6⟩
 clear k1;rintro v4 rA bR kp;have nq:=kp.ext;have f4:=kp.h1;refine K.gU [1,2,3] (fun v:kL=>[(7,.slice v.1 v.2.1 v.2.2)]) (fun v w'=>jo w w' bC [.slice cz m.scalars.length bS,.slice b9 m.vars.length c1,.slice cn m.aM.length c2,.slice cp m.procs.length bP,.slice cA m.props.length bX] v ((((([]++(m.scalars.map (·.name)))++((m.vars.take (o.cP 1 p i m.vars.length)).map (·.name)))++((m.aM.take (o.cP 2 p i m.aM.length)).map (·.name)))++((m.procs.take (o.cP 3 p i m.procs.length)).map (·.name)))++((m.props.take (o.hs p i m.props.length)).map (·.name)))) ?_ ?_
 .have gi:o.hs p i m.props.length<=m.props.length:=by unfold o.hs; (repeat' split)<;>omega
  have dS:=kp.ext;have f0:=kp.h1;refine aa ?_;refine K.dj 12 (o.hs p i m.props.length) [1,2,3] (fun v:kL=>[(7,.slice v.1 v.2.1 v.2.2)]) v4 (fun k v w'=>jo w w' bC [.slice cz m.scalars.length bS,.slice b9 m.vars.length c1,.slice cn m.aM.length c2,.slice cp m.procs.length bP,.slice cA m.props.length bX] v ((((([]++(m.scalars.map (·.name)))++((m.vars.take (o.cP 1 p i m.vars.length)).map (·.name)))++((m.aM.take (o.cP 2 p i m.aM.length)).map (·.name)))++((m.procs.take (o.cP 3 p i m.procs.length)).map (·.name)))++(m.props.take k).map (·.name))) bx bx (kp.iu (by simp)) ?_;clear dS f0;rintro k k2 S ps hk jZ;have oi:=jZ.ext;have tZ:=jZ.h1;have fin:k=o.hs p i m.props.length->jo w ps bC [.slice cz m.scalars.length bS,.slice b9 m.vars.length c1,.slice cn m.aM.length c2,.slice cp m.procs.length bP,.slice cA m.props.length bX] k2 ((((([]++(m.scalars.map (·.name)))++((m.vars.take (o.cP 1 p i m.vars.length)).map (·.name)))++((m.aM.take (o.cP 2 p i m.aM.length)).map (·.name)))++((m.procs.take (o.cP 3 p i m.procs.length)).map (·.name)))++((m.props.take (o.hs p i m.props.length)).map (·.name))):=fun e=>jZ.iu (by rw[e]);refine K.gU [1,2,3,7,12] (fun _:Unit=>[]) (fun _ w'=>w'=ps/\k<o.hs p i m.props.length) ?_ ?_
  .refine aa ?_;apply K.cond<;>intro g1
   .refine aa ?_;apply K.cond<;>intro g2
    .refine aa ?_;apply K.cond<;>intro g4
     .refine aa ?_;exact⟨(),trivial,bk,by unfold o.hs at gi hk ⊢; (repeat' split at hk) <;> (repeat' split)<;>omega⟩
     .refine aa ?_;exact⟨k2,bx,fin (by unfold o.hs at gi hk ⊢; (repeat' split at hk) <;> (repeat' split)<;>omega)⟩
    .refine aa ?_;exact⟨k2,bx,fin (by unfold o.hs at gi hk ⊢; (repeat' split at hk) <;> (repeat' split)<;>omega)⟩
   .refine aa ?_;exact⟨k2,bx,fin (by unfold o.hs at gi hk ⊢; (repeat' split at hk) <;> (repeat' split)<;>omega)⟩
  rintro _ kt _ ⟨rfl,uq⟩;have br:k<m.props.length:=by omega
  obtain⟨a,rfl⟩:=aJ.addr (by omega);obtain⟨_,ht,en,gY⟩:=aJ.at k br;obtain⟨Iq,ce,rfl,le⟩:=gY.form;replace en:=en.ext oi;refine aa ?_;intro yX Gk Ha pW sQ;have lH:=jZ.then pW;have z:=lH.ext.size;refine aa ?_;refine B3 lH.own sQ (by simp only[List.length_append,List.length_map,List.length_nil,List.length_cons,List.length_take];omega) z fun vb Bv uv uo=>?_;have u6:=(lH.grown uo uv).iu (Bp (fun x:o.ks=>x.name) _ _ _ br);refine aa ?_;exact⟨uq,bk,vb,bx,u6⟩
 clear kp;rintro v5 qv bY hD;have I5:=hD.ext;have f5:=hD.h1;refine aa ?_;refine⟨⟨v5,bk,?_⟩,I5⟩
 have:=hD.own
 simp only[List.nil_append] at this;exact this
theorem C2(v:kL)(l:List ByteArray)(x:ByteArray)(base:Nat)(w:World)(h:ze base w v l) :
  bu Tryz.prog F.uQ #[.slice v.1 v.2.1 v.2.2,.string x] w fun u w'=>u = .bool (decide (x∈l))/\w'=w:=by
 have ay:bF 1 (Flat encS) w (.slice v.1 v.2.1 v.2.2) l:=bs.pq (enc:=encS) (fun _=>rfl) h;obtain⟨v0,v1,v2⟩:=v;obtain⟨bU,a6,bK⟩:=bF.len ay;have SE:=bK;unfold maxLen at SE;dsimp only at bU a6 SE ay;subst bU;refine bL E.uQ ?_;refine bG ?_;refine aa ?_;refine K.dj 5 l.length [0,1] (fun _:Unit=>[]) () (fun k _ w'=>w'=w/\∀j (aR:j<l.length),j<k->¬l[j]=x) bx bx ⟨rfl,fun j _ h=>absurd h (Nat.not_lt_zero _)⟩ ?_;rintro k _ S _ hk ⟨rfl,bQ⟩;refine aa ?_;apply K.cond<;>intro g1
 .have br:k<l.length:=by omega
  obtain⟨a,rfl⟩:=ay.addr (by omega);refine aa ?_;apply K.cond<;>intro g2
  .have hm:x∈l:=by rw[<-g2];exact List.getElem_mem _
   refine aa ?_;exact⟨by rw[decide_eq_true hm],bk⟩
  .refine aa ?_;exact⟨br,bk,(),trivial,bk,fun j aR h2=>by
    by_cases e:j=k
    .subst e;exact g2
    .exact bQ j aR (by omega)⟩
 .have hm:¬x∈l:=fun au=>by
   obtain⟨j,aR,e⟩:=List.mem_iff_getElem.1 au;exact bQ j aR (by omega) e
  refine aa ?_;exact⟨by rw[decide_eq_false hm],bk⟩
end Go.Proofs.R
end
section
namespace Go.Proofs.R
open Go Go.RowKit bt
theorem Wq(n:Int)(w:World):bu Tryz.prog F.kN #[.int .i32 n] w fun v w'=>v = .bool (o.letter n)/\w'=w:=by
 refine bL E.kN ?_;refine bG ?_
 (repeat' first
  | (refine K.cond (fun _=>?_) (fun _=>?_)<;>try (exfalso;omega))
  | (refine K.du (fun _=>?_) (fun _=>?_))
  | (refine K.wrap (by omega) ?_)
  | (refine K.ld (by assumption) ?_)
  | (refine K.gz (by omega) ?_)
  | simp -dsimp only[c4,cF,Nat.reduceAdd,Nat.reduceEqDiff,reduceIte,reduceCtorEq,db])
 all_goals (refine⟨?_,by first | rfl | trivial⟩;congr 1;rw[Bool.eq_iff_iff];simp[o.letter];omega)
theorem abQ(n:Int)(w:World):bu Tryz.prog F.CG #[.int .i32 n] w fun v w'=>v = .bool (o.digit n)/\w'=w:=by
 refine bL E.CG ?_;refine bG ?_
 (repeat' first
  | (refine K.cond (fun _=>?_) (fun _=>?_)<;>try (exfalso;omega))
  | (refine K.du (fun _=>?_) (fun _=>?_))
  | (refine K.wrap (by omega) ?_)
  | (refine K.ld (by assumption) ?_)
  | (refine K.gz (by omega) ?_)
  | simp -dsimp only[c4,cF,Nat.reduceAdd,Nat.reduceEqDiff,reduceIte,reduceCtorEq,db])
 all_goals (refine⟨?_,by first | rfl | trivial⟩;congr 1;rw[Bool.eq_iff_iff];simp[o.digit];omega)
theorem ai4(n:Int)(w:World):bu Tryz.prog F.hi #[.int .i32 n] w fun v w'=>v = .bool (o.part n)/\w'=w:=by
 refine bL E.hi ?_;refine bG ?_;refine a1 ?_;refine K.call (Wq n w) ?_;rintro _ _ ⟨rfl,rfl⟩;refine a1 ?_;refine K.du (fun h1=>?_) (fun h1=>?_)
 .refine a1 ?_;refine⟨?_,by first | rfl | trivial⟩;congr 1;simp[o.part,h1]
 .refine a1 ?_;refine K.call (abQ n _) ?_;rintro _ _ ⟨rfl,rfl⟩;refine a1 ?_;refine K.du (fun U=>?_) (fun U=>?_)
  .refine a1 ?_;refine⟨?_,by first | rfl | trivial⟩;congr 1;simp[o.part,U]
  .refine a1 ?_;refine⟨?_,by first | rfl | trivial⟩;congr 1;simp[o.part,h1,U]
def VQ(w:World)(b:Nat):Nat:=match w.heap[b]? with | some (.stringIter s pos)=>s.size - pos | _=>0
theorem ahS(s:ByteArray)(p:Int->Bool)(aO:∀r,128<=r->p r=false)(f:FuncId)(aK:okF Tryz.prog f=true)(w:World)
  (aw:∀(r:Int) (w':World),Ext w w'->bu Tryz.prog f #[.int .i32 r] w' fun v b2=>v = .bool (p r)/\Ext w' b2) :
  bu Tryz.prog F.Cw #[.string s,.func (.func f) #[] #[]] w fun v w'=>v = .int .i64 (o.run p s)/\Ext w w':=by
 refine bL E.Cw ?_;refine bG ?_;refine a1 ?_;refine K.wS fun av b aC aB afc=>?_;refine a1 ?_;refine K.loop (fun S w' => ∃pos,pos<=s.size/\(∀j (aR:j<s.size),j<pos->p s[j].toNat=true)/\w'.heap[b]? = some (.stringIter s pos)/\Ext w w')
  (fun _ w'=>VQ w' b) ⟨0,Nat.zero_le _,fun _ _ h=>absurd h (Nat.not_lt_zero _),afc,aB⟩ ?_
 rintro S w' cg ⟨pos,Vb,dF,pb,he⟩;have ak:=cg 0 rfl;have h1:=cg 1 rfl;have dE:=cg 8 rfl;simp only[cu,Nat.reduceAdd,Nat.reduceEqDiff,reduceIte,jg,me] at ak h1 dE;clear cg;refine ch (zI ak (zI h1 dE)) ?_;refine K.wK pb (fun cw=>?_) (fun ae6=>?_)
 .have bw:=o.abL aO s pos cw;have ay:(fe w' b (.stringIter s (pos+(Utf8.decode s pos).2))).heap[b]? = some (.stringIter s (pos+(Utf8.decode s pos).2)):=Bm (cH pb);have aA:Ext w (fe w' b (.stringIter s (pos+(Utf8.decode s pos).2))):=he.fe aC _;generalize fe w' b (.stringIter s (pos+(Utf8.decode s pos).2))=aU at ay aA;refine ch (zI ak (zI h1 dE)) ?_;refine K.mS (first:=[]) (cap:=[]) aK (aw _ _ aA) ?_;rintro _ bb ⟨rfl,ax⟩;refine ch (zI ak (zI h1 dE)) ?_;refine K.du (fun aC=>?_) (fun aC=>?_)
  .refine a1 ?_;rw[bw.1] at aC;have hw:=bw.2 aC;rw[hw] at ay;refine⟨⟨pos+1,by omega,fun j aR aok=>?_,ax.obj ay,aA.trans ax⟩,?_⟩
   .by_cases h:j<pos
    .exact dF j aR h
    .have:j=pos:=by omega
     subst this;exact aC
   .simp only[VQ,ax.obj ay,pb];omega
  .refine a1 ?_;rw[bw.1] at aC;refine⟨?_,aA.trans ax⟩;rw[o.X0 p s pos cw (fun j aR=>dF j (by omega) aR) aC]
 .refine ch (zI ak (zI h1 dE)) ?_;refine⟨?_,he⟩;rw[o.XT p s (fun j aR=>dF j aR (by omega))]
def hv(w:World):Prop:=fg w ⟨G.Wr,0,none⟩ (o.p9.map Value.string)
theorem hv.ext{w w':World}(he:Ext w w')(h:hv w):hv w':=fg.ext he h
theorem Ii(s:ByteArray)(w:World)(bc:hv w)(ay:s.size<=9223372036854775807) :
  bu Tryz.prog F.kM #[.string s] w fun v w'=>v = .bool (o.isName s)/\Ext w w':=by
 refine bL E.kM ?_;refine bG ?_;refine a1 ?_;refine K.cond (fun ak=>?_) (fun ak=>?_)
 .refine a1 ?_;refine⟨?_,Ext.refl w⟩;subst ak;rfl
 have bQ:s.size≠0:=fun h=>ak (by
  cases s with | mk d =>
  have:d=#[]:=by simpa[ByteArray.size] using h
  rw[this])
 refine a1 ?_;refine K.cond (fun h1=>?_) (fun h1=>?_)
 .refine a1 ?_;refine⟨?_,Ext.refl w⟩
  have:¬s.size<=16:=by omega
  simp[o.isName,this]
 have pR:s.size<=16:=by omega
 refine a1 ?_;refine K.lB (s.get! 0) (by decide) (o.get?_eq s 0 (by omega)) ?_;refine a1 ?_;have aC:(s.get! 0).toNat<256:=UInt8.toNat_lt _;refine K.Y4 (IntWalk.i32_in _ (by omega)) ?_;refine a1 ?_;refine K.call (Wq _ w) ?_;rintro _ _ ⟨rfl,rfl⟩;refine a1 ?_;refine K.du (fun U=>?_) (fun U=>?_);rotate_left
 .refine a1 ?_;refine⟨?_,Ext.refl _⟩;have KL:o.letter (o.rG s 0:Nat)=false:=U;simp[o.isName,KL]
 refine a1 ?_;refine K.call (ahS s o.part o.ai3 F.hi (by kernel_rfl) _ fun r w' _=>(ai4 r w').mono fun v b2 ⟨ag,aJ⟩=>⟨ag,aJ ▸ Ext.refl _⟩) ?_;rintro _ aU ⟨rfl,he⟩;refine a1 ?_;refine K.cond (fun ag=>?_) (fun ag=>?_)
 .refine a1 ?_;refine⟨?_,he⟩;have xX:¬o.run o.part s=s.size:=by omega
  simp[o.isName,xX]
 have xX:o.run o.part s=s.size:=by have:=o.akt o.part s;omega
 have KL:o.letter (o.rG s 0:Nat)=true:=U;have U1:o.isName s = !decide (s∈o.p9):=by simp[o.isName,xX,KL,pR,bQ]
 refine a1 ?_;refine K.jX (bc.ext he) rfl ?_;refine a1 ?_;refine K.loop (fun S w' => ∃i:Nat,i<=4/\S 27 = .int .i64 i/\(∀j (aR:j<o.p9.length),j<i->o.p9[j]≠s)/\Ext aU w')
  (fun S _=>(4 - intOf (S 27)).toNat) ⟨0,by omega,by refine a1 ?_;rfl,fun _ _ h=>absurd h (Nat.not_lt_zero _),Ext.refl _⟩ ?_
 rintro S w' cg ⟨i,ad,nH,dF,aA⟩;have ak:=cg 0 rfl;have mh:=cg 26 rfl;simp only[cu,Nat.reduceAdd,Nat.reduceEqDiff,reduceIte,jg,me] at ak mh;clear cg;refine ch (zI ak (zI mh nH)) ?_;refine K.cond (fun aJ=>?_) (fun aJ=>?_)
 .refine ch (zI ak (zI mh nH)) ?_;have ae8:i<o.p9.length:=by simp[o.p9];omega
  refine K.wB (.string o.p9[i]) (by omega) (by simp[List.getElem?_map,ae8]) ?_;refine ch (zI ak (zI mh nH)) ?_;refine K.cond (fun bg=>?_) (fun bg=>?_)
  .refine a1 ?_;refine⟨?_,he.trans aA⟩;rw[U1]
   have:s∈o.p9:=bg ▸ List.getElem_mem _
   simp[this]
  .refine ch (zI ak (zI mh nH)) ?_;refine K.wrap (by omega) ?_;refine ch (zI ak (zI mh nH)) ?_;refine⟨⟨i+1,by omega,rfl,fun j aR gX=>?_,aA⟩,by simp[intOf];omega⟩;by_cases h:j<i
   .exact dF j aR h
   .have:j=i:=by omega
    subst this;exact bg
 .refine ch (zI ak (zI mh nH)) ?_;refine⟨?_,he.trans aA⟩;rw[U1]
  have:s∉o.p9:=fun hm=>by
   obtain⟨j,aR,he⟩:=List.mem_iff_getElem.1 hm;exact dF j aR (by have:o.p9.length=4:=rfl;omega) he
  simp[this]
end Go.Proofs.R
end
section
namespace Go.Proofs.R
open Go Go.RowKit bt
theorem WJ(bf ad:Int)(w:World):bu Tryz.prog F.b5 #[.int .i64 bf,.int .i64 ad] w fun v w'=>v = .bool (o.narrow bf ad)/\w'=w:=by
 refine bL E.b5 ?_;refine bG ?_
 (repeat' first
  | (refine K.cond (fun _=>?_) (fun _=>?_)<;>try (exfalso;omega))
  | (refine K.du (fun _=>?_) (fun _=>?_))
  | (refine K.wrap (by omega) ?_)
  | (refine K.ld (by assumption) ?_)
  | (refine K.gz (by omega) ?_)
  | simp -dsimp only[c4,cF,Nat.reduceAdd,Nat.reduceEqDiff,reduceIte,reduceCtorEq,db])
 all_goals (refine⟨?_,by first | rfl | trivial⟩;congr 1;rw[Bool.eq_iff_iff];simp[o.narrow];omega)
theorem Yb{k:Int}{l:List o.Scalar}(h1:1<=k)(U:k<=l.length):o.size k l=if 1<=(l[k.toNat - 1]'(by omega)).size/\(l[k.toNat - 1]'(by omega)).size<=4 then (l[k.toNat - 1]'(by omega)).size else 0:=by
 have e:(k - 1).toNat=k.toNat - 1:=by omega
 have cw:k.toNat - 1<l.length:=by omega
 simp only[o.size,e,List.getElem?_eq_getElem cw,h1,true_and]
theorem ID{k:Int}{l:List o.Scalar}(h:k<1\/l.length<k):o.size k l=0:=by
 unfold o.size;split
 .rename_i x au;rw[if_neg];rintro⟨h1,_⟩
  have:=(List.getElem?_eq_some_iff.1 au).1
  omega
 .rfl
theorem N1(k:Int)(v:Value)(l:List o.Scalar)(w:World)(aS:o.hI w v l) :
  bu Tryz.prog F.ap #[.int .i64 k,v] w fun v w'=>v = .tuple #[.int .i64 (o.size k l),.bool (decide (o.size k l≠0))]/\w'=w:=by
 obtain⟨bl,cap,rfl,hlen⟩:=aS.form;refine bL E.ap ?_;refine bG ?_;refine a1 ?_;refine K.cond (fun h1=>?_) (fun h1=>?_)
 .refine a1 ?_;rw[ID (.inl h1)];exact⟨rfl,trivial⟩
 refine a1 ?_;refine K.cond (fun U=>?_) (fun U=>?_)
 .refine a1 ?_;rw[ID (.inr U)];exact⟨rfl,trivial⟩
 refine a1 ?_;refine K.wrap (by omega) ?_;refine a1 ?_;obtain⟨a,rfl⟩:=aS.addr (by omega);have aw:=(aS.at (k.toNat - 1) (by omega)).cells 1 _ rfl;refine K.dp (k.toNat - 1) (by omega) (by omega) ?_;refine a1 ?_;refine K.ld aw ?_;rw[Yb (by omega) (by omega)];generalize l[k.toNat - 1].size=z at aw;refine a1 ?_;refine K.cond (fun ag=>?_) (fun ag=>?_)
 .refine a1 ?_;rw[if_neg (by omega)];exact⟨rfl,trivial⟩
 refine a1 ?_;refine K.wrap (by omega) ?_;refine a1 ?_;refine K.dp (k.toNat - 1) (by omega) (by omega) ?_;refine a1 ?_;refine K.ld aw ?_;refine a1 ?_;refine K.cond (fun aJ=>?_) (fun aJ=>?_)
 .refine a1 ?_;rw[if_neg (by omega)];exact⟨rfl,trivial⟩
 refine a1 ?_;refine K.wrap (by omega) ?_;refine a1 ?_;refine K.dp (k.toNat - 1) (by omega) (by omega) ?_;refine a1 ?_;refine K.ld aw ?_;refine a1 ?_;rw[if_pos (by omega)];refine⟨?_,by trivial⟩
 have:z≠0:=by omega
 simp[this]
theorem Ol(k:Int)(v:Value)(l:List o.Scalar)(w:World)(aS:o.hI w v l) :
  bu Tryz.prog F.l7 #[.int .i64 k,v] w fun v w'=>v = .bool (o.there k l)/\w'=w:=by
 refine bL E.l7 ?_;refine bG ?_;refine a1 ?_;refine K.call (N1 k v l w aS) ?_;rintro _ _ ⟨rfl,rfl⟩;refine a1 ?_;refine K.cond (fun h1=>?_) (fun h1=>?_)
 .refine a1 ?_;refine⟨?_,by trivial⟩;simp[o.there,h1]
 .refine a1 ?_;refine⟨?_,by trivial⟩;simp[o.there,h1]
def seen(l:List ByteArray):List (ByteArray×Value):=l.map fun x=>(x,.bool true)
theorem akN(l:List ByteArray)(x:ByteArray):((seen l).find? (fun p=>decide (x=p.1))).map (·.2)=if x∈l then some (.bool true) else none:=by
 induction l with
 | nil=>rfl
 | cons y l eV =>
  simp only[seen,List.map_cons,List.find?_cons,List.mem_cons];by_cases h:x=y
  .simp[h]
  .simp only[h,decide_false,false_or];exact eV
set_option maxHeartbeats 2000000 in
theorem M0(n fr:Int)(aD:0<=n/\n<=9223372036854775807)(fJ:Nat->ByteArray)(mo:Nat->Int)(f1 f2:FuncId)(c1 c2:List Value)(Hv:okF Tryz.prog f1=true)(ou:okF Tryz.prog f2=true)(w:World)(bc:hv w)
  (fI:∀i:Nat,i<n->o.hR (fJ i))
  (dc:∀(i:Nat) (w':World),i<n->Ext w w'->bu Tryz.prog f1 (.int .i64 i :: c1).toArray w' fun v b2=>v = .string (fJ i)/\Ext w' b2)
  (dd:∀(i:Nat) (w':World),i<n->Ext w w'->bu Tryz.prog f2 (.int .i64 i :: c2).toArray w' fun v b2=>v = .int .i64 (mo i)/\Ext w' b2) :
  bu Tryz.prog F.oX #[.int .i64 n,.int .i64 fr,.func (.func f1) #[] c1.toArray,.func (.func f2) #[] c2.toArray] w
   fun v w'=>v = .tuple #[.int .i64 (o.first n.toNat (o.err fr fJ mo)).1,.int .i64 (o.first n.toNat (o.err fr fJ mo)).2]/\Ext w w':=by
 refine bL E.oX ?_;refine bG ?_;refine a1 ?_;refine K.A1 fun av b aC aB ur=>?_;refine a1 ?_;refine K.loop (fun S w' => ∃i:Nat,i<=n/\S 16 = .int .i64 i/\(∀j,j<i->o.err fr fJ mo j=0)/\Ext w w' /\
   ∃es c,w'.heap[b]? = some (.map es c)/\hT Value.string es.toList (seen ((List.range i).map fJ)))
  (fun S _=>(n - intOf (S 16)).toNat) ⟨0,by omega,by refine a1 ?_;rfl,fun _ h=>absurd h (Nat.not_lt_zero _),aB,_,_,ur,rfl⟩ ?_
 rintro S aU cg ⟨i,ad,mU,bQ,he,es,c,hm,lT⟩;have ak:=cg 0 rfl;have h1:=cg 1 rfl;have U:=cg 2 rfl;have ag:=cg 3 rfl;have jS:=cg 10 rfl;have mg:=cg 15 rfl;simp only[cu,Nat.reduceAdd,Nat.reduceEqDiff,reduceIte,jg,me] at ak h1 U ag jS mg;clear cg;refine ch (zI ak (zI h1 (zI U (zI ag (zI jS (zI mg mU)))))) ?_;refine K.cond (fun cw=>?_) (fun ae6=>?_);rotate_left
 .refine a1 ?_;refine⟨?_,he⟩;rw[o.oj fun j aR=>bQ j (by omega)]
 have stop:∀e:Int,o.err fr fJ mo i=e->e≠0->o.first n.toNat (o.err fr fJ mo)=((i:Int),e):=fun e h c5=>by
  rw[o.iB (by omega) bQ (by rw[h];exact c5),h]
 refine ch (zI ak (zI h1 (zI U (zI ag (zI jS (zI mg mU)))))) ?_;refine K.mS (first:=[]) Hv (dc i aU cw he) ?_;rintro _ bb ⟨rfl,ax⟩;refine ch (zI ak (zI h1 (zI U (zI ag (zI jS (zI mg mU)))))) ?_;refine K.cond (fun bo=>?_) (fun bo=>?_)
 .refine ch (zI ak (zI h1 (zI U (zI ag (zI jS (zI mg mU)))))) ?_;refine K.cond (fun h=>absurd h (by decide)) (fun _=>?_);refine a1 ?_;rw[stop 11 (by simp[o.err,bo]) (by decide)];exact⟨rfl,he.trans ax⟩
 refine ch (zI ak (zI h1 (zI U (zI ag (zI jS (zI mg mU)))))) ?_;refine K.call (Ii (fJ i) bb (bc.ext (he.trans ax)) (fI i cw)) ?_;rintro _ bp ⟨rfl,aN⟩;refine ch (zI ak (zI h1 (zI U (zI ag (zI jS (zI mg mU)))))) ?_;refine K.du (fun wj=>?_) (fun wj=>?_);rotate_left
 .refine ch (zI ak (zI h1 (zI U (zI ag (zI jS (zI mg mU)))))) ?_;refine K.cond (fun h=>absurd h (by decide)) (fun _=>?_);refine a1 ?_;rw[stop 6 (by simp[o.err,bo,wj]) (by decide)];exact⟨rfl,(he.trans ax).trans aN⟩
 refine ch (zI ak (zI h1 (zI U (zI ag (zI jS (zI mg mU)))))) ?_;have kh:bp.heap[b]? = some (.map es c):=aN.obj (ax.obj hm);obtain⟨r,kj,jj⟩:=xR IB (fJ i) es.toList _ 0 lT;rw[akN] at jj;refine K.mv (.inr ⟨b,c,rfl,kh⟩) kj ?_;have wi:fJ i∈(List.range i).map fJ↔∃j,j<i/\fJ j=fJ i:=by simp
 by_cases eU:∃j,j<i/\fJ j=fJ i
 .rw[if_pos (wi.2 eU)] at jj;have aT:lY (.bool false) false r = .bool true:=by simp[lY,jj]
  rw[aT];refine ch (zI ak (zI h1 (zI U (zI ag (zI jS (zI mg mU)))))) ?_;refine K.cond (fun h=>absurd h (by decide)) (fun _=>?_);refine a1 ?_;rw[stop 7 (by simp[o.err,bo,wj,eU]) (by decide)];exact⟨rfl,(he.trans ax).trans aN⟩
 rw[if_neg (fun h=>eU (wi.1 h))] at jj;have sX:r=none:=by cases r<;>simp at jj ⊢
 subst sX;have aT:lY (.bool false) false none = .bool false:=rfl;rw[aT];refine ch (zI ak (zI h1 (zI U (zI ag (zI jS (zI mg mU)))))) ?_;refine K.mS (first:=[]) ou (dd i bp cw ((he.trans ax).trans aN)) ?_;rintro _ bR ⟨rfl,aW⟩;have gQ:o.err fr fJ mo i=mo i:=by simp[o.err,bo,wj,eU]
 refine ch (zI ak (zI h1 (zI U (zI ag (zI jS (zI mg mU)))))) ?_;refine K.cond (fun h=>?_) (fun h=>?_);rotate_left
 .refine a1 ?_;rw[stop (mo i) gQ h];exact⟨rfl,((he.trans ax).trans aN).trans aW⟩
 refine ch (zI ak (zI h1 (zI U (zI ag (zI jS (zI mg mU)))))) ?_;have lr:=aW.obj kh;refine K.iS lr kj ?_;have ay:(fe bR b (q3 es c (.string (fJ i)) (.bool true) none)).heap[b]? = some (q3 es c (.string (fJ i)) (.bool true) none):=Bm (cH lr);have a8:Ext w (fe bR b (q3 es c (.string (fJ i)) (.bool true) none)):=(((he.trans ax).trans aN).trans aW).fe aC _;generalize fe bR b (q3 es c (.string (fJ i)) (.bool true) none)=bY at ay a8;refine ch (zI ak (zI h1 (zI U (zI ag (zI jS (zI mg mU)))))) ?_;refine K.wrap (by omega) ?_;refine ch (zI ak (zI h1 (zI U (zI ag (zI jS (zI mg mU)))))) ?_;refine⟨⟨i+1,by omega,rfl,fun j aR=>?_,a8,_,_,ay,?_⟩,by simp[intOf];omega⟩
 .by_cases bE:j<i
  .exact bQ j bE
  .have:j=i:=by omega
   subst this;rw[gQ,h]
 .have:=hT.push lT (fJ i) (.bool true) c
  simpa[seen,List.range_succ] using this
end Go.Proofs.R
end