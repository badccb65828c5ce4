/- Parts. -/
import Derived.Test.YtfdohkdifdemeaaGreatDoorQdsg
set_option linter.all false
set_option maxRecDepth 4000
set_option maxHeartbeats 6400000
section
namespace Go.Proofs.R
open Go Go.RowKit bt
abbrev ZE:World->Addr->Int->Prop:=Flat fun n=>[Value.int .i64 n]
abbrev Ints(w:World)(v:Value)(l:List Int):Prop:=bE 1 ZE w v l
theorem Ints.ext{w w':World}{v:Value}{l:List Int}(he:Ext w w')(h:Ints w v l):Ints w' v l:=bE.ext Flat.ext he h
theorem Ints.aX{w:World}{b n:Nat}{e:TypeId}{f:Nat×Nat}{xs:List Int}(aC:w.heap[b]? = some (.cells (xs.flatMap fun n=>[Value.int .i64 n]).toArray e f))(aE:n=xs.length)(hm:xs.length<=maxLen):Ints w (.slice (some ⟨b,0,none⟩) n n) xs :=
 bE.aX (enc:=fun n=>[Value.int .i64 n]) (fun _=>rfl) aC aE hm fun _ _ _ h=>h
theorem Y0(v:Value)(l:List Int)(w:World)(aS:Ints w v l):bu Tryz.prog F.c1 #[v] w fun v w'=>v = .bool (l.all o.within)/\w'=w:=by
 obtain⟨bm,cap,rfl,hlen⟩:=aS.form;refine bL E.c1 ?_;refine bG ?_;refine a7 ?_;refine K.zY 7 l.length (fun k S w'=>w'=w/\(l.take k).all o.within=true) (by simp -dsimp only[c4,cF,Nat.reduceAdd,Nat.reduceEqDiff,reduceIte,reduceCtorEq,db]) ⟨rfl,by simp⟩ ?_;rintro k S w' cq hk cj ⟨rfl,dC⟩;have ak:=cq 0 rfl;have bg:=cq 5 rfl;have bS:=cq 6 rfl;simp only[cu,Nat.reduceAdd,Nat.reduceEqDiff,reduceIte,jh,mr] at ak bg bS;clear cq;refine cd (i_ ak (i_ bg (i_ bS cj))) ?_;refine K.cond (fun h1=>?_) (fun h1=>?_);rotate_left
 .refine cd (i_ ak (i_ bg (i_ bS cj))) ?_;rw[List.take_of_length_le (by omega)] at dC;rw[dC];exact cA
 have bp:k<l.length:=by omega
 obtain⟨a,rfl⟩:=aS.addr (by omega);have wA:l.take (k+1)=l.take k++[l[k]]:=List.take_succ_eq_append_getElem bp;have rX:l.all o.within=((l.take (k+1)).all o.within&&(l.drop (k+1)).all o.within):=by rw[<-List.all_append,List.take_append_drop]
 rw[wA,List.all_append] at rX
 (repeat' first
 | assumption
 | exact Ext.refl _
 | refine Ext.trans ?_ (by assumption)
 | refine K.wrap (by omega) ?_
 | refine K.ti (by assumption) ?_ rfl ?_
 | refine K.q1 (by assumption) ?_ rfl ?_
 | refine K.uU (by assumption) ?_ (by omega) rfl ?_
 | refine K.uV (by assumption) ?_ (by omega) rfl ?_
 | refine K.uT (by assumption) ?_ (by omega) rfl ?_
 | refine K.uL (by omega) ?_
 | refine K.sF (by first | assumption | omega) ?_
 | refine K.tS (by first | assumption | omega) ?_
 | refine K.qB (by assumption) ?_
 | refine K.rL (by assumption) ?_
 | simp -dsimp only[c4,cF,Nat.reduceAdd,Nat.reduceEqDiff,reduceIte,reduceCtorEq,db,bg,cj])
 generalize l[k]=z at *;refine K.cond (fun U=>?_) (fun U=>?_)
 .refine a7 ?_;rw[rX];refine⟨?_,trivial⟩
  have:o.within z=false:=by simp[o.within];omega
  simp[this]
 refine a7 ?_;refine K.cond (fun ag=>?_) (fun ag=>?_)
 .refine a7 ?_;rw[rX];refine⟨?_,trivial⟩
  have:o.within z=false:=by simp[o.within];omega
  simp[this]
 refine cd cj ?_;refine K.wrap (by omega) ?_;refine a7 ?_;refine⟨bp,trivial,trivial,?_⟩;rw[wA];simp[dC,o.within];omega
def FW(f:FuncId)(g:Int->Int->Int):Prop := ∀a b w,(o.within a&&o.within b)=true->bu Tryz.prog f #[.int .i64 a,.int .i64 b] w fun v w'=>v = .int .i64 (g a b)/\w'=w
theorem ZV:FW F.fy (· + ·):=by
 intro a b w h;simp[o.within] at h;refine bL E.fy ?_;refine bG ?_;refine aP ?_;exact cA
theorem alq:FW F.sH (· - ·):=by
 intro a b w h;simp[o.within] at h;refine bL E.sH ?_;refine bG ?_;refine aP ?_;exact cA
theorem WI{a b:Int}(bj : -1048576<=a/\a<=1048576)(aC : -1048576<=b/\b<=1048576) : -1099511627776<=a*b/\a*b<=1099511627776:=by
 have h:(a*b).natAbs<=1048576*1048576:=by
  rw[Int.natAbs_mul];exact Nat.mul_le_mul (by omega) (by omega)
 omega
theorem ah5:FW F.bP (· * ·):=by
 intro a b w h;simp[o.within] at h;have hm:=WI h.1 h.2;refine bL E.bP ?_;refine bG ?_;refine aP ?_;exact cA
theorem Oj(f:FuncId)(g:Int->Int->Int)(aK:okF Tryz.prog f=true)(a1:FW f g)(a b:Int)(w:World) :
  bu Tryz.prog F.a5 #[.agg #[.func (.func f) #[] #[]],.int .i64 a,.int .i64 b] w fun v w'=>v = .tuple #[.int .i64 (o.tell g a b).1,.bool (o.tell g a b).2]/\Ext w w':=by
 refine bL E.a5 ?_;refine bG ?_;refine a7 ?_;refine K.new fun av p aN aB aq=>?_;refine a7 ?_;refine K.lv (cs:=[a,b].flatMap fun n=>[Value.int .i64 n]) (by simp[List.range,List.range.loop,eP,lay,fu,cu,jh,Value.cells]) fun aU q aD aA aQ=>?_;refine a7 ?_;refine K.call (Y0 _ [a,b] aU (Ints.aX aQ rfl (by simp[maxLen]))) ?_;rintro _ _ ⟨rfl,rfl⟩;refine a7 ?_;refine K.dp (fun h1=>?_) (fun h1=>?_);rotate_left
 .refine a7 ?_
  have:(o.within a&&o.within b)=false:=by simpa using h1
  refine⟨?_,fL⟩;simp[o.tell,this]
 have Db:(o.within a&&o.within b)=true:=by simpa using h1
 refine aP ?_;refine K.mX (first:=[]) (cap:=[]) aK (a1 a b _ Db) ?_;rintro _ _ ⟨rfl,rfl⟩;refine a7 ?_;refine K.lv (cs:=[g a b].flatMap fun n=>[Value.int .i64 n]) (by simp[List.range,List.range.loop,eP,lay,fu,cu,jh,Value.cells]) fun bb eb aoe ax bA=>?_;refine a7 ?_;refine K.call (Y0 _ [g a b] bb (Ints.aX bA rfl (by simp[maxLen]))) ?_;rintro _ _ ⟨rfl,rfl⟩;refine a7 ?_;refine K.dp (fun U=>?_) (fun U=>?_)
 .refine a7 ?_
  have:o.within (g a b)=true:=by simpa using U
  refine⟨?_,fL⟩;simp[o.tell,Db,this]
 .refine a7 ?_
  have:o.within (g a b)=false:=by simpa using U
  refine⟨?_,fL⟩;simp[o.tell,this]
def sr(f:FuncId)(g:Int->Int->Int×Bool):Prop := ∀a b w,bu Tryz.prog f #[.int .i64 a,.int .i64 b] w fun v w'=>v = .tuple #[.int .i64 (g a b).1,.bool (g a b).2]/\Ext w w'
theorem RO:sr F.a0 (o.tell (· + ·)):=by
 intro a b w;refine bL E.a0 ?_;refine bG ?_;refine a7 ?_;refine K.cW (cs:=[.func (.func F.fy) #[] #[]]) (by simp[eP,lay,tX,Value.cells]) ?_;refine a7 ?_;refine K.call (Oj _ _ (by kernel_rfl) ZV a b w) ?_;rintro _ av ⟨rfl,he⟩;refine a7 ?_;exact cA
theorem Yx:sr F.a4 (o.tell (· - ·)):=by
 intro a b w;refine bL E.a4 ?_;refine bG ?_;refine a7 ?_;refine K.cW (cs:=[.func (.func F.sH) #[] #[]]) (by simp[eP,lay,tX,Value.cells]) ?_;refine a7 ?_;refine K.call (Oj _ _ (by kernel_rfl) alq a b w) ?_;rintro _ av ⟨rfl,he⟩;refine a7 ?_;exact cA
theorem ah6:sr F.co (o.tell (· * ·)):=by
 intro a b w;refine bL E.co ?_;refine bG ?_;refine a7 ?_;refine K.cW (cs:=[.func (.func F.bP) #[] #[]]) (by simp[eP,lay,tX,Value.cells]) ?_;refine a7 ?_;refine K.call (Oj _ _ (by kernel_rfl) ah5 a b w) ?_;rintro _ av ⟨rfl,he⟩;refine a7 ?_;exact cA
theorem aaE(b:Bool)(w:World):bu Tryz.prog F.fd #[.bool b] w fun v w'=>v = .int .i64 (o.bit b)/\w'=w:=by
 refine bL E.fd ?_;refine bG ?_;refine a7 ?_;refine K.dp (fun h=>?_) (fun h=>?_)
 all_goals
  subst h;refine a7 ?_;exact cA
theorem aiD:sr F.zO fun a _=>(o.bit (decide (a=0)),true):=by
 intro a b w;refine bL E.zO ?_;refine bG ?_;refine a7 ?_;refine K.call (aaE _ w) ?_;rintro _ _ ⟨rfl,rfl⟩;refine a7 ?_;exact cA
theorem aiE:sr F.xM fun a _=>o.tell (· - ·) 0 a:=by
 intro a b w;refine bL E.xM ?_;refine bG ?_;refine a7 ?_;refine K.call (Yx 0 a w) ?_;rintro _ av ⟨rfl,he⟩;refine a7 ?_;exact cA
def vw(f:FuncId)(p:Int->Int->Bool):Prop := ∀a b w,bu Tryz.prog f #[.int .i64 a,.int .i64 b] w fun v w'=>v = .bool (p a b)/\w'=w
theorem aiF:vw F.zQ fun a b=>decide (a=b):=by
 intro a b w;refine bL E.zQ ?_;refine bG ?_;refine a7 ?_;exact cA
theorem aiG:vw F.zR fun a b => !decide (a=b):=by
 intro a b w;refine bL E.zR ?_;refine bG ?_;refine a7 ?_;exact cA
theorem aiH:vw F.kh fun a b=>decide (a<b):=by
 intro a b w;refine bL E.kh ?_;refine bG ?_;refine a7 ?_;exact cA
theorem aiI:vw F.cs fun a b=>decide (a<=b):=by
 intro a b w;refine bL E.cs ?_;refine bG ?_;refine a7 ?_;exact cA
theorem aiJ:vw F.o6 fun a b => !decide (a=0) && !decide (b=0):=by
 intro a b w;refine bL E.o6 ?_;refine bG ?_;refine a7 ?_;refine K.cond (fun h=>?_) (fun h=>?_)
 all_goals
  refine a7 ?_;exact⟨by simp[h],trivial⟩
theorem aiK:vw F.mZ fun a b => !decide (a=0) || !decide (b=0):=by
 intro a b w;refine bL E.mZ ?_;refine bG ?_;refine a7 ?_;refine K.cond (fun h=>?_) (fun h=>?_)
 all_goals
  refine a7 ?_;exact⟨by simp[h],trivial⟩
end Go.Proofs.R
end
section
namespace Go.Proofs.R
open Go Go.RowKit bt
def zd(w:World)(v:Value)(g:Int->Int->Int×Bool):Prop :=
 (∃f,v = .func (.func f) #[] #[]/\okF Tryz.prog f=true/\sr f g) \/
 (∃c f p,v = .func (.func F.fM) #[] #[.pointer (some ⟨c,0,none⟩)]/\w.heap[c]? = some (.cells #[.func (.func f) #[] #[]] T.kT)/\okF Tryz.prog f=true/\vw f p/\g=fun a b=>(o.bit (p a b),true))
def BW(w:World)(al:o.pH)(v:Value):Prop := ∃u,v = .agg #[.int .i64 al.parts,.int .i64 al.jb,.int .i64 al.makes,u]/\zd w u al.Sy
def pI(w:World)(m:Value):Prop := ∃r es c l,m = .map (some r)/\w.heap[r]? = some (.map es c)/\hT (Value.int .i64) es.toList l /\
 ∀x:Int,match o.gE x with
  | some al => ∃p,l.find? (fun p=>decide (x=p.1))=some p/\BW w al p.2
  | none=>l.find? (fun p=>decide (x=p.1))=none
theorem Bq(jb:Int)(f:Nat)(w:World):bu Tryz.prog F.l #[.int .i64 jb,.func (.func f) #[] #[]] w
  fun v w'=>(∃c,v = .agg #[.int .i64 2,.int .i64 jb,.int .i64 1,.func (.func F.fM) #[] #[.pointer (some ⟨c,0,none⟩)]]/\w'.heap[c]? = some (.cells #[.func (.func f) #[] #[]] T.kT))/\Ext w w':=by
 refine bL E.l ?_;refine bG ?_;refine a7 ?_;refine K.new fun av c aw aB aq=>?_;refine a7 ?_;refine K.new fun aU b aC aA aQ=>?_;refine a7 ?_;refine K.cW (cs:=[.int .i64 2,.int .i64 jb,.int .i64 1,.func (.func F.fM) #[] #[.pointer (some ⟨c,0,none⟩)]]) (by simp[eP,lay,fu,o7,cu,jh,Value.cells]) ?_;refine a7 ?_;refine K.jJ aQ rfl rfl (by simp[Value.oneCell']) fun bb hw bA=>?_;have h1:=cG aq;have cI:c≠b:=by omega
 refine a7 ?_;refine K.j3 (hj bA) rfl ?_;refine a7 ?_;exact⟨⟨c,rfl,(hw.block c cI).trans (aA.obj aq)⟩,hw.ext (aB.trans aA) (by have:=aB.size;omega)⟩
theorem aiL(w:World):bu Tryz.prog F.xT #[] w fun v w'=>pI w' v/\Ext w w':=by
 refine bL E.xT ?_;refine bG ?_;refine a7 ?_;refine K.A8 fun w0 r a6 Ag m0=>?_;refine a7 ?_;refine K.cW (cs:=[.int .i64 1,.int .i64 1,.int .i64 1,.func (.func F.zO) #[] #[]]) (by simp[eP,lay,fu,o7,tX,cu,jh,Value.cells]) ?_;refine a7 ?_;refine K.sa m0 rfl fun av j8 m1=>?_;refine a7 ?_;refine K.cW (cs:=[.int .i64 1,.int .i64 0,.int .i64 0,.func (.func F.xM) #[] #[]]) (by simp[eP,lay,fu,o7,tX,cu,jh,Value.cells]) ?_;refine a7 ?_;refine K.sa m1 rfl fun aU j9 m2=>?_;refine a7 ?_;refine K.cW (cs:=[.int .i64 2,.int .i64 0,.int .i64 0,.func (.func F.a0) #[] #[]]) (by simp[eP,lay,fu,o7,tX,cu,jh,Value.cells]) ?_;refine a7 ?_;refine K.sa m2 rfl fun bb n0 m3=>?_;refine a7 ?_;refine K.cW (cs:=[.int .i64 2,.int .i64 0,.int .i64 0,.func (.func F.a4) #[] #[]]) (by simp[eP,lay,fu,o7,tX,cu,jh,Value.cells]) ?_;refine a7 ?_;refine K.sa m3 rfl fun bq nw m4=>?_;refine a7 ?_;refine K.cW (cs:=[.int .i64 2,.int .i64 0,.int .i64 0,.func (.func F.co) #[] #[]]) (by simp[eP,lay,fu,o7,tX,cu,jh,Value.cells]) ?_;refine a7 ?_;refine K.sa m4 rfl fun bT Ja m5=>?_;have b5:Ext w bT:=Ja.ext (nw.ext (n0.ext (j9.ext (j8.ext Ag a6) a6) a6) a6) a6;clear j8 j9 n0 nw Ja m0 m1 m2 m3 m4;refine a7 ?_;refine K.call (Bq (-1) F.zQ _) ?_;rintro _ v6 ⟨⟨JU,rfl,AE⟩,OI⟩;refine a7 ?_;refine K.sa (OI.obj m5) rfl fun bV Y9 m6=>?_;refine a7 ?_;refine K.call (Bq (-1) F.zR _) ?_;rintro _ By ⟨⟨xH,rfl,wJ⟩,Je⟩;refine a7 ?_;refine K.sa (Je.obj m6) rfl fun cc OE m7=>?_;refine a7 ?_;refine K.call (Bq 0 F.kh _) ?_;rintro _ Ov ⟨⟨xI,rfl,VX⟩,Jf⟩;refine a7 ?_;refine K.sa (Jf.obj m7) rfl fun di Jb m8=>?_;refine a7 ?_;refine K.call (Bq 0 F.cs _) ?_;rintro _ v9 ⟨⟨aaL,rfl,H8⟩,Jg⟩;refine a7 ?_;refine K.sa (Jg.obj m8) rfl fun dX OF m9=>?_;refine a7 ?_;refine K.call (Bq 1 F.o6 _) ?_;rintro _ v10 ⟨⟨aaJ,rfl,VW⟩,Jc⟩;refine a7 ?_;refine K.sa (Jc.obj m9) rfl fun fw OC m10=>?_;refine a7 ?_;refine K.call (Bq 1 F.mZ _) ?_;rintro _ v11 ⟨⟨aaK,rfl,H7⟩,Jd⟩;refine a7 ?_;refine K.sa (Jd.obj m10) rfl fun gw OD m11=>?_;refine a7 ?_;have ne:∀{w:World} {c:Nat} {es:Array MapEntry} {n:Nat} {cs:Array Value} {t:TypeId},w.heap[r]? = some (.map es n)->w.heap[c]? = some (.cells cs t)->c≠r:=by
  intro w c es n cs t h1 U e;subst e;rw[h1] at U;injection U with U
  cases U
 have lZ:=(Y9.block JU (ne (OI.obj m5) AE)).trans AE;have Gm:=(OE.block xH (ne (Je.obj m6) wJ)).trans wJ;have Gn:=(Jb.block xI (ne (Jf.obj m7) VX)).trans VX;have a9:=(OF.block aaL (ne (Jg.obj m8) H8)).trans H8;have Gl:=(OC.block aaJ (ne (Jc.obj m9) VW)).trans VW;have ZM:=(OD.block aaK (ne (Jd.obj m10) H7)).trans H7;have t7:∀{c:Nat} {al:Obj},c≠r->bV.heap[c]? = some al->cc.heap[c]? = some al:=fun aw h=>(OE.block _ aw).trans (Je.obj h);have t8:∀{c:Nat} {al:Obj},c≠r->cc.heap[c]? = some al->di.heap[c]? = some al:=fun aw h=>(Jb.block _ aw).trans (Jf.obj h);have t9:∀{c:Nat} {al:Obj},c≠r->di.heap[c]? = some al->dX.heap[c]? = some al:=fun aw h=>(OF.block _ aw).trans (Jg.obj h);have t10:∀{c:Nat} {al:Obj},c≠r->dX.heap[c]? = some al->fw.heap[c]? = some al:=fun aw h=>(OC.block _ aw).trans (Jc.obj h);have t11:∀{c:Nat} {al:Obj},c≠r->fw.heap[c]? = some al->gw.heap[c]? = some al:=fun aw h=>(OD.block _ aw).trans (Jd.obj h);have n6:=ne m6 lZ;have n7:=ne m7 Gm;have n8:=ne m8 Gn;have n9:=ne m9 a9;have n10:=ne m10 Gl;replace lZ:=t11 n6 (t10 n6 (t9 n6 (t8 n6 (t7 n6 lZ))));replace Gm:=t11 n7 (t10 n7 (t9 n7 (t8 n7 Gm)));replace Gn:=t11 n8 (t10 n8 (t9 n8 Gn));replace a9:=t11 n9 (t10 n9 a9);replace Gl:=t11 n10 Gl;have ar:Ext w gw:=OD.ext ((OC.ext ((OF.ext ((Jb.ext ((OE.ext ((Y9.ext (b5.trans OI) a6).trans Je) a6).trans Jf) a6).trans Jg) a6).trans Jc) a6).trans Jd) a6;refine⟨⟨r,_,_,[(9,_),(10,_),(11,_),(12,_),(13,_),(14,_),(15,_),(16,_),(17,_),(18,_),(19,_)],rfl,m11,rfl,fun x=>?_⟩,ar⟩;have bx:∀{f:Nat} {g:Int->Int->Int×Bool},okF Tryz.prog f=true->sr f g->zd gw (.func (.func f) #[] #[]) g:=fun h1 U=>.inl ⟨_,rfl,h1,U⟩;have ay:∀{c f:Nat} {p:Int->Int->Bool},gw.heap[c]? = some (.cells #[.func (.func f) #[] #[]] T.kT)->okF Tryz.prog f=true->vw f p->zd gw (.func (.func F.fM) #[] #[.pointer (some ⟨c,0,none⟩)]) fun a b=>(o.bit (p a b),true) :=
  fun h1 U ag=>.inr ⟨_,_,_,rfl,h1,U,ag,rfl⟩
 unfold o.gE;by_cases g9:x=9
 .subst g9;exact⟨_,rfl,_,rfl,bx (by kernel_rfl) aiD⟩
 by_cases g10:x=10
 .subst g10;exact⟨_,rfl,_,rfl,bx (by kernel_rfl) aiE⟩
 by_cases g11:x=11
 .subst g11;exact⟨_,rfl,_,rfl,bx (by kernel_rfl) RO⟩
 by_cases g12:x=12
 .subst g12;exact⟨_,rfl,_,rfl,bx (by kernel_rfl) Yx⟩
 by_cases g13:x=13
 .subst g13;exact⟨_,rfl,_,rfl,bx (by kernel_rfl) ah6⟩
 by_cases g14:x=14
 .subst g14;exact⟨_,rfl,_,rfl,ay lZ (by kernel_rfl) aiF⟩
 by_cases g15:x=15
 .subst g15;exact⟨_,rfl,_,rfl,ay Gm (by kernel_rfl) aiG⟩
 by_cases g16:x=16
 .subst g16;exact⟨_,rfl,_,rfl,ay Gn (by kernel_rfl) aiH⟩
 by_cases g17:x=17
 .subst g17;exact⟨_,rfl,_,rfl,ay a9 (by kernel_rfl) aiI⟩
 by_cases g18:x=18
 .subst g18;exact⟨_,rfl,_,rfl,ay Gl (by kernel_rfl) aiJ⟩
 by_cases g19:x=19
 .subst g19;exact⟨_,rfl,_,rfl,ay ZM (by kernel_rfl) aiK⟩
 simp[g9,g10,g11,g12,g13,g14,g15,g16,g17,g18,g19]
theorem pI.look{w:World}{m:Value}(h:pI w m)(x:Int):∃es r,qs w m es/\Instr.findNow (.int .i64) (.int .i64 x) es.toList 0=some r /\
  match o.gE x with
  | some al => ∃i v,r=some (i,v)/\BW w al v
  | none=>r=none:=by
 obtain⟨r,es,c,l,rfl,dt,l5,ar⟩:=h;obtain⟨q,h1,U⟩:=xV (IE .i64 .i64) x es.toList l 0 l5;refine⟨es,q,.inr ⟨r,c,rfl,dt⟩,h1,?_⟩
 have:=ar x
 cases ba:o.gE x with
 | none =>
  simp only[ba] at this ⊢;rw[this] at U;cases q with
  | none=>rfl
  | some q=>simp at U
 | some al =>
  simp only[ba] at this ⊢;obtain⟨p,aN,aT⟩:=this;rw[aN] at U;cases q with
  | none=>simp at U
  | some q=>simp at U;exact⟨q.1,q.2,rfl,U ▸ aT⟩
theorem pI.mod{A:Nat->Prop}{w w':World}{m:Value}(h:pI w m)(hm:Mod A w w')(eJ:∀k al,w.heap[k]? = some al->(∃es c,al = .map es c)\/(∃cs,al = .cells cs T.kT)->¬A k):pI w' m:=by
 obtain⟨r,es,c,l,rfl,dt,l5,ar⟩:=h;refine⟨r,es,c,l,rfl,hm.obj (eJ r _ dt (.inl ⟨_,_,rfl⟩)) dt,l5,fun x=>?_⟩
 have:=ar x
 cases ba:o.gE x with
 | none=>simpa only[ba] using this
 | some al =>
  simp only[ba] at this ⊢;obtain⟨p,aN,u,aT,bx⟩:=this;refine⟨p,aN,u,aT,?_⟩;rcases bx with bx | ⟨c,f,p,h1,U,ag⟩
  .exact .inl bx
  .exact .inr ⟨c,f,p,h1,hm.obj (eJ c _ U (.inr ⟨_,rfl⟩)) U,ag⟩
theorem pI.ext{w w':World}{m:Value}(h:pI w m)(he:Ext w w'):pI w' m:=h.mod (A:=fun _=>False) he.mod fun _ _ _ _ h=>h
theorem aiZ(x:Int)(m:Value)(w:World)(h:pI w m):bu Tryz.prog F.CR #[.int .i64 x,m] w fun v w'=>v = .int .i64 (o.eV x)/\Ext w w':=by
 refine bL E.CR ?_;refine bG ?_;obtain⟨es,r,U,ag,aJ⟩:=h.look x;simp -dsimp only[cF];simp -dsimp only[c4,Nat.reduceAdd,Nat.reduceEqDiff,reduceIte,reduceCtorEq,db];refine K.cut (fun bh w'=>bh 0 = .int .i64 x/\bh 1=m/\w'=w/\x≠3/\¬(1<=x/\x<=8)) ?_ ?_
 .refine a7 ?_;refine K.cond (fun h1=>?_) (fun h1=>?_)
  .refine a7 ?_;exact⟨by simp[o.eV,h1],Ext.refl _⟩
  refine a7 ?_;refine K.cond (fun bg=>?_) (fun bg=>?_)
  .refine a7 ?_;refine K.cond (fun bS=>?_) (fun bS=>?_)
   .refine a7 ?_;exact⟨by simp[o.eV,h1,bg,bS],Ext.refl _⟩
   .refine a7 ?_;refine⟨trivial,trivial,trivial,h1,by omega⟩
  .refine a7 ?_;refine⟨trivial,trivial,trivial,h1,by omega⟩
 .rintro S w' cq ⟨jn,s1,rfl,n0,Jb⟩;refine cd (i_ jn s1) ?_;refine K.mE U ag ?_;cases ba:o.gE x with
  | none =>
   simp only[ba] at aJ;subst aJ;simp only[l9,Option.map_none,Option.getD_none,Option.isSome_none,if_true];have aN:o.eV x = -1:=by
    unfold o.gE at ba;unfold o.eV
    repeat' split
    all_goals first | rfl | (exfalso;omega) | skip
    all_goals
     exfalso
     (repeat' split at ba)
     all_goals first | (cases ba;done) | omega
   refine a7 ?_;refine K.tm (vs:=[.int .i64 0,.int .i64 0,.int .i64 0,.nilFunc]) (fun _=>by simp -dsimp only[c4,cF,Nat.reduceAdd,Nat.reduceEqDiff,reduceIte,reduceCtorEq,db]) rfl rfl (by simp[Value.oneCell']) fun av b aC he aw=>?_;refine a7 ?_;rw[aN];exact cA
  | some al =>
   simp only[ba] at aJ;obtain⟨i,v,rfl,u,rfl,bx⟩:=aJ;simp only[l9,Option.map_some,Option.getD_some,Option.isSome_some,if_true];refine a7 ?_;refine K.tm (vs:=[.int .i64 al.parts,.int .i64 al.jb,.int .i64 al.makes,u]) (fun _=>by simp -dsimp only[c4,cF,Nat.reduceAdd,Nat.reduceEqDiff,reduceIte,reduceCtorEq,db]) rfl rfl (by rcases bx with ⟨f,rfl,_⟩ | ⟨c,f,p,rfl,_⟩<;>simp[Value.oneCell']) fun av b aC he aw=>?_;refine aP ?_;rw[(o.EZ ba).1];exact cA
end Go.Proofs.R
end
section
namespace o
open Go Go.RowKit bt
structure fE(w:World)(cs:List Value)(s:Scope):Prop where
 ql:s.vars.length<=1152921504606846976/\s.aL.length<=1152921504606846976/\s.procs.length<=1152921504606846976/\s.locals.length<=1152921504606846976/\eG s.self
 ex:∃v0 v1 v2 v3 v4,cs=[v0,v1,v2,v3,v4,.int .i64 s.self]/\hI w v0 s.scalars/\hi w v1 s.vars/\mK w v2 s.aL/\pJ w v3 s.procs/\hi w v4 s.locals/\s.scalars.length<=4611686018427387904
theorem fE.ext{w w':World}{cs:List Value}{s:Scope}(he:Ext w w')(h:fE w cs s):fE w' cs s :=
 let ⟨v0,v1,v2,v3,v4,e,ak,h1,U,ag,aJ,bg⟩:=h.ex
 ⟨h.ql,v0,v1,v2,v3,v4,e,ak.ext he,h1.ext he,U.ext he,ag.ext he,aJ.ext he,bg⟩
theorem fE.form{w:World}{cs:List Value}{s:Scope}(h:fE w cs s):∃a0 bP dJ c1 a2 c2 a3 bQ a4 bX,cs=[.slice a0 s.scalars.length bP,.slice dJ s.vars.length c1,.slice a2 s.aL.length c2,.slice a3 s.procs.length bQ,.slice a4 s.locals.length bX,.int .i64 s.self] /\
  hI w (.slice a0 s.scalars.length bP) s.scalars/\hi w (.slice dJ s.vars.length c1) s.vars/\mK w (.slice a2 s.aL.length c2) s.aL/\pJ w (.slice a3 s.procs.length bQ) s.procs/\hi w (.slice a4 s.locals.length bX) s.locals /\
  s.scalars.length<=4611686018427387904/\s.vars.length<=9223372036854775807/\s.aL.length<=9223372036854775807/\s.procs.length<=9223372036854775807/\s.locals.length<=9223372036854775807:=by
 obtain⟨v0,v1,v2,v3,v4,rfl,ak,h1,U,ag,aJ,bg⟩:=h.ex;obtain⟨a0,bP,rfl,_⟩:=ak.form;obtain⟨dJ,c1,rfl,ej⟩:=h1.form;obtain⟨a2,c2,rfl,ev⟩:=U.form;obtain⟨a3,bQ,rfl,ea⟩:=ag.form;obtain⟨a4,bX,rfl,ew⟩:=aJ.form;exact⟨a0,bP,dJ,c1,a2,c2,a3,bQ,a4,bX,rfl,ak,h1,U,ag,aJ,bg,ej,ev,ea,ew⟩
end o
namespace Go.Proofs.R
open Go Go.RowKit bt
theorem N0(n:Int)(cs:List Value)(s:o.Scope)(w:World)(h:o.fE w cs s) :
  bu Tryz.prog F.lZ #[.int .i64 n,.agg cs.toArray] w fun v w'=>v = .tuple #[.int .i64 (o.gU n s).1,.bool (o.gU n s).2]/\Ext w w':=by
 obtain⟨a0,bP,dJ,c1,a2,c2,a3,bQ,a4,bX,rfl,ak,h1,U,ag,aJ,eM,ej,ev,ea,ew⟩:=h.form;refine bL E.lZ ?_;refine bG ?_;refine a7 ?_;refine K.new fun av b aC aB aq=>?_
 (repeat' (refine aP ?_;first | (refine K.cond (fun _=>?_) (fun _=>?_)<;>try (exfalso;omega)) | refine K.dp (fun _=>?_) (fun _=>?_)))<;>try refine aP ?_
 all_goals
  refine⟨?_,fL⟩;unfold o.gU
  (repeat' split)<;>first | rfl | (exfalso;omega)
theorem alZ(v:Value)(l:List o.Var)(n:Int)(cs:List Value)(s:o.Scope)(w:World)(aS:o.hi w v l)(h:o.fE w cs s) :
  bu Tryz.prog F.bR #[v,.int .i64 n,.agg cs.toArray] w fun v w'=>v = .tuple #[.int .i64 (o.fQ l n s).1,.int .i64 (o.fQ l n s).2.1,.bool (o.fQ l n s).2.2]/\Ext w w':=by
 obtain⟨a0,bP,dJ,c1,a2,c2,a3,bQ,a4,bX,rfl,_⟩:=h.form;obtain⟨bm,cap,rfl,hlen⟩:=aS.form;refine bL E.bR ?_;refine bG ?_;refine a7 ?_;refine K.new fun av b aC aB aq=>?_;refine a7 ?_;apply K.cond<;>intro g1
 .refine a7 ?_;rw[o.fQ,o.hN (.inl g1)];exact cA
 refine a7 ?_;apply K.cond<;>intro g2
 .refine a7 ?_;rw[o.fQ,o.hN (.inr (by omega))];exact cA
 refine a7 ?_;obtain⟨i,rfl⟩:=Int.eq_ofNat_of_zero_le (show 0<=n by omega);have ad:i<l.length:=by omega
 rw[o.fQ,o.iY (by omega) (by omega)];simp only[Int.toNat_natCast];obtain⟨a,rfl⟩:=aS.addr (by omega);refine aP ?_;refine K.gV (c:=[_,_,_,_,_,_]) aq (Ext.refl _) rfl ?_;refine a7 ?_;refine K.gN _ (fun w' e=>N0 _ _ s w' (h.ext (aB.trans e))) ?_;refine a7 ?_;intro aU aA;refine aP ?_;refine K.gV (c:=[_,_,_,_,_,_]) aq aA rfl ?_;refine a7 ?_;refine K.gN _ (fun w' e=>N0 _ _ s w' (h.ext ((aB.trans aA).trans e))) ?_;refine a7 ?_;intro bb ax;refine aP ?_;refine K.dp (fun g3=>?_) (fun g3=>?_)
 all_goals
  refine a7 ?_;refine⟨?_,fL⟩;simp[g3]
theorem ahd(x:o.Node)(cs:List Value)(s:o.Scope)(w:World)(ar:x.ok)(h:o.fE w cs s) :
  bu Tryz.prog F.dQ #[.agg x.enc.toArray,.agg cs.toArray] w fun v w'=>v = .tuple #[.int .i64 (o.lN x s).1,.int .i64 (o.lN x s).2]/\Ext w w':=by
 obtain⟨a0,bP,dJ,c1,a2,c2,a3,bQ,a4,bX,rfl,ak,h1,U,ag,aJ,eM,ej,ev,ea,ew⟩:=h.form;refine bL E.dQ ?_;refine bG ?_;refine a7 ?_;refine K.new fun av bC cR aB aq=>?_;refine a7 ?_;refine K.new fun aU cp dR aA aQ=>?_;have cX:aU.heap[bC]? = some (.cells #[.int .i64 x.op,.int .i64 x.n] T.f):=aA.obj aq;clear aq;refine aP ?_;apply K.cond<;>intro g5
 ·(repeat' (refine aP ?_;first | (refine K.cond (fun _=>?_) (fun _=>?_)<;>try (exfalso;omega)) | refine K.dp (fun _=>?_) (fun _=>?_)))<;>try refine aP ?_
  all_goals
   refine⟨?_,fL⟩;rw[o.lN,if_pos g5];split<;>first | rfl | (exfalso;omega)
 refine aP ?_;apply K.cond<;>intro g6
 .have hk:o.lN x s=o.jF x.n s:=by rw[o.lN,if_neg g5,if_pos g6]
  rw[hk,o.jF];refine aP ?_;apply K.cond<;>intro g1;rotate_left
  .refine aP ?_;rw[o.hN (.inl (by omega))];exact cA
  refine aP ?_;apply K.cond<;>intro g2;rotate_left
  .refine aP ?_;rw[o.hN (.inr (by omega))];exact cA
  refine aP ?_;rw[o.iY (by omega) (by omega)];obtain⟨a,rfl⟩:=U.addr (by omega);have ad:x.n.toNat<s.aL.length:=by omega
  refine K.dD x.n.toNat (by omega) ad ?_;refine aP ?_;refine K.gV (c:=[_,_,_,_,_,_]) aQ (Ext.refl _) rfl ?_;refine a7 ?_;refine K.gN _ (fun w' e=>N0 _ _ s w' (h.ext ((aB.trans aA).trans e))) ?_;refine a7 ?_;intro bb ax;refine K.dp (fun g3=>?_) (fun g3=>?_)
  all_goals
   refine a7 ?_;refine⟨?_,fL⟩;simp[g3]
 refine aP ?_;apply K.cond<;>intro g7
 .have hk:o.lN x s=o.AF x.n s:=by rw[o.lN,if_neg g5,if_neg g6,if_pos g7]
  rw[hk,o.AF];refine aP ?_;apply K.cond<;>intro g1;rotate_left
  .refine aP ?_;intro bb ax;refine aP ?_;rw[if_neg g1];exact cA
  rw[if_pos g1];obtain⟨i,ad⟩:=Int.eq_ofNat_of_zero_le g1;obtain⟨_,gT⟩:=ar.n;rw[ad] at gT;have aD:x.n.tdiv 16=((i / 16:Nat):Int):=by rw[ad];rfl
  have hm:x.n.tmod 16=((i % 16:Nat):Int):=by rw[ad];rfl
  refine aP ?_;refine K.quo (by omega) ?_;rw[aD];refine aP ?_;apply K.cond<;>intro g2;rotate_left
  .refine aP ?_;intro bb ax;refine aP ?_;rw[o.hN (.inr (by omega))];exact cA
  have aR:i / 16<s.procs.length:=by omega
  rw[o.iY (by omega) (by omega)];simp only[Int.toNat_natCast];refine aP ?_;refine K.rem (by omega) ?_;refine aP ?_;refine K.quo (by omega) ?_;rw[aD];obtain⟨a,rfl⟩:=ag.addr (by omega);obtain⟨_,cE,dU,Dp,_⟩:=ag.at (i / 16) aR;have Lt:w.cell? ((a.add (i / 16*5)).add 2)=some (.int .i64 s.procs[i / 16].cw):=Dp 2 _ rfl;refine aP ?_;refine K.ld ((aB.trans aA).cell Lt) ?_;refine aP ?_;rw[hm];intro bb ax;refine aP ?_;apply K.cond<;>intro g3
  all_goals
   refine aP ?_;refine⟨?_,fL⟩
   first | rw[if_pos g3] | rw[if_neg g3]
 refine aP ?_;apply K.cond<;>intro g8
 ·(repeat' (refine aP ?_;first | (refine K.cond (fun _=>?_) (fun _=>?_)<;>try (exfalso;omega)) | refine K.dp (fun _=>?_) (fun _=>?_)))<;>try refine aP ?_
  all_goals
   refine⟨?_,fL⟩;rw[o.lN,if_neg g5,if_neg g6,if_neg g7,if_pos g8];split<;>first | rfl | (exfalso;omega)
 refine aP ?_;refine⟨?_,fL⟩;rw[o.lN,if_neg g5,if_neg g6,if_neg g7,if_neg g8]
end Go.Proofs.R
end
section
namespace o
open Go bt
def dK(n b:Nat):Prop:=n*b<=140737488351232
structure Scalar.cQ(x:Scalar):Prop where
 size:eG x.size
structure Var.cQ(x:Var):Prop where
 scalar:eG x.scalar
 over:eG x.over
 bf:eG x.bf
 ad:eG x.ad
 init:eG x.init
structure dr.cQ(x:dr):Prop where
 scalar:eG x.scalar
 cap:eG x.cap
 bf:eG x.bf
 ad:eG x.ad
structure Act.cQ(x:Act):Prop where
 kind:eG x.kind
 to:eG x.to
 loc:eG x.loc
 index:dK x.index.length 16
 value:dK x.value.length 16
structure dI.cQ(x:dI):Prop where
 from_:eG x.from_
 to:eG x.to
 guard:dK x.guard.length 16
 b6:dK x.b6.length 72
 act:∀a∈x.b6,a.cQ
structure dy.cQ(x:dy):Prop where
 over:eG x.over
 cw:eG x.cw
 vars:dK x.vars.length 56
 cH:dK x.cH.length 88
 var:∀a∈x.vars,a.cQ
 cmd:∀a∈x.cH,a.cQ
structure kQ.cQ(x:kQ):Prop where
 expr:dK x.expr.length 16
structure Model.cQ(m:Model):Prop where
 scalars:dK m.scalars.length 24
 vars:dK m.vars.length 56
 aL:dK m.aL.length 56
 procs:dK m.procs.length 80
 props:dK m.props.length 40
 scalar:∀a∈m.scalars,a.cQ
 var:∀a∈m.vars,a.cQ
 chan:∀a∈m.aL,a.cQ
 proc:∀a∈m.procs,a.cQ
 prop:∀a∈m.props,a.cQ
end o
end
section
namespace o
open Go Go.RowKit bt
structure Scope.cQ(s:Scope):Prop where
 scalars:dK s.scalars.length 24
 vars:dK s.vars.length 56
 aL:dK s.aL.length 56
 procs:dK s.procs.length 80
 locals:dK s.locals.length 56
 proc:∀a∈s.procs,a.cQ
 self:eG s.self
theorem Model.cQ.scope{m:Model}(h:m.cQ):(eR m).cQ:=⟨h.scalars,h.vars,h.aL,h.procs,by simp[eR,dK],h.proc,by simp[eR,eG]⟩
theorem Scope.cQ.inner{s:Scope}{p:dy}(h:s.cQ)(aN:p.cQ):(inner p s).cQ:=⟨h.scalars,h.vars,h.aL,h.procs,aN.vars,h.proc,aN.over⟩
theorem Scope.cQ.ql{s:Scope}(h:s.cQ):(s.vars.length<=1152921504606846976/\s.aL.length<=1152921504606846976/\s.procs.length<=1152921504606846976/\s.locals.length<=1152921504606846976/\eG s.self)/\s.scalars.length<=4611686018427387904:=by
 have ak:=h.scalars;have h1:=h.vars;have U:=h.aL;have ag:=h.procs;have aJ:=h.locals;unfold dK at ak h1 U ag aJ;exact⟨⟨by omega,by omega,by omega,by omega,h.self⟩,by omega⟩
end o
namespace Go.Proofs.R
open Go Go.RowKit bt
theorem M5(v:Value)(xs:List o.Node)(w:World)(h:o.gd w v xs)(aC:o.dK xs.length 16) :
  bu Tryz.prog F.e6 #[v] w fun cf w'=>(∃bm c,cf = .slice bm xs.length c)/\eF w (fun w=>o.gd w cf xs) w'/\Ext w w' :=
 GD mC E.e6 (by kernel_rfl) (fun h=>h) v xs w h (by unfold o.dK at aC;omega)
theorem Ox(v:Value)(xs:List o.Var)(w:World)(h:o.hi w v xs)(aC:o.dK xs.length 56) :
  bu Tryz.prog F.xE #[v] w fun cf w'=>(∃bm c,cf = .slice bm xs.length c)/\eF w (fun w=>o.hi w cf xs) w'/\Ext w w' :=
 GD mC E.xE (by kernel_rfl) (fun h=>h) v xs w h (by unfold o.dK at aC;omega)
theorem akB(v:Value)(xs:List o.Scalar)(w:World)(h:o.hI w v xs)(aC:o.dK xs.length 24) :
  bu Tryz.prog F.CS #[v] w fun cf w'=>(∃bm c,cf = .slice bm xs.length c)/\eF w (fun w=>o.hI w cf xs) w'/\Ext w w' :=
 GD mC E.CS (by kernel_rfl) (fun h=>h) v xs w h (by unfold o.dK at aC;omega)
theorem abo(v:Value)(xs:List o.dr)(w:World)(h:o.mK w v xs)(aC:o.dK xs.length 56) :
  bu Tryz.prog F.CU #[v] w fun cf w'=>(∃bm c,cf = .slice bm xs.length c)/\eF w (fun w=>o.mK w cf xs) w'/\Ext w w' :=
 GD mC E.CU (by kernel_rfl) (fun h=>h) v xs w h (by unfold o.dK at aC;omega)
abbrev gQ:=Option Addr×Nat×Nat
theorem abH(v:Value)(l:List o.dI)(w:World)(h:o.oP w v l)(aC:o.dK l.length 88)(a1:∀c∈l,c.cQ) :
  bu Tryz.prog F.CN #[v] w fun cf w'=>(∃bm c,cf = .slice bm l.length c)/\eF w (fun w=>o.oP w cf l) w'/\Ext w w':=by
 obtain⟨b9,c1,rfl,bC⟩:=h.form;refine bL E.CN ?_;refine bG ?_;refine aa ?_;refine K.dk 11 l.length [9,10] (fun v:gQ=>[(3,.slice v.1 v.2.1 v.2.2)]) (none,0,0) (fun k v w'=>Ext w w'/\ft o.xe T.n 6 w.heap.size w' (.slice v.1 v.2.1 v.2.2) (l.take k)) bz bz ⟨Ext.refl _,by simpa using ft.nil _ _ _ _ _⟩ ?_;rintro k v S av hk ⟨aB,qU⟩;refine aa ?_;apply K.cond<;>intro g1
 .have bp:k<l.length:=by omega
  have LK:=a1 l[k] (List.getElem_mem _);obtain⟨a,rfl⟩:=h.addr (by omega);obtain⟨ay,fK,ed,aw,wC,uI⟩:=h.at k bp;obtain⟨_,_,rfl,_⟩:=wC.form;obtain⟨bm,gf,rfl,aaF⟩:=uI.form;refine aa ?_;intro aU cp dR aA aQ;have DG:=cG aQ;refine aa ?_;refine K.call (M5 _ _ aU (wC.ext (aB.trans aA)) LK.guard) ?_;rintro _ bq ⟨⟨iL,je,rfl⟩,mD,aM⟩;have bw:=aM.obj aQ;have qO:=aA.trans aM;refine aa ?_;intro bT e0 cC;have nN:=e0.ext qO dR;have aZ:=aB.trans nN;have L0:=mD.wr e0 DG;have afp:=cG cC;refine aa ?_;refine K.dk 22 l[k].b6.length [3,5,9,10,11,20,21] (fun v:gQ=>[(6,.slice v.1 v.2.1 v.2.2)]) (none,0,0) (fun j v w'=>Ext bT w'/\ft o.BF T.q 5 bT.heap.size w' (.slice v.1 v.2.1 v.2.2) (l[k].b6.take j)) bz bz ⟨Ext.refl _,by simpa using ft.nil _ _ _ _ _⟩ ?_;rintro j I2 S bV aR ⟨a8,dL⟩;have ct:=a8.obj cC;refine aa ?_;apply K.cond<;>intro g2
  .have eL:j<l[k].b6.length:=by omega
   have UD:=LK.act l[k].b6[j] (List.getElem_mem _);obtain⟨a2,rfl⟩:=uI.addr (by omega);obtain⟨cx,cE,x7,fB,qZ⟩:=uI.at j eL;obtain⟨_,_,rfl,_⟩:=fB.form;obtain⟨_,_,rfl,_⟩:=qZ.form;have uq:=aZ.trans a8;refine aa ?_;intro cc l1 jX bM cU;have Hx:=uq.trans bM;have an9:=cG cU;refine aa ?_;intro di bY;have cL:=bY.obj cU;have Hy:=Hx.trans bY;refine aa ?_;refine K.call (M5 _ _ di (fB.ext Hy) UD.index) ?_;rintro _ dX ⟨⟨cS,ci,rfl⟩,HN,cr⟩;refine⟨cr,?_⟩;have dM:=cr.obj cL;have aeV:=Hy.trans cr;refine aa ?_;refine K.call (M5 _ _ dX (qZ.ext aeV) UD.value) ?_;rintro _ fw ⟨⟨Bc,dh,rfl⟩,p7,dc⟩;have jy:=dc.obj dM;have H0:=HN.ext dc cr.size;refine aa ?_;intro gw hA nL;refine aa ?_;intro la oA um;refine aa ?_;intro pz pP Df jA jj;have US:=cG cL;have UT:=cG dM;have Zg:=cr.size;have OL:=dc.size;have Jh:=hA.size;have Zd:=oA.size;have agx:=((H0.wr hA US).wr oA US).ext jA (by omega);have agD:=((p7.wr hA UT).wr oA UT).ext jA (by omega);have ab3:=((bM.trans bY).trans cr).trans dc;have SN:=(oA.ext (hA.ext ab3 jX) jX).trans jA;have Ze:=(bM.trans bY).size;have SM:=a8.trans SN;have XP:=dL.ext SN;have aD:=NU eL LK.b6 aaF;refine aa ?_;refine K.zy (x:=l[k].b6[j]) (cs:=l[k].b6[j].enc (.slice cS l[k].b6[j].index.length ci) (.slice Bc l[k].b6[j].value.length dh)) XP (hj jj)
    (eF.own (((agx.low Ze).and (agD.low (by omega))).imp fun w h=>⟨_,_,rfl,h.1,h.2⟩) dL a8.size) rfl (by simp[o.Act.enc,Value.oneCell']) aD.1 aD.2 SM.size fun cf w' a6 Dy=>?_
   obtain⟨j5,o1,rfl,_⟩:=a6.form;refine aa ?_;exact⟨eL,bk,(j5,_,o1),bz,XP.mq SM Dy (Nat.le_refl _),a6.snoc eL⟩
  .have yg:=dL.done (by omega);have KV:eF bT (fun w=>o.nz w (.slice I2.1 I2.2.1 I2.2.2) l[k].b6) bV:=yg.new;obtain⟨wS,Ci,cM,_⟩:=KV.here.form;rw[cM] at KV;refine aa ?_;intro cc dx cU;refine aa ?_;intro di kU qM bY cL;have z25:aU.heap.size<=bT.heap.size:=by have:=aM.size;have:=e0.size;omega
   have y9:=a8.size;have z67:=dx.size;have agy:=((L0.ext a8 z25).wr dx DG).ext bY (by omega);have agE:=(KV.wr dx afp).ext bY (by omega);have SJ:=(dx.ext (nN.trans a8) dR).trans bY;have SD:=aB.trans SJ;have XQ:=qU.ext SJ;have z12:=aA.size;have aD:=NU bp aC bC;refine aa ?_;refine K.zy (x:=l[k]) (cs:=l[k].enc (.slice iL l[k].guard.length je) (.slice wS l[k].b6.length Ci)) XQ (by have:=hj cL;rw[cM] at this;exact this)
    (eF.own (((agy.low z12).and (agE.low nN.size)).imp fun w h=>⟨ay,_,_,rfl,h.1,h.2⟩) qU aB.size) rfl (by simp[o.dI.enc,Value.oneCell']) aD.1 aD.2 SD.size fun cf w' a6 Dy=>?_
   obtain⟨j5,o1,rfl,_⟩:=a6.form;refine aa ?_;exact⟨bp,bk,(j5,_,o1),bz,XQ.mq SD Dy (Nat.le_refl _),a6.snoc bp⟩
 .refine aa ?_;have yg:=qU.done (by omega);have gp:eF w (fun w=>o.oP w (.slice v.1 v.2.1 v.2.2) l) av:=yg.new;obtain⟨wS,Ci,cM,_⟩:=gp.here.form;exact⟨⟨wS,Ci,cM⟩,gp,aB⟩
end Go.Proofs.R
namespace Go.Proofs.R
open Go Go.RowKit bt
theorem VF(p:o.dy)(cy b9 ck cn cB e3 oE:Option Addr)(hc j4 jm nU sc yO M4 bP c1 c2 bQ bX fy kz:Nat)(n:Int)(w:World) :
  bu Tryz.prog F.hv #[.agg (p.enc (.slice e3 yO fy) (.slice oE M4 kz)).toArray,.agg #[.slice cy hc bP,.slice b9 j4 c1,.slice ck jm c2,.slice cn nU bQ,.slice cB sc bX,.int .i64 n]] w fun v w' =>
   v = .agg #[.slice cy hc bP,.slice b9 j4 c1,.slice ck jm c2,.slice cn nU bQ,.slice e3 yO fy,.int .i64 p.over]/\Ext w w':=by
 refine bL E.hv ?_;refine bG ?_;simp -dsimp only[cF];refine ee ?_;intro av bC cR aB aq;refine ee ?_;intro aU cp dR aA aQ;refine ee ?_;intro bb b4 fp ax bA;refine ee ?_;have dN:cp≠bC:=by have:=cG aq;omega
 have eb:b4≠cp:=by have:=cG aQ;omega
 refine K.hl [2,3,4] (fun _=>[]) (fun(_:Unit) w'=>(Ext w w'/\bb.heap.size<=w'.heap.size)/\w'.heap[cp]? = some (.cells #[.slice cy hc bP,.slice b9 j4 c1,.slice ck jm c2,.slice cn nU bQ,.slice e3 yO fy,.int .i64 p.over] T.e)/\w'.heap[b4]? = bb.heap[b4]?) ?_ ?_
 .refine aa ?_;intro bq aM;have aq:=((aA.trans ax).trans aM).obj aq;have aQ:=(ax.trans aM).obj aQ;have bA:=aM.obj bA;have pa:=((aB.trans aA).trans ax).trans aM;have apV:=aB.size;have BD:=aM.size;have fin:∀bT bV,dA cp bq bT->dA cp bT bV->bV.heap[cp]? = some (.cells #[.slice cy hc bP,.slice b9 j4 c1,.slice ck jm c2,.slice cn nU bQ,.slice e3 yO fy,.int .i64 p.over] T.e) ->
    (Ext w bV/\bb.heap.size<=bV.heap.size)/\bV.heap[cp]? = some (.cells #[.slice cy hc bP,.slice b9 j4 c1,.slice ck jm c2,.slice cn nU bQ,.slice e3 yO fy,.int .i64 p.over] T.e)/\bV.heap[b4]? = bb.heap[b4]? := fun bT bV a b c=>by
   have:=a.size
   have:=b.size
   refine⟨⟨b.ext (a.ext pa (by omega)) (by omega),by omega⟩,c,?_⟩;rw[b.block b4 eb,a.block b4 eb,bA]
   symm
   assumption
  refine aa ?_;refine⟨?_,?_⟩
  .refine aa ?_;refine⟨?_,?_⟩
   .refine aa ?_;intro bT e0 cC;refine aa ?_;intro bV gh ct;refine aa ?_;exact⟨(),trivial,fin bT bV e0 gh ct⟩
   .refine aa ?_;intro bT e0 cC;have aq:=e0.obj aq (Ne.symm dN);refine aa ?_;intro bV gh ct;refine aa ?_;exact⟨(),trivial,fin bT bV e0 gh ct⟩
  .refine aa ?_;intro bT e0 cC;refine aa ?_;intro bV gh ct;refine aa ?_;exact⟨(),trivial,fin bT bV e0 gh ct⟩
 rintro _ S bq ⟨⟨aM,z4⟩,bw,Af⟩;rw[bA] at Af;have cv:=cG bA;refine aa ?_;intro bT e0 cC;refine aa ?_;exact⟨bk,e0.ext aM (by have:=aB.size;have:=aA.size;omega)⟩
theorem abM(cs:List Value)(s:o.Scope)(w:World)(h:o.fE w cs s)(a1:s.cQ) :
  bu Tryz.prog F.CC #[.agg cs.toArray] w fun v w'=>(∃iD,v = .agg iD.toArray/\eF w (fun w=>o.fE w iD s) w')/\Ext w w':=by
 have s8:=a1.ql;obtain⟨cy,bP,b9,c1,ck,c2,cn,bQ,cB,bX,rfl,ak,h1,U,ag,aJ,_,ej,ev,ea,ew⟩:=h.form;refine bL E.CC ?_;refine bG ?_;refine aa ?_;intro av bC cR aB aq;refine aa ?_;intro aU cp dR aA aQ;have sR:cp≠bC:=by have:=cG aq;omega
 refine aa ?_;intro bb ax;have tV:=(aB.trans aA).trans ax;have aq:=(aA.trans ax).obj aq;have aQ:=ax.obj aQ;have DF:=cG aq;have DG:=cG aQ;refine aa ?_;refine K.call (akB _ _ bb (ak.ext tV) a1.scalars) ?_;rintro _ bq ⟨⟨lb,FH,rfl⟩,hc,aM⟩;refine⟨aM,?_⟩;refine aa ?_;refine K.call (Ox _ _ bq (h1.ext (tV.trans aM)) a1.vars) ?_;rintro _ bT ⟨⟨j8,kN,rfl⟩,j4,aZ⟩;refine⟨aM.trans aZ,?_⟩;refine aa ?_;refine K.call (abo _ _ bT (U.ext ((tV.trans aM).trans aZ)) a1.aL) ?_;rintro _ bV ⟨⟨j9,kv,rfl⟩,jm,a8⟩;have aq:=((aM.trans aZ).trans a8).obj aq;have aQ:=((aM.trans aZ).trans a8).obj aQ;have vW:=((tV.trans aM).trans aZ).trans a8;have n36:=(hc.ext (aZ.trans a8) aM.size).and (((j4.ext a8 aZ.size).low aM.size).and (jm.low (aM.trans aZ).size));refine aa ?_;intro cc dx cU;refine aa ?_;intro di iJ cL;refine aa ?_;intro dX iV dM;have SE:=iV.ext (iJ.ext (dx.ext vW cR) cR) cR;have n39:=((n36.wr dx DF).wr iJ DF).wr iV DF;have z36:=((aM.trans aZ).trans a8).size;have apZ:dX.heap.size=bV.heap.size:=by rw[iV.size,iJ.size,dx.size]
 have aQ:=iV.obj (iJ.obj (dx.obj aQ sR) sR) sR;refine aa ?_;refine K.call (Ox _ _ dX (aJ.ext SE) a1.locals) ?_;rintro _ fw ⟨⟨nw,y6,rfl⟩,sc,dc⟩;have jy:=dc.obj dM;have aQ:=dc.obj aQ;refine aa ?_;intro gw hA nL;have aQ:=hA.obj aQ sR;have SB:=hA.ext (SE.trans dc) cR;have OL:=dc.size;have Jh:=hA.size;have n311:=((n39.ext dc (by omega)).wr hA DF).and ((sc.wr hA (cG dM)).low (w0:=bb) (by omega));have afo:=cG nL;refine aa ?_;refine K.dk 25 s.procs.length [1,2,23,24] (fun v:gQ=>[(3,.slice v.1 v.2.1 v.2.2)]) (none,0,0) (fun k v w'=>Ext gw w'/\ft o.vC T.h 5 gw.heap.size w' (.slice v.1 v.2.1 v.2.2) (s.procs.take k)) bz bz ⟨Ext.refl _,by simpa using ft.nil _ _ _ _ _⟩ ?_;rintro k v S la hk ⟨fv,L3⟩;have um:=fv.obj nL;refine aa ?_;apply K.cond<;>intro g1
 .have bp:k<s.procs.length:=by omega
  have LL:=a1.proc s.procs[k] (List.getElem_mem _);obtain⟨a,rfl⟩:=ag.addr (by omega);obtain⟨ay,cE,dU,dZ,eT,gS⟩:=ag.at k bp;obtain⟨_,_,rfl,_⟩:=eT.form;obtain⟨_,_,rfl,_⟩:=gS.form;have SC:=SB.trans fv;refine aa ?_;intro nv xD Hg ye Hn;have ab0:=SC.trans ye;refine aa ?_;refine K.call (Ox _ _ nv (eT.ext ab0) LL.vars) ?_;rintro _ y3 ⟨⟨e3,fy,rfl⟩,yO,p3⟩;have sV:=p3.obj Hn;refine aa ?_;intro BB Mw T6;have Kp:=Mw.ext (ye.trans p3) Hg;have ab1:=SC.trans Kp;refine aa ?_;refine K.call (abH _ _ BB (gS.ext ab1) LL.cH LL.cmd) ?_;rintro _ apM ⟨⟨oE,kz,rfl⟩,M4,HB⟩;have anO:=HB.obj T6;refine aa ?_;intro apN HX hz;have ab2:=HX.ext (Kp.trans HB) Hg;refine aa ?_;intro apO amU anG LC aeI;have SH:=ab2.trans LC;have Zh:=cG Hn;have ap2:=p3.size;have ap3:=Mw.size;have ap4:=HB.size;have ap5:=HX.size;have aio:=(((yO.wr Mw Zh).ext HB (by omega)).wr HX Zh).ext LC (by omega);have ah9:=(M4.wr HX (cG T6)).ext LC (by omega);have XR:=L3.ext SH;have aD:=NU bp a1.procs ea;have SG:=fv.trans SH;refine aa ?_;refine K.zy (x:=s.procs[k]) (cs:=s.procs[k].enc (.slice e3 s.procs[k].vars.length fy) (.slice oE s.procs[k].cH.length kz)) XR (hj aeI)
   (eF.own (((aio.low ye.size).and (ah9.low Kp.size)).imp fun w h=>⟨ay,_,_,rfl,h.1,h.2⟩) L3 fv.size) rfl (by simp[o.dy.enc,Value.oneCell']) aD.1 aD.2 SG.size fun cf w' a6 Dy=>?_
  obtain⟨j5,o1,rfl,_⟩:=a6.form;refine aa ?_;exact⟨bp,bk,(j5,_,o1),bz,XR.mq SG Dy (Nat.le_refl _),a6.snoc bp⟩
 .have yg:=L3.done (by omega);have gp:eF gw (fun w=>o.pJ w (.slice v.1 v.2.1 v.2.2) s.procs) la:=yg.new;obtain⟨wS,Ci,cM,_⟩:=gp.here.form;rw[cM] at gp;have aQ:=fv.obj aQ;refine aa ?_;intro pz kp jj;have aQ:=kp.obj aQ sR;refine aa ?_;intro Oz D1 aeq;have Zd:=fv.size;have n14:=(((n311.ext fv (by omega)).wr kp DF).wr D1 DG).and (((gp.wr kp afo).wr D1 (Nat.lt_of_lt_of_le DG (by omega))).low (w0:=bb) (by omega));have z12:=aB.size;have dQ:=D1.ext (kp.ext (SB.trans fv) cR) (by omega);refine aa ?_;refine⟨⟨[.slice lb s.scalars.length FH,.slice j8 s.vars.length kN,.slice j9 s.aL.length kv,.slice wS s.procs.length Ci,.slice nw s.locals.length y6,.int .i64 s.self],?_,
   (n14.low tV.size).imp fun w h=>⟨s8.1,_,_,_,_,_,rfl,h.1.1.1,h.1.1.2.1,h.1.1.2.2,h.2,h.1.2,s8.2⟩⟩,dQ⟩
  rw[cM]
  first | trivial | rfl
end Go.Proofs.R
end
section
namespace o
open Go Go.RowKit bt
theorem dY.form{w:World}{cs:List Value}{m:Model}(h:dY w cs m):∃a0 bP dJ c1 a2 c2 a3 bQ a4 bX,cs=[.slice a0 m.scalars.length bP,.slice dJ m.vars.length c1,.slice a2 m.aL.length c2,.slice a3 m.procs.length bQ,.slice a4 m.props.length bX] /\
  hI w (.slice a0 m.scalars.length bP) m.scalars/\hi w (.slice dJ m.vars.length c1) m.vars/\mK w (.slice a2 m.aL.length c2) m.aL/\pJ w (.slice a3 m.procs.length bQ) m.procs/\zl w (.slice a4 m.props.length bX) m.props /\
  m.scalars.length<=9223372036854775807/\m.vars.length<=9223372036854775807/\m.aL.length<=9223372036854775807/\m.procs.length<=9223372036854775807/\m.props.length<=9223372036854775807:=by
 obtain⟨v0,v1,v2,v3,v4,rfl,ak,h1,U,ag,aJ⟩:=h.ex;obtain⟨a0,bP,rfl,eM⟩:=ak.form;obtain⟨dJ,c1,rfl,ej⟩:=h1.form;obtain⟨a2,c2,rfl,ev⟩:=U.form;obtain⟨a3,bQ,rfl,ea⟩:=ag.form;obtain⟨a4,bX,rfl,ew⟩:=aJ.form;exact⟨a0,bP,dJ,c1,a2,c2,a3,bQ,a4,bX,rfl,ak,h1,U,ag,aJ,eM,ej,ev,ea,ew⟩
theorem Xe{m:Model}{k:Nat}(h:k<m.procs.length):gM m (k:Int)=inner m.procs[k] (eR m):=by
 unfold gM;rw[iY (by omega) (by omega)];simp
theorem Iw{m:Model}{i:Int}(h:i<0\/(m.procs.length:Int)<=i):gM m i=eR m:=by
 unfold gM;rw[hN h]
theorem Model.cQ.gM{m:Model}(h:m.cQ)(i:Int):(gM m i).cQ:=by
 unfold o.gM;cases aE:nth m.procs i with
 | none=>exact h.scope
 | some p =>
  refine h.scope.inner (h.proc p ?_);unfold nth at aE;by_cases ak:0<=i
  .rw[if_pos ak] at aE;exact List.mem_of_getElem? aE
  .rw[if_neg ak] at aE;cases aE
end o
namespace Go.Proofs.R
open Go Go.RowKit bt
theorem Yc(cs:List Value)(m:o.Model)(i:Int)(w:World)(h:o.dY w cs m)(a1:m.cQ) :
  bu Tryz.prog F.om #[.agg cs.toArray,.int .i64 i] w fun v w'=>(∃iD,v = .agg iD.toArray/\eF w (fun w=>o.fE w iD (o.gM m i)) w')/\Ext w w':=by
 obtain⟨cy,bP,b9,c1,ck,c2,cn,bQ,cB,bX,rfl,ak,h1,U,ag,aJ,eM,ej,ev,ea,ew⟩:=h.form;have s8:=a1.scope.ql;refine bL E.om ?_;refine bG ?_;simp -dsimp only[cF];refine ee ?_;intro av bC cR aB aq;refine ee ?_;intro aU cp dR aA aQ;simp -dsimp only[cF];refine ee ?_;intro bb b4 fp ax bA;refine ee ?_;have BL:∀{w':World},Ext bb w'->Ext w w':=fun e=>((aB.trans aA).trans ax).trans e;have cq:∀w',Ext w w'->o.fE w' [.slice cy m.scalars.length bP,.slice b9 m.vars.length c1,.slice ck m.aL.length c2,.slice cn m.procs.length bQ,.slice none 0 0,.int .i64 0] (o.eR m):=fun w' e =>
  ⟨s8.1,_,_,_,_,_,rfl,ak.ext e,h1.ext e,U.ext e,ag.ext e,bE.nil,s8.2⟩
 refine K.hl [2,4,5] (fun _=>[]) (fun(x:List Value) w'=>Ext w w'/\Ext aU w'/\w'.heap[b4]? = some (.cells x.toArray T.e)/\o.fE w' x (o.gM m i)) ?_ ?_
 .refine aa ?_;apply K.cond<;>intro g1;rotate_left
  .refine aa ?_;exact⟨_,trivial,BL (Ext.refl _),ax,bA,by rw[o.Iw (.inl (by omega))];exact cq _ (BL (Ext.refl _))⟩
  refine aa ?_;apply K.cond<;>intro g2;rotate_left
  .refine aa ?_;exact⟨_,trivial,BL (Ext.refl _),ax,bA,by rw[o.Iw (.inr (by omega))];exact cq _ (BL (Ext.refl _))⟩
  obtain⟨k,rfl⟩:=Int.eq_ofNat_of_zero_le (show 0<=i by omega);have hk:k<m.procs.length:=by omega
  obtain⟨a,rfl⟩:=ag.addr (by omega);obtain⟨ay,cE,dU,dZ,eT,gS⟩:=ag.at k hk;obtain⟨e3,fy,rfl,_⟩:=eT.form;obtain⟨_,_,rfl,_⟩:=gS.form;refine aa ?_;intro bq aM;have bw:=aM.obj bA;refine aa ?_;refine K.call (VF m.procs[k] _ _ _ _ _ _ _ _ _ _ _ _ _ _ _ _ _ _ _ _ _ _ bq) ?_;rintro _ bT ⟨rfl,aZ⟩;have cC:=aZ.obj bw;refine aa ?_;intro bV gh ct;refine aa ?_;have vW:=gh.ext (BL (aM.trans aZ)) (by have:=aB.size;have:=aA.size;omega);exact⟨_,trivial,vW,gh.ext ((ax.trans aM).trans aZ) fp,ct,by
   rw[o.Xe hk];exact⟨(a1.scope.inner (a1.proc _ (List.getElem_mem hk))).ql.1,_,_,_,_,_,rfl,ak.ext vW,h1.ext vW,U.ext vW,ag.ext vW,eT.ext vW,s8.2⟩⟩
 rintro x S bq ⟨Cx,GQ,bw,ar⟩;have aQ:=GQ.obj aQ;refine aa ?_;refine K.j3 (hj bw) ?_ ?_
 .obtain⟨_,_,_,_,_,rfl,_⟩:=ar.ex;rfl
 refine aa ?_;refine K.call (abM _ _ bq ar (a1.gM i)) ?_;rintro _ bT ⟨⟨iD,rfl,aE⟩,aZ⟩;have cC:=aZ.obj aQ;obtain⟨FH,d0,kN,d1,kv,d2,y5,d3,y6,d4,rfl,_⟩:=aE.here.form;refine aa ?_;intro bV gh ct;refine aa ?_
 have:=cG aQ
 exact⟨⟨_,rfl,(aE.wr gh this).low Cx.size⟩,gh.ext (Cx.trans aZ) (by have:=aB.size;omega)⟩
theorem ajT{w0:World}(cs:List Value)(m:o.Model)(i:Int)(w:World)(h:o.dY w0 cs m)(dQ:Ext w0 w)(a1:m.cQ) :
  bu Tryz.prog F.Ew #[.agg cs.toArray,.int .i64 i] w fun v w'=>(∃iD,v = .agg iD.toArray/\∀b1,Ext w0 b1->o.fE b1 iD (o.gM m i))/\Ext w w':=by
 obtain⟨cy,bP,b9,c1,ck,c2,cn,bQ,cB,bX,rfl,ak,h1,U,ag,aJ,eM,ej,ev,ea,ew⟩:=h.form;have s8:=a1.scope.ql;refine bL E.Ew ?_;refine bG ?_;refine aa ?_;intro av bC cR aB aq;refine aa ?_;intro aU cp dR aA aQ;have Jl:∀{w':World},Ext aU w'->Ext w w':=fun e=>(aB.trans aA).trans e;have UX:∀{w':World},i<0\/(m.procs.length:Int)<=i->Ext w0 w'->o.fE w' [.slice cy m.scalars.length bP,.slice b9 m.vars.length c1,.slice ck m.aL.length c2,.slice cn m.procs.length bQ,.slice none 0 0,.int .i64 0] (o.gM m i):=fun {w'} ad e=>by
  rw[o.Iw ad];exact⟨s8.1,_,_,_,_,_,rfl,ak.ext e,h1.ext e,U.ext e,ag.ext e,bE.nil,s8.2⟩
 refine aa ?_;apply K.cond<;>intro g1
 .refine aa ?_;intro bb fT bA;have tV:=fT.ext (Jl (Ext.refl _)) (by have:=aB.size;omega);refine aa ?_;exact⟨⟨_,rfl,fun b1 e=>UX (.inl g1) e⟩,tV⟩
 refine aa ?_;apply K.cond<;>intro g2
 .refine aa ?_;intro bb fT bA;have tV:=fT.ext (Jl (Ext.refl _)) (by have:=aB.size;omega);refine aa ?_;exact⟨⟨_,rfl,fun b1 e=>UX (.inr g2) e⟩,tV⟩
 obtain⟨k,rfl⟩:=Int.eq_ofNat_of_zero_le (show 0<=i by omega);have hk:k<m.procs.length:=by omega
 obtain⟨a,rfl⟩:=ag.addr (by omega);obtain⟨ay,cE,dU,dZ,eT,gS⟩:=ag.at k hk;obtain⟨e3,fy,rfl,_⟩:=eT.form;obtain⟨_,_,rfl,_⟩:=gS.form;refine aa ?_;intro bb b4 fp ax bA;have aQ:=ax.obj aQ;refine aa ?_;intro bq eu bw;have Cx:=eu.ext (Jl ax) (by have:=aB.size;omega);refine aa ?_;exact⟨⟨_,rfl,fun b1 e=>by
  rw[o.Xe hk];exact⟨(a1.scope.inner (a1.proc _ (List.getElem_mem hk))).ql.1,_,_,_,_,_,rfl,ak.ext e,h1.ext e,U.ext e,ag.ext e,eT.ext e,s8.2⟩⟩,Cx⟩
abbrev kS:=Option Addr×Nat×Nat
def IK(x:kS):Value:=.slice x.1 x.2.1 x.2.2
def encS(x:ByteArray):List Value:=[.string x]
theorem ach(y:ByteArray):∀u∈encS y,u.oneCell'=true:=by
 intro u hu;simp only[encS,List.mem_cons,List.not_mem_nil,or_false] at hu;subst hu;rfl
abbrev zk(base:Nat)(w:World)(v:kS)(b7:List ByteArray):Prop:=bs encS T.j 1 base w (IK v) b7
structure Qa(m:o.Model):Prop where
 s:m.scalars.length<=20
 v:m.vars.length<=20
 c:m.aL.length<=20
 p:m.procs.length<=20
 q:m.props.length<=20
 i:∀(j:Nat) (h:j<m.procs.length),m.procs[j].vars.length<=20/\m.procs[j].cH.length<=20
structure js(w w':World)(bC:Nat)(cs:List Value)(v:kS)(b7:List ByteArray):Prop where
 ext:Ext w w'
 h1:w'.heap[bC]? = some (.cells cs.toArray T.b)
 own:zk w.heap.size w' v b7
theorem js.then{w w' b1:World}{bC:Nat}{cs:List Value}{v:kS}{b7:List ByteArray}(h:js w w' bC cs v b7)(he:Ext w' b1):js w b1 bC cs v b7:=⟨h.ext.trans he,he.obj h.h1,h.own.ext he⟩
theorem js.grown{w w' b1:World}{bC:Nat}{cs:List Value}{v cf:kS}{b7 ns:List ByteArray}(h:js w w' bC cs v b7)(a1:w'.grownBy b1 (IK v).ownBlock)(ba:zk w.heap.size b1 cf ns):js w b1 bC cs cf ns:=by
 refine⟨Ext.grown h.ext a1 fun k hk=>(h.own.lt k hk).1,?_,ba⟩;rw[a1.block bC (cG h.h1) fun e'=>?_]
 .exact h.h1
 rcases h.own.2 with ⟨e,_⟩ | ⟨g,cap,c2,e,_,Al,_⟩
 .rw[e] at e';cases e'
 .rw[e] at e';simp only[Value.ownBlock,Option.some.injEq] at e';subst e'
  have:=h.h1.symm.trans Al
  injection this with this
  injection this with _ this
  revert this;decide
theorem js.iy{w w':World}{bC:Nat}{cs:List Value}{v:kS}{b7 ns:List ByteArray}(h:js w w' bC cs v b7)(e:b7=ns):js w w' bC cs v ns:=e ▸ h
theorem Bv{α β:Type}(f:α->β)(pre:List β)(l:List α)(k:Nat)(h:k<l.length):pre++(l.take k).map f++[f l[k]]=pre++(l.take (k+1)).map f:=by
 rw[List.take_succ_eq_append_getElem h,List.map_append,<-List.append_assoc];rfl
end Go.Proofs.R
end
section
namespace o
def cP(q p i:Int)(len:Nat):Nat:=if q<p then (if q+1<p then len else min len i.toNat) else 0
def hs(p i:Int)(len:Nat):Nat:=if 4<p then min len i.toNat else 0
def tK(m:Model)(p i:Int):List ByteArray :=
 m.scalars.map (·.name)++(m.vars.take (cP 1 p i m.vars.length)).map (·.name)++(m.aL.take (cP 2 p i m.aL.length)).map (·.name)++(m.procs.take (cP 3 p i m.procs.length)).map (·.name)++(m.props.take (hs p i m.props.length)).map (·.name)
end o
namespace Go.Proofs.R
open Go Go.RowKit bt
theorem B9{P:Program}{v:kS}{b7:List ByteArray}{x:ByteArray}{b c base:Nat}{w:World}{c9:Value->World->Prop}{ty:TypeId}{t}(h:zk base w v b7)(aw:w.heap[b]? = some (.cells #[.string x] T.j))(hm:b7.length+1<=8796093022208)(jx:base<=w.heap.size)
  (hk:∀(cf:kS) w',zk base w' cf (b7++[x])->w.grownBy w' (IK v).ownBlock->c9 (.slice cf.1 cf.2.1 cf.2.2) w'):lf P ty T.j 1 16 (.slice v.1 v.2.1 v.2.2) (.slice (some ⟨b,0,none⟩) 1 c) w c9 t:=by
 have qh:(b7.length+1)*16<=140737488355328:=by omega
 have si:b7.length+1<=maxLen:=by unfold maxLen;omega
 refine K.sB (b:=16) (s:=IK v) (ys:=[x]) h (fun _=>rfl) (hj aw) rfl ach qh si jx fun cf w' ba a1=>?_;obtain⟨bm,cap,rfl,_⟩:=ba.form;exact hk (bm,_,cap) w' ba a1
theorem B6(cs:List Value)(m:o.Model)(p i:Int)(w:World)(h:o.dY w cs m)(aN:2<=p)(ad:0<=i)(aS:m.scalars.length+o.cP 1 p i m.vars.length+o.cP 2 p i m.aL.length+o.cP 3 p i m.procs.length+o.hs p i m.props.length<=8000000000000) :
  bu Tryz.prog F.uY #[.agg cs.toArray,.int .i64 p,.int .i64 i] w fun u w'=>(∃v:kS,u = .slice v.1 v.2.1 v.2.2/\zk w.heap.size w' v (o.tK m p i))/\Ext w w':=by
 obtain⟨cy,bP,b9,c1,ck,c2,cn,bQ,cB,bX,rfl,ak,h1,U,ag,aJ,eM,ej,ev,ea,ew⟩:=h.form;refine bL E.uY ?_;refine bG ?_;simp -dsimp only[cF];refine ee ?_;intro av bC cR aB aq;have tv:js w av bC _ (none,0,0) []:=⟨aB,aq,bs.nil _ _ _ _ _⟩;clear aq;refine ee ?_;simp -dsimp only[cF];refine ee ?_;refine K.hl [1,2,3] (fun v:kS=>[(7,.slice v.1 v.2.1 v.2.2)]) (fun v w'=>js w w' bC [.slice cy m.scalars.length bP,.slice b9 m.vars.length c1,.slice ck m.aL.length c2,.slice cn m.procs.length bQ,.slice cB m.props.length bX] v (([]:List ByteArray)++(m.scalars.map (·.name)))) ?_ ?_
 .have gp:m.scalars.length<=m.scalars.length:=by exact Nat.le_refl _
  have dQ:=tv.ext;have f0:=tv.h1;refine aa ?_;refine K.dk 8 (m.scalars.length) [1,2,3] (fun v:kS=>[(7,.slice v.1 v.2.1 v.2.2)]) ((none,0,0):kS) (fun k v w'=>js w w' bC [.slice cy m.scalars.length bP,.slice b9 m.vars.length c1,.slice ck m.aL.length c2,.slice cn m.procs.length bQ,.slice cB m.props.length bX] v (([]:List ByteArray)++(m.scalars.take k).map (·.name))) bz bz (tv.iy (by simp)) ?_;clear dQ f0;rintro k k9 S pB hk j6;have oq:=j6.ext;have rN:=j6.h1;have fin:k=m.scalars.length->js w pB bC [.slice cy m.scalars.length bP,.slice b9 m.vars.length c1,.slice ck m.aL.length c2,.slice cn m.procs.length bQ,.slice cB m.props.length bX] k9 (([]:List ByteArray)++(m.scalars.map (·.name))):=fun e=>j6.iy (by rw[e];simp);refine K.hl [1,2,3,7,8] (fun _:Unit=>[]) (fun _ w'=>w'=pB/\k<m.scalars.length) ?_ ?_
  .refine aa ?_;apply K.cond<;>intro g1
   .refine aa ?_;exact⟨(),trivial,bk,by omega⟩
   .refine aa ?_;exact⟨k9,bz,fin (by omega)⟩
  rintro _ kR _ ⟨rfl,uy⟩;have bp:k<m.scalars.length:=by omega
  obtain⟨a,rfl⟩:=ak.addr (by omega);have ei:=((ak.at k bp).cells).ext oq;refine aa ?_;intro y3 Gv Hh p3 sV;have lR:=j6.then p3;have z:=lR.ext.size;refine aa ?_;refine B9 lR.own sV (by simp only[List.length_append,List.length_map,List.length_nil,List.length_cons,List.length_take];omega) z fun vm BB uD uw=>?_;have vi:=(lR.grown uw uD).iy (Bv (fun x:o.Scalar=>x.name) _ _ _ bp);refine aa ?_;exact⟨uy,bk,vm,bz,vi⟩
 clear tv;rintro v1 sw aU st1;have j8:=st1.ext;have f1:=st1.h1;refine K.hl [1,2,3] (fun v:kS=>[(7,.slice v.1 v.2.1 v.2.2)]) (fun v w'=>js w w' bC [.slice cy m.scalars.length bP,.slice b9 m.vars.length c1,.slice ck m.aL.length c2,.slice cn m.procs.length bQ,.slice cB m.props.length bX] v (([]++(m.scalars.map (·.name)))++((m.vars.take (o.cP 1 p i m.vars.length)).map (·.name)))) ?_ ?_
 .have gp:o.cP 1 p i m.vars.length<=m.vars.length:=by unfold o.cP; (repeat' split)<;>omega
  have dQ:=st1.ext;have f0:=st1.h1;refine aa ?_;refine K.dk 9 (o.cP 1 p i m.vars.length) [1,2,3] (fun v:kS=>[(7,.slice v.1 v.2.1 v.2.2)]) v1 (fun k v w'=>js w w' bC [.slice cy m.scalars.length bP,.slice b9 m.vars.length c1,.slice ck m.aL.length c2,.slice cn m.procs.length bQ,.slice cB m.props.length bX] v (([]++(m.scalars.map (·.name)))++(m.vars.take k).map (·.name))) bz bz (st1.iy (by simp)) ?_;clear dQ f0;rintro k k9 S pB hk j6;have oq:=j6.ext;have rN:=j6.h1;have fin:k=o.cP 1 p i m.vars.length->js w pB bC [.slice cy m.scalars.length bP,.slice b9 m.vars.length c1,.slice ck m.aL.length c2,.slice cn m.procs.length bQ,.slice cB m.props.length bX] k9 (([]++(m.scalars.map (·.name)))++((m.vars.take (o.cP 1 p i m.vars.length)).map (·.name))):=fun e=>j6.iy (by rw[e]);refine K.hl [1,2,3,7,9] (fun _:Unit=>[]) (fun _ w'=>w'=pB/\k<o.cP 1 p i m.vars.length) ?_ ?_
  .refine aa ?_;apply K.cond<;>intro g1
   .refine aa ?_;apply K.cond<;>intro g3
    .refine aa ?_;exact⟨(),trivial,bk,by unfold o.cP at gp hk ⊢; (repeat' split at hk) <;> (repeat' split)<;>omega⟩
    .refine aa ?_;apply K.cond<;>intro g4
     .refine aa ?_;exact⟨(),trivial,bk,by unfold o.cP at gp hk ⊢; (repeat' split at hk) <;> (repeat' split)<;>omega⟩
     .refine aa ?_;exact⟨k9,bz,fin (by unfold o.cP at gp hk ⊢; (repeat' split at hk) <;> (repeat' split)<;>omega)⟩
   .refine aa ?_;exact⟨k9,bz,fin (by unfold o.cP at gp hk ⊢; (repeat' split at hk) <;> (repeat' split)<;>omega)⟩
  rintro _ kR _ ⟨rfl,uy⟩;have bp:k<m.vars.length:=by omega
  obtain⟨a,rfl⟩:=h1.addr (by omega);have ei:=((h1.at k bp).cells).ext oq;refine aa ?_;intro y3 Gv Hh p3 sV;have lR:=j6.then p3;have z:=lR.ext.size;refine aa ?_;refine B9 lR.own sV (by simp only[List.length_append,List.length_map,List.length_nil,List.length_cons,List.length_take];omega) z fun vm BB uD uw=>?_;have vi:=(lR.grown uw uD).iy (Bv (fun x:o.Var=>x.name) _ _ _ bp);refine aa ?_;exact⟨uy,bk,vm,bz,vi⟩
 clear st1;rintro v2 kR bb st2;have j9:=st2.ext;have f2:=st2.h1;refine K.hl [1,2,3] (fun v:kS=>[(7,.slice v.1 v.2.1 v.2.2)]) (fun v w'=>js w w' bC [.slice cy m.scalars.length bP,.slice b9 m.vars.length c1,.slice ck m.aL.length c2,.slice cn m.procs.length bQ,.slice cB m.props.length bX] v ((([]++(m.scalars.map (·.name)))++((m.vars.take (o.cP 1 p i m.vars.length)).map (·.name)))++((m.aL.take (o.cP 2 p i m.aL.length)).map (·.name)))) ?_ ?_
 .have gp:o.cP 2 p i m.aL.length<=m.aL.length:=by unfold o.cP; (repeat' split)<;>omega
  have dQ:=st2.ext;have f0:=st2.h1;refine aa ?_;refine K.dk 10 (o.cP 2 p i m.aL.length) [1,2,3] (fun v:kS=>[(7,.slice v.1 v.2.1 v.2.2)]) v2 (fun k v w'=>js w w' bC [.slice cy m.scalars.length bP,.slice b9 m.vars.length c1,.slice ck m.aL.length c2,.slice cn m.procs.length bQ,.slice cB m.props.length bX] v ((([]++(m.scalars.map (·.name)))++((m.vars.take (o.cP 1 p i m.vars.length)).map (·.name)))++(m.aL.take k).map (·.name))) bz bz (st2.iy (by simp)) ?_;clear dQ f0;rintro k k9 S pB hk j6;have oq:=j6.ext;have rN:=j6.h1;have fin:k=o.cP 2 p i m.aL.length->js w pB bC [.slice cy m.scalars.length bP,.slice b9 m.vars.length c1,.slice ck m.aL.length c2,.slice cn m.procs.length bQ,.slice cB m.props.length bX] k9 ((([]++(m.scalars.map (·.name)))++((m.vars.take (o.cP 1 p i m.vars.length)).map (·.name)))++((m.aL.take (o.cP 2 p i m.aL.length)).map (·.name))):=fun e=>j6.iy (by rw[e]);refine K.hl [1,2,3,7,10] (fun _:Unit=>[]) (fun _ w'=>w'=pB/\k<o.cP 2 p i m.aL.length) ?_ ?_
  .refine aa ?_;apply K.cond<;>intro g1
   .refine aa ?_;apply K.cond<;>intro g2
    .refine aa ?_;apply K.cond<;>intro g3
     .refine aa ?_;exact⟨(),trivial,bk,by unfold o.cP at gp hk ⊢; (repeat' split at hk) <;> (repeat' split)<;>omega⟩
     .refine aa ?_;apply K.cond<;>intro g4
      .refine aa ?_;exact⟨(),trivial,bk,by unfold o.cP at gp hk ⊢; (repeat' split at hk) <;> (repeat' split)<;>omega⟩
      .refine aa ?_;exact⟨k9,bz,fin (by unfold o.cP at gp hk ⊢; (repeat' split at hk) <;> (repeat' split)<;>omega)⟩
    .refine aa ?_;exact⟨k9,bz,fin (by unfold o.cP at gp hk ⊢; (repeat' split at hk) <;> (repeat' split)<;>omega)⟩
   .refine aa ?_;exact⟨k9,bz,fin (by unfold o.cP at gp hk ⊢; (repeat' split at hk) <;> (repeat' split)<;>omega)⟩
  rintro _ kR _ ⟨rfl,uy⟩;have bp:k<m.aL.length:=by omega
  obtain⟨a,rfl⟩:=U.addr (by omega);have ei:=((U.at k bp).cells).ext oq;refine aa ?_;intro y3 Gv Hh p3 sV;have lR:=j6.then p3;have z:=lR.ext.size;refine aa ?_;refine B9 lR.own sV (by simp only[List.length_append,List.length_map,List.length_nil,List.length_cons,List.length_take];omega) z fun vm BB uD uw=>?_;have vi:=(lR.grown uw uD).iy (Bv (fun x:o.dr=>x.name) _ _ _ bp);refine aa ?_;exact⟨uy,bk,vm,bz,vi⟩
 clear st2;rintro v3 JB bq k8;have n0:=k8.ext;have f3:=k8.h1;refine K.hl [1,2,3] (fun v:kS=>[(7,.slice v.1 v.2.1 v.2.2)]) (fun v w'=>js w w' bC [.slice cy m.scalars.length bP,.slice b9 m.vars.length c1,.slice ck m.aL.length c2,.slice cn m.procs.length bQ,.slice cB m.props.length bX] v (((([]++(m.scalars.map (·.name)))++((m.vars.take (o.cP 1 p i m.vars.length)).map (·.name)))++((m.aL.take (o.cP 2 p i m.aL.length)).map (·.name)))++((m.procs.take (o.cP 3 p i m.procs.length)).map (·.name)))) ?_ ?_
 .have gp:o.cP 3 p i m.procs.length<=m.procs.length:=by unfold o.cP; (repeat' split)<;>omega
  have dQ:=k8.ext;have f0:=k8.h1;refine aa ?_;refine K.dk 11 (o.cP 3 p i m.procs.length) [1,2,3] (fun v:kS=>[(7,.slice v.1 v.2.1 v.2.2)]) v3 (fun k v w'=>js w w' bC [.slice cy m.scalars.length bP,.slice b9 m.vars.length c1,.slice ck m.aL.length c2,.slice cn m.procs.length bQ,.slice cB m.props.length bX] v (((([]++(m.scalars.map (·.name)))++((m.vars.take (o.cP 1 p i m.vars.length)).map (·.name)))++((m.aL.take (o.cP 2 p i m.aL.length)).map (·.name)))++(m.procs.take k).map (·.name))) bz bz (k8.iy (by simp)) ?_;clear dQ f0;rintro k k9 S pB hk j6;have oq:=j6.ext;have rN:=j6.h1;have fin:k=o.cP 3 p i m.procs.length->js w pB bC [.slice cy m.scalars.length bP,.slice b9 m.vars.length c1,.slice ck m.aL.length c2,.slice cn m.procs.length bQ,.slice cB m.props.length bX] k9 (((([]++(m.scalars.map (·.name)))++((m.vars.take (o.cP 1 p i m.vars.length)).map (·.name)))++((m.aL.take (o.cP 2 p i m.aL.length)).map (·.name)))++((m.procs.take (o.cP 3 p i m.procs.length)).map (·.name))):=fun e=>j6.iy (by rw[e]);refine K.hl [1,2,3,7,11] (fun _:Unit=>[]) (fun _ w'=>w'=pB/\k<o.cP 3 p i m.procs.length) ?_ ?_
  .refine aa ?_;apply K.cond<;>intro g1
   .refine aa ?_;apply K.cond<;>intro g2
    .refine aa ?_;apply K.cond<;>intro g3
     .refine aa ?_;exact⟨(),trivial,bk,by unfold o.cP at gp hk ⊢; (repeat' split at hk) <;> (repeat' split)<;>omega⟩
     .refine aa ?_;apply K.cond<;>intro g4
      .refine aa ?_;exact⟨(),trivial,bk,by unfold o.cP at gp hk ⊢; (repeat' split at hk) <;> (repeat' split)<;>omega⟩
      .refine aa ?_;exact⟨k9,bz,fin (by unfold o.cP at gp hk ⊢; (repeat' split at hk) <;> (repeat' split)<;>omega)⟩
    .refine aa ?_;exact⟨k9,bz,fin (by unfold o.cP at gp hk ⊢; (repeat' split at hk) <;> (repeat' split)<;>omega)⟩
   .refine aa ?_;exact⟨k9,bz,fin (by unfold o.cP at gp hk ⊢; (repeat' split at hk) <;> (repeat' split)<;>omega)⟩
  rintro _ kR _ ⟨rfl,uy⟩;have bp:k<m.procs.length:=by omega
  obtain⟨a,rfl⟩:=ag.addr (by omega);obtain⟨_,cE,dU,ei,eT,dZ⟩:=ag.at k bp;obtain⟨e3,fy,rfl,gi⟩:=eT.form;obtain⟨oE,kz,rfl,lc⟩:=dZ.form;replace ei:=ei.ext oq;refine aa ?_;intro y3 Gv Hh p3 sV;have lR:=j6.then p3;have z:=lR.ext.size;refine aa ?_;refine B9 lR.own sV (by simp only[List.length_append,List.length_map,List.length_nil,List.length_cons,List.length_take];omega) z fun vm BB uD uw=>?_;have vi:=(lR.grown uw uD).iy (Bv (fun x:o.dy=>x.name) _ _ _ bp);refine aa ?_;exact⟨uy,bk,vm,bz,vi⟩
 clear k8;rintro v4 rB bT ku;have nw:=ku.ext;have f4:=ku.h1;refine K.hl [1,2,3] (fun v:kS=>[(7,.slice v.1 v.2.1 v.2.2)]) (fun v w'=>js w w' bC [.slice cy m.scalars.length bP,.slice b9 m.vars.length c1,.slice ck m.aL.length c2,.slice cn m.procs.length bQ,.slice cB m.props.length bX] v ((((([]++(m.scalars.map (·.name)))++((m.vars.take (o.cP 1 p i m.vars.length)).map (·.name)))++((m.aL.take (o.cP 2 p i m.aL.length)).map (·.name)))++((m.procs.take (o.cP 3 p i m.procs.length)).map (·.name)))++((m.props.take (o.hs p i m.props.length)).map (·.name)))) ?_ ?_
 .have gp:o.hs p i m.props.length<=m.props.length:=by unfold o.hs; (repeat' split)<;>omega
  have dQ:=ku.ext;have f0:=ku.h1;refine aa ?_;refine K.dk 12 (o.hs p i m.props.length) [1,2,3] (fun v:kS=>[(7,.slice v.1 v.2.1 v.2.2)]) v4 (fun k v w'=>js w w' bC [.slice cy m.scalars.length bP,.slice b9 m.vars.length c1,.slice ck m.aL.length c2,.slice cn m.procs.length bQ,.slice cB m.props.length bX] v ((((([]++(m.scalars.map (·.name)))++((m.vars.take (o.cP 1 p i m.vars.length)).map (·.name)))++((m.aL.take (o.cP 2 p i m.aL.length)).map (·.name)))++((m.procs.take (o.cP 3 p i m.procs.length)).map (·.name)))++(m.props.take k).map (·.name))) bz bz (ku.iy (by simp)) ?_;clear dQ f0;rintro k k9 S pB hk j6;have oq:=j6.ext;have rN:=j6.h1;have fin:k=o.hs p i m.props.length->js w pB bC [.slice cy m.scalars.length bP,.slice b9 m.vars.length c1,.slice ck m.aL.length c2,.slice cn m.procs.length bQ,.slice cB m.props.length bX] k9 ((((([]++(m.scalars.map (·.name)))++((m.vars.take (o.cP 1 p i m.vars.length)).map (·.name)))++((m.aL.take (o.cP 2 p i m.aL.length)).map (·.name)))++((m.procs.take (o.cP 3 p i m.procs.length)).map (·.name)))++((m.props.take (o.hs p i m.props.length)).map (·.name))):=fun e=>j6.iy (by rw[e]);refine K.hl [1,2,3,7,12] (fun _:Unit=>[]) (fun _ w'=>w'=pB/\k<o.hs p i m.props.length) ?_ ?_
  .refine aa ?_;apply K.cond<;>intro g1
   .refine aa ?_;apply K.cond<;>intro g2
    .refine aa ?_;apply K.cond<;>intro g4
     .refine aa ?_;exact⟨(),trivial,bk,by unfold o.hs at gp hk ⊢; (repeat' split at hk) <;> (repeat' split)<;>omega⟩
     .refine aa ?_;exact⟨k9,bz,fin (by unfold o.hs at gp hk ⊢; (repeat' split at hk) <;> (repeat' split)<;>omega)⟩
    .refine aa ?_;exact⟨k9,bz,fin (by unfold o.hs at gp hk ⊢; (repeat' split at hk) <;> (repeat' split)<;>omega)⟩
   .refine aa ?_;exact⟨k9,bz,fin (by unfold o.hs at gp hk ⊢; (repeat' split at hk) <;> (repeat' split)<;>omega)⟩
  rintro _ kR _ ⟨rfl,uy⟩;have bp:k<m.props.length:=by omega
  obtain⟨a,rfl⟩:=aJ.addr (by omega);obtain⟨_,hD,ei,hL⟩:=aJ.at k bp;obtain⟨Na,ce,rfl,le⟩:=hL.form;replace ei:=ei.ext oq;refine aa ?_;intro y3 Gv Hh p3 sV;have lR:=j6.then p3;have z:=lR.ext.size;refine aa ?_;refine B9 lR.own sV (by simp only[List.length_append,List.length_map,List.length_nil,List.length_cons,List.length_take];omega) z fun vm BB uD uw=>?_;have vi:=(lR.grown uw uD).iy (Bv (fun x:o.kQ=>x.name) _ _ _ bp);refine aa ?_;exact⟨uy,bk,vm,bz,vi⟩
 clear ku;rintro v5 qu bV hC;have Ja:=hC.ext;have f5:=hC.h1;refine aa ?_;refine⟨⟨v5,bk,?_⟩,Ja⟩
 have:=hC.own
 simp only[List.nil_append] at this;exact this
theorem Dd(v:kS)(l:List ByteArray)(x:ByteArray)(base:Nat)(w:World)(h:zk base w v l) :
  bu Tryz.prog F.uZ #[.slice v.1 v.2.1 v.2.2,.string x] w fun u w'=>u = .bool (decide (x∈l))/\w'=w:=by
 have ay:bE 1 (Flat encS) w (.slice v.1 v.2.1 v.2.2) l:=bs.py (enc:=encS) (fun _=>rfl) h;obtain⟨v0,v1,v2⟩:=v;obtain⟨bR,aW,bJ⟩:=bE.len ay;have SL:=bJ;unfold maxLen at SL;dsimp only at bR aW SL ay;subst bR;refine bL E.uZ ?_;refine bG ?_;refine aa ?_;refine K.dk 5 l.length [0,1] (fun _:Unit=>[]) () (fun k _ w'=>w'=w/\∀j (aR:j<l.length),j<k->¬l[j]=x) bz bz ⟨rfl,fun j _ h=>absurd h (Nat.not_lt_zero _)⟩ ?_;rintro k _ S _ hk ⟨rfl,bN⟩;refine aa ?_;apply K.cond<;>intro g1
 .have bp:k<l.length:=by omega
  obtain⟨a,rfl⟩:=ay.addr (by omega);refine aa ?_;apply K.cond<;>intro g2
  .have hm:x∈l:=by rw[<-g2];exact List.getElem_mem _
   refine aa ?_;exact⟨by rw[decide_eq_true hm],bk⟩
  .refine aa ?_;exact⟨bp,bk,(),trivial,bk,fun j aR h3=>by
    by_cases e:j=k
    .subst e;exact g2
    .exact bN j aR (by omega)⟩
 .have hm:¬x∈l:=fun ar=>by
   obtain⟨j,aR,e⟩:=List.mem_iff_getElem.1 ar;exact bN j aR (by omega) e
  refine aa ?_;exact⟨by rw[decide_eq_false hm],bk⟩
end Go.Proofs.R
end
section
namespace Go.Proofs.R
open Go Go.RowKit bt
theorem Wt(n:Int)(w:World):bu Tryz.prog F.qA #[.int .i32 n] w fun v w'=>v = .bool (o.letter n)/\w'=w:=by
 refine bL E.qA ?_;refine bG ?_
 (repeat' first
  | (refine K.cond (fun _=>?_) (fun _=>?_)<;>try (exfalso;omega))
  | (refine K.dp (fun _=>?_) (fun _=>?_))
  | (refine K.wrap (by omega) ?_)
  | (refine K.ld (by assumption) ?_)
  | (refine K.gB (by omega) ?_)
  | simp -dsimp only[c4,cF,Nat.reduceAdd,Nat.reduceEqDiff,reduceIte,reduceCtorEq,db])
 all_goals (refine⟨?_,by first | rfl | trivial⟩;congr 1;rw[Bool.eq_iff_iff];simp[o.letter];omega)
theorem abX(n:Int)(w:World):bu Tryz.prog F.ex #[.int .i32 n] w fun v w'=>v = .bool (o.digit n)/\w'=w:=by
 refine bL E.ex ?_;refine bG ?_
 (repeat' first
  | (refine K.cond (fun _=>?_) (fun _=>?_)<;>try (exfalso;omega))
  | (refine K.dp (fun _=>?_) (fun _=>?_))
  | (refine K.wrap (by omega) ?_)
  | (refine K.ld (by assumption) ?_)
  | (refine K.gB (by omega) ?_)
  | simp -dsimp only[c4,cF,Nat.reduceAdd,Nat.reduceEqDiff,reduceIte,reduceCtorEq,db])
 all_goals (refine⟨?_,by first | rfl | trivial⟩;congr 1;rw[Bool.eq_iff_iff];simp[o.digit];omega)
theorem aiY(n:Int)(w:World):bu Tryz.prog F.kz #[.int .i32 n] w fun v w'=>v = .bool (o.part n)/\w'=w:=by
 refine bL E.kz ?_;refine bG ?_;refine a7 ?_;refine K.call (Wt n w) ?_;rintro _ _ ⟨rfl,rfl⟩;refine a7 ?_;refine K.dp (fun h1=>?_) (fun h1=>?_)
 .refine a7 ?_;refine⟨?_,by first | rfl | trivial⟩;congr 1;simp[o.part,h1]
 .refine a7 ?_;refine K.call (abX n _) ?_;rintro _ _ ⟨rfl,rfl⟩;refine a7 ?_;refine K.dp (fun U=>?_) (fun U=>?_)
  .refine a7 ?_;refine⟨?_,by first | rfl | trivial⟩;congr 1;simp[o.part,U]
  .refine a7 ?_;refine⟨?_,by first | rfl | trivial⟩;congr 1;simp[o.part,h1,U]
def VT(w:World)(b:Nat):Nat:=match w.heap[b]? with | some (.stringIter s pos)=>s.size - pos | _=>0
theorem ahR(s:ByteArray)(p:Int->Bool)(aN:∀r,128<=r->p r=false)(f:FuncId)(aK:okF Tryz.prog f=true)(w:World)
  (aw:∀(r:Int) (w':World),Ext w w'->bu Tryz.prog f #[.int .i32 r] w' fun v b1=>v = .bool (p r)/\Ext w' b1) :
  bu Tryz.prog F.CD #[.string s,.func (.func f) #[] #[]] w fun v w'=>v = .int .i64 (o.run p s)/\Ext w w':=by
 refine bL E.CD ?_;refine bG ?_;refine a7 ?_;refine K.wZ fun av b aC aB afh=>?_;refine a7 ?_;refine K.loop (fun S w' => ∃pos,pos<=s.size/\(∀j (aR:j<s.size),j<pos->p s[j].toNat=true)/\w'.heap[b]? = some (.stringIter s pos)/\Ext w w')
  (fun _ w'=>VT w' b) ⟨0,Nat.zero_le _,fun _ _ h=>absurd h (Nat.not_lt_zero _),afh,aB⟩ ?_
 rintro S w' cq ⟨pos,Vd,dC,pg,he⟩;have ak:=cq 0 rfl;have h1:=cq 1 rfl;have dB:=cq 8 rfl;simp only[cu,Nat.reduceAdd,Nat.reduceEqDiff,reduceIte,jh,mr] at ak h1 dB;clear cq;refine cd (i_ ak (i_ h1 dB)) ?_;refine K.wR pg (fun cv=>?_) (fun afb=>?_)
 .have bx:=o.abQ aN s pos cv;have ay:(fe w' b (.stringIter s (pos+(Utf8.decode s pos).2))).heap[b]? = some (.stringIter s (pos+(Utf8.decode s pos).2)):=Br (cG pg);have aA:Ext w (fe w' b (.stringIter s (pos+(Utf8.decode s pos).2))):=he.fe aC _;generalize fe w' b (.stringIter s (pos+(Utf8.decode s pos).2))=aU at ay aA;refine cd (i_ ak (i_ h1 dB)) ?_;refine K.mX (first:=[]) (cap:=[]) aK (aw _ _ aA) ?_;rintro _ bb ⟨rfl,ax⟩;refine cd (i_ ak (i_ h1 dB)) ?_;refine K.dp (fun aC=>?_) (fun aC=>?_)
  .refine a7 ?_;rw[bx.1] at aC;have hw:=bx.2 aC;rw[hw] at ay;refine⟨⟨pos+1,by omega,fun j aR an3=>?_,ax.obj ay,aA.trans ax⟩,?_⟩
   .by_cases h:j<pos
    .exact dC j aR h
    .have:j=pos:=by omega
     subst this;exact aC
   .simp only[VT,ax.obj ay,pg];omega
  .refine a7 ?_;rw[bx.1] at aC;refine⟨?_,aA.trans ax⟩;rw[o.X6 p s pos cv (fun j aR=>dC j (by omega) aR) aC]
 .refine cd (i_ ak (i_ h1 dB)) ?_;refine⟨?_,he⟩;rw[o.XZ p s (fun j aR=>dC j aR (by omega))]
def ht(w:World):Prop:=eS w ⟨G.Wu,0,none⟩ (o.qe.map Value.string)
theorem ht.ext{w w':World}(he:Ext w w')(h:ht w):ht w':=eS.ext he h
theorem Io(s:ByteArray)(w:World)(ba:ht w)(ay:s.size<=9223372036854775807) :
  bu Tryz.prog F.ky #[.string s] w fun v w'=>v = .bool (o.isName s)/\Ext w w':=by
 refine bL E.ky ?_;refine bG ?_;refine a7 ?_;refine K.cond (fun ak=>?_) (fun ak=>?_)
 .refine a7 ?_;refine⟨?_,Ext.refl w⟩;subst ak;rfl
 have bN:s.size≠0:=fun h=>ak (by
  cases s with | mk d =>
  have:d=#[]:=by simpa[ByteArray.size] using h
  rw[this])
 refine a7 ?_;refine K.cond (fun h1=>?_) (fun h1=>?_)
 .refine a7 ?_;refine⟨?_,Ext.refl w⟩
  have:¬s.size<=16:=by omega
  simp[o.isName,this]
 have p0:s.size<=16:=by omega
 refine a7 ?_;refine K.lM (s.get! 0) (by decide) (o.get?_eq s 0 (by omega)) ?_;refine a7 ?_;have aC:(s.get! 0).toNat<256:=UInt8.toNat_lt _;refine K.amj (IntWalk.i32_in _ (by omega)) ?_;refine a7 ?_;refine K.call (Wt _ w) ?_;rintro _ _ ⟨rfl,rfl⟩;refine a7 ?_;refine K.dp (fun U=>?_) (fun U=>?_);rotate_left
 .refine a7 ?_;refine⟨?_,Ext.refl _⟩;have KQ:o.letter (o.rJ s 0:Nat)=false:=U;simp[o.isName,KQ]
 refine a7 ?_;refine K.call (ahR s o.part o.aiX F.kz (by kernel_rfl) _ fun r w' _=>(aiY r w').mono fun v b1 ⟨ag,aJ⟩=>⟨ag,aJ ▸ Ext.refl _⟩) ?_;rintro _ aU ⟨rfl,he⟩;refine a7 ?_;refine K.cond (fun ag=>?_) (fun ag=>?_)
 .refine a7 ?_;refine⟨?_,he⟩;have x1:¬o.run o.part s=s.size:=by omega
  simp[o.isName,x1]
 have x1:o.run o.part s=s.size:=by have:=o.akl o.part s;omega
 have KQ:o.letter (o.rJ s 0:Nat)=true:=U;have U5:o.isName s = !decide (s∈o.qe):=by simp[o.isName,x1,KQ,p0,bN]
 refine a7 ?_;refine K.j3 (ba.ext he) rfl ?_;refine a7 ?_;refine K.loop (fun S w' => ∃i:Nat,i<=4/\S 27 = .int .i64 i/\(∀j (aR:j<o.qe.length),j<i->o.qe[j]≠s)/\Ext aU w')
  (fun S _=>(4 - intOf (S 27)).toNat) ⟨0,by omega,by refine a7 ?_;rfl,fun _ _ h=>absurd h (Nat.not_lt_zero _),Ext.refl _⟩ ?_
 rintro S w' cq ⟨i,ad,nJ,dC,aA⟩;have ak:=cq 0 rfl;have mw:=cq 26 rfl;simp only[cu,Nat.reduceAdd,Nat.reduceEqDiff,reduceIte,jh,mr] at ak mw;clear cq;refine cd (i_ ak (i_ mw nJ)) ?_;refine K.cond (fun aJ=>?_) (fun aJ=>?_)
 .refine cd (i_ ak (i_ mw nJ)) ?_;have afd:i<o.qe.length:=by simp[o.qe];omega
  refine K.wI (.string o.qe[i]) (by omega) (by simp[List.getElem?_map,afd]) ?_;refine cd (i_ ak (i_ mw nJ)) ?_;refine K.cond (fun bg=>?_) (fun bg=>?_)
  .refine a7 ?_;refine⟨?_,he.trans aA⟩;rw[U5]
   have:s∈o.qe:=bg ▸ List.getElem_mem _
   simp[this]
  .refine cd (i_ ak (i_ mw nJ)) ?_;refine K.wrap (by omega) ?_;refine cd (i_ ak (i_ mw nJ)) ?_;refine⟨⟨i+1,by omega,rfl,fun j aR gY=>?_,aA⟩,by simp[intOf];omega⟩;by_cases h:j<i
   .exact dC j aR h
   .have:j=i:=by omega
    subst this;exact bg
 .refine cd (i_ ak (i_ mw nJ)) ?_;refine⟨?_,he.trans aA⟩;rw[U5]
  have:s∉o.qe:=fun hm=>by
   obtain⟨j,aR,he⟩:=List.mem_iff_getElem.1 hm;exact dC j aR (by have:o.qe.length=4:=rfl;omega) he
  simp[this]
end Go.Proofs.R
end
section
namespace Go.Proofs.R
open Go Go.RowKit bt
theorem WL(bf ad:Int)(w:World):bu Tryz.prog F.fl #[.int .i64 bf,.int .i64 ad] w fun v w'=>v = .bool (o.narrow bf ad)/\w'=w:=by
 refine bL E.fl ?_;refine bG ?_
 (repeat' first
  | (refine K.cond (fun _=>?_) (fun _=>?_)<;>try (exfalso;omega))
  | (refine K.dp (fun _=>?_) (fun _=>?_))
  | (refine K.wrap (by omega) ?_)
  | (refine K.ld (by assumption) ?_)
  | (refine K.gB (by omega) ?_)
  | simp -dsimp only[c4,cF,Nat.reduceAdd,Nat.reduceEqDiff,reduceIte,reduceCtorEq,db])
 all_goals (refine⟨?_,by first | rfl | trivial⟩;congr 1;rw[Bool.eq_iff_iff];simp[o.narrow];omega)
theorem Yh{k:Int}{l:List o.Scalar}(h1:1<=k)(U:k<=l.length):o.size k l=if 1<=(l[k.toNat - 1]'(by omega)).size/\(l[k.toNat - 1]'(by omega)).size<=4 then (l[k.toNat - 1]'(by omega)).size else 0:=by
 have e:(k - 1).toNat=k.toNat - 1:=by omega
 have cv:k.toNat - 1<l.length:=by omega
 simp only[o.size,e,List.getElem?_eq_getElem cv,h1,true_and]
theorem IH{k:Int}{l:List o.Scalar}(h:k<1\/l.length<k):o.size k l=0:=by
 unfold o.size;split
 .rename_i x ar;rw[if_neg];rintro⟨h1,_⟩
  have:=(List.getElem?_eq_some_iff.1 ar).1
  omega
 .rfl
theorem N4(k:Int)(v:Value)(l:List o.Scalar)(w:World)(aS:o.hI w v l) :
  bu Tryz.prog F.qx #[.int .i64 k,v] w fun v w'=>v = .tuple #[.int .i64 (o.size k l),.bool (decide (o.size k l≠0))]/\w'=w:=by
 obtain⟨bm,cap,rfl,hlen⟩:=aS.form;refine bL E.qx ?_;refine bG ?_;refine a7 ?_;refine K.cond (fun h1=>?_) (fun h1=>?_)
 .refine a7 ?_;rw[IH (.inl h1)];exact⟨rfl,trivial⟩
 refine a7 ?_;refine K.cond (fun U=>?_) (fun U=>?_)
 .refine a7 ?_;rw[IH (.inr U)];exact⟨rfl,trivial⟩
 refine a7 ?_;refine K.wrap (by omega) ?_;refine a7 ?_;obtain⟨a,rfl⟩:=aS.addr (by omega);have aw:=(aS.at (k.toNat - 1) (by omega)).cells 1 _ rfl;refine K.dD (k.toNat - 1) (by omega) (by omega) ?_;refine a7 ?_;refine K.ld aw ?_;rw[Yh (by omega) (by omega)];generalize l[k.toNat - 1].size=z at aw;refine a7 ?_;refine K.cond (fun ag=>?_) (fun ag=>?_)
 .refine a7 ?_;rw[if_neg (by omega)];exact⟨rfl,trivial⟩
 refine a7 ?_;refine K.wrap (by omega) ?_;refine a7 ?_;refine K.dD (k.toNat - 1) (by omega) (by omega) ?_;refine a7 ?_;refine K.ld aw ?_;refine a7 ?_;refine K.cond (fun aJ=>?_) (fun aJ=>?_)
 .refine a7 ?_;rw[if_neg (by omega)];exact⟨rfl,trivial⟩
 refine a7 ?_;refine K.wrap (by omega) ?_;refine a7 ?_;refine K.dD (k.toNat - 1) (by omega) (by omega) ?_;refine a7 ?_;refine K.ld aw ?_;refine a7 ?_;rw[if_pos (by omega)];refine⟨?_,by trivial⟩
 have:z≠0:=by omega
 simp[this]
theorem Om(k:Int)(v:Value)(l:List o.Scalar)(w:World)(aS:o.hI w v l) :
  bu Tryz.prog F.oZ #[.int .i64 k,v] w fun v w'=>v = .bool (o.there k l)/\w'=w:=by
 refine bL E.oZ ?_;refine bG ?_;refine a7 ?_;refine K.call (N4 k v l w aS) ?_;rintro _ _ ⟨rfl,rfl⟩;refine a7 ?_;refine K.cond (fun h1=>?_) (fun h1=>?_)
 .refine a7 ?_;refine⟨?_,by trivial⟩;simp[o.there,h1]
 .refine a7 ?_;refine⟨?_,by trivial⟩;simp[o.there,h1]
def seen(l:List ByteArray):List (ByteArray×Value):=l.map fun x=>(x,.bool true)
theorem akG(l:List ByteArray)(x:ByteArray):((seen l).find? (fun p=>decide (x=p.1))).map (·.2)=if x∈l then some (.bool true) else none:=by
 induction l with
 | nil=>rfl
 | cons y l e1 =>
  simp only[seen,List.map_cons,List.find?_cons,List.mem_cons];by_cases h:x=y
  .simp[h]
  .simp only[h,decide_false,false_or];exact e1
set_option maxHeartbeats 2000000 in
theorem M3(n fs:Int)(aE:0<=n/\n<=9223372036854775807)(fH:Nat->ByteArray)(mo:Nat->Int)(f1 f2:FuncId)(c1 c2:List Value)(yf:okF Tryz.prog f1=true)(mB:okF Tryz.prog f2=true)(w:World)(ba:ht w)
  (fG:∀i:Nat,i<n->o.hR (fH i))
  (cX:∀(i:Nat) (w':World),i<n->Ext w w'->bu Tryz.prog f1 (.int .i64 i :: c1).toArray w' fun v b1=>v = .string (fH i)/\Ext w' b1)
  (c0:∀(i:Nat) (w':World),i<n->Ext w w'->bu Tryz.prog f2 (.int .i64 i :: c2).toArray w' fun v b1=>v = .int .i64 (mo i)/\Ext w' b1) :
  bu Tryz.prog F.rI #[.int .i64 n,.int .i64 fs,.func (.func f1) #[] c1.toArray,.func (.func f2) #[] c2.toArray] w
   fun v w'=>v = .tuple #[.int .i64 (o.first n.toNat (o.err fs fH mo)).1,.int .i64 (o.first n.toNat (o.err fs fH mo)).2]/\Ext w w':=by
 refine bL E.rI ?_;refine bG ?_;refine a7 ?_;refine K.A8 fun av b aC aB uB=>?_;refine a7 ?_;refine K.loop (fun S w' => ∃i:Nat,i<=n/\S 16 = .int .i64 i/\(∀j,j<i->o.err fs fH mo j=0)/\Ext w w' /\
   ∃es c,w'.heap[b]? = some (.map es c)/\hT Value.string es.toList (seen ((List.range i).map fH)))
  (fun S _=>(n - intOf (S 16)).toNat) ⟨0,by omega,by refine a7 ?_;rfl,fun _ h=>absurd h (Nat.not_lt_zero _),aB,_,_,uB,rfl⟩ ?_
 rintro S aU cq ⟨i,ad,na,bN,he,es,c,hm,l5⟩;have ak:=cq 0 rfl;have h1:=cq 1 rfl;have U:=cq 2 rfl;have ag:=cq 3 rfl;have jW:=cq 10 rfl;have mv:=cq 15 rfl;simp only[cu,Nat.reduceAdd,Nat.reduceEqDiff,reduceIte,jh,mr] at ak h1 U ag jW mv;clear cq;refine cd (i_ ak (i_ h1 (i_ U (i_ ag (i_ jW (i_ mv na)))))) ?_;refine K.cond (fun cv=>?_) (fun afb=>?_);rotate_left
 .refine a7 ?_;refine⟨?_,he⟩;rw[o.ot fun j aR=>bN j (by omega)]
 have stop:∀e:Int,o.err fs fH mo i=e->e≠0->o.first n.toNat (o.err fs fH mo)=((i:Int),e):=fun e h cI=>by
  rw[o.iF (by omega) bN (by rw[h];exact cI),h]
 refine cd (i_ ak (i_ h1 (i_ U (i_ ag (i_ jW (i_ mv na)))))) ?_;refine K.mX (first:=[]) yf (cX i aU cv he) ?_;rintro _ bb ⟨rfl,ax⟩;refine cd (i_ ak (i_ h1 (i_ U (i_ ag (i_ jW (i_ mv na)))))) ?_;refine K.cond (fun bj=>?_) (fun bj=>?_)
 .refine cd (i_ ak (i_ h1 (i_ U (i_ ag (i_ jW (i_ mv na)))))) ?_;refine K.cond (fun h=>absurd h (by decide)) (fun _=>?_);refine a7 ?_;rw[stop 11 (by simp[o.err,bj]) (by decide)];exact⟨rfl,he.trans ax⟩
 refine cd (i_ ak (i_ h1 (i_ U (i_ ag (i_ jW (i_ mv na)))))) ?_;refine K.call (Io (fH i) bb (ba.ext (he.trans ax)) (fG i cv)) ?_;rintro _ bq ⟨rfl,aM⟩;refine cd (i_ ak (i_ h1 (i_ U (i_ ag (i_ jW (i_ mv na)))))) ?_;refine K.dp (fun pk=>?_) (fun pk=>?_);rotate_left
 .refine cd (i_ ak (i_ h1 (i_ U (i_ ag (i_ jW (i_ mv na)))))) ?_;refine K.cond (fun h=>absurd h (by decide)) (fun _=>?_);refine a7 ?_;rw[stop 6 (by simp[o.err,bj,pk]) (by decide)];exact⟨rfl,(he.trans ax).trans aM⟩
 refine cd (i_ ak (i_ h1 (i_ U (i_ ag (i_ jW (i_ mv na)))))) ?_;have kn:bq.heap[b]? = some (.map es c):=aM.obj (ax.obj hm);obtain⟨r,ko,hM⟩:=xV IF (fH i) es.toList _ 0 l5;rw[akG] at hM;refine K.mE (.inr ⟨b,c,rfl,kn⟩) ko ?_;have wx:fH i∈(List.range i).map fH↔∃j,j<i/\fH j=fH i:=by simp
 by_cases eU:∃j,j<i/\fH j=fH i
 .rw[if_pos (wx.2 eU)] at hM;have aT:l9 (.bool false) false r = .bool true:=by simp[l9,hM]
  rw[aT];refine cd (i_ ak (i_ h1 (i_ U (i_ ag (i_ jW (i_ mv na)))))) ?_;refine K.cond (fun h=>absurd h (by decide)) (fun _=>?_);refine a7 ?_;rw[stop 7 (by simp[o.err,bj,pk,eU]) (by decide)];exact⟨rfl,(he.trans ax).trans aM⟩
 rw[if_neg (fun h=>eU (wx.1 h))] at hM;have s5:r=none:=by cases r<;>simp at hM ⊢
 subst s5;have aT:l9 (.bool false) false none = .bool false:=rfl;rw[aT];refine cd (i_ ak (i_ h1 (i_ U (i_ ag (i_ jW (i_ mv na)))))) ?_;refine K.mX (first:=[]) mB (c0 i bq cv ((he.trans ax).trans aM)) ?_;rintro _ bT ⟨rfl,aZ⟩;have gR:o.err fs fH mo i=mo i:=by simp[o.err,bj,pk,eU]
 refine cd (i_ ak (i_ h1 (i_ U (i_ ag (i_ jW (i_ mv na)))))) ?_;refine K.cond (fun h=>?_) (fun h=>?_);rotate_left
 .refine a7 ?_;rw[stop (mo i) gR h];exact⟨rfl,((he.trans ax).trans aM).trans aZ⟩
 refine cd (i_ ak (i_ h1 (i_ U (i_ ag (i_ jW (i_ mv na)))))) ?_;have lD:=aZ.obj kn;refine K.iX lD ko ?_;have ay:(fe bT b (q4 es c (.string (fH i)) (.bool true) none)).heap[b]? = some (q4 es c (.string (fH i)) (.bool true) none):=Br (cG lD);have a8:Ext w (fe bT b (q4 es c (.string (fH i)) (.bool true) none)):=(((he.trans ax).trans aM).trans aZ).fe aC _;generalize fe bT b (q4 es c (.string (fH i)) (.bool true) none)=bV at ay a8;refine cd (i_ ak (i_ h1 (i_ U (i_ ag (i_ jW (i_ mv na)))))) ?_;refine K.wrap (by omega) ?_;refine cd (i_ ak (i_ h1 (i_ U (i_ ag (i_ jW (i_ mv na)))))) ?_;refine⟨⟨i+1,by omega,rfl,fun j aR=>?_,a8,_,_,ay,?_⟩,by simp[intOf];omega⟩
 .by_cases bF:j<i
  .exact bN j bF
  .have:j=i:=by omega
   subst this;rw[gR,h]
 .have:=hT.push l5 (fH i) (.bool true) c
  simpa[seen,List.range_succ] using this
end Go.Proofs.R
end