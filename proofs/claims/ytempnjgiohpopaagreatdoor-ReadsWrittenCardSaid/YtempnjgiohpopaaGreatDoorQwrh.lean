/- Texts joined: Lite17 ExprA ExprB ExprC Good ProcA ProcB NamA NamB NamC NamD ModH LexC DeclC. -/
import Derived.Test.YtempnjgiohpopaaGreatDoorQwrd
import Derived.Test.YtempnjgiohpopaaGreatDoorQwrg
set_option linter.all false
set_option maxRecDepth 4000
set_option maxHeartbeats 6400000
section
namespace bt
theorem aS{A B:Prop}(k:B)(h:tz B→A:=by
 intro q;simp -dsimp only[cI,cu,Nat.reduceAdd,Nat.reduceEqDiff,reduceIte,reduceCtorEq,cS];exact q.out):A:=h ⟨k⟩
end bt
end
section
set_option linter.unusedSimpArgs false
namespace Go.Proofs.R
open Go Go.RowKit bt
abbrev Vn:World→Addr→Int→Prop:=Flat fun n=>[Value.int .i64 n]
abbrev Ints(w:World)(v:Value)(l:List Int):Prop:=bB 1 Vn w v l
theorem Ints.ext{w w':World}{v:Value}{l:List Int}(he:Ext w w')(h:Ints w v l):Ints w' v l:=bB.ext Flat.ext he h
theorem Ints.aV{w:World}{b n:Nat}{e:TypeId}{f:Nat×Nat}{xs:List Int}(aD:w.heap[b]? = some (.cells (xs.flatMap fun n=>[Value.int .i64 n]).toArray e f))(aN:n=xs.length)(hm:xs.length≤maxLen):Ints w (.slice (some ⟨b,0,none⟩) n n) xs :=
 bB.aV (enc:=fun n=>[Value.int .i64 n]) (fun _=>rfl) aD aN hm fun _ _ _ h=>h
theorem UN(v:Value)(l:List Int)(w:World)(aQ:Ints w v l):bq Tryz.prog F.kE #[v] w fun v w'=>v = .bool (l.all o.within)∧w'=w:=by
 obtain⟨bh,cap,rfl,hlen⟩:=aQ.form;refine bI E.kE ?_;refine bF ?_;refine aS ?_;refine K.yn 7 l.length (fun k S w'=>w'=w∧(l.take k).all o.within=true) (by simp -dsimp only[cI,cu,Nat.reduceAdd,Nat.reduceEqDiff,reduceIte,reduceCtorEq,cS]) ⟨rfl,by simp⟩ ?_;rintro k S w' ch hk b7 ⟨rfl,c8⟩;have aj:=ch 0 rfl;have bn:=ch 5 rfl;have bL:=ch 6 rfl;simp only[cb,Nat.reduceAdd,Nat.reduceEqDiff,reduceIte,ij,k7] at aj bn bL;clear ch;refine b2 (And.intro aj (And.intro bn (And.intro bL b7))) ?_;refine K.cond (fun h1=>?_) (fun h1=>?_);rotate_left
 ·refine b2 (And.intro aj (And.intro bn (And.intro bL b7))) ?_;rw[List.take_of_length_le (by omega)] at c8;rw[c8];exact cd
 have bb:k<l.length:=by omega
 obtain⟨a,rfl⟩:=aQ.addr (by omega);have BN:l.take (k+1)=l.take k++[l[k]]:=List.take_succ_eq_append_getElem bb;have qn:l.all o.within=((l.take (k+1)).all o.within&&(l.drop (k+1)).all o.within):=by rw[←List.all_append,List.take_append_drop]
 rw[BN,List.all_append] at qn
 (repeat' first
 | assumption
 | exact Ext.refl _
 | refine Ext.trans ?_ (by assumption)
 | refine K.wrap (by omega) ?_
 | refine K.rB (by assumption) ?_ rfl ?_
 | refine K.pC (by assumption) ?_ rfl ?_
 | refine K.sU (by assumption) ?_ (by omega) rfl ?_
 | refine K.sV (by assumption) ?_ (by omega) rfl ?_
 | refine K.sT (by assumption) ?_ (by omega) rfl ?_
 | refine K.sN (by omega) ?_
 | refine K.r9 (by first | assumption | omega) ?_
 | refine K.r8 (by first | assumption | omega) ?_
 | refine K.qe (by assumption) ?_
 | refine K.qd (by assumption) ?_
 | simp -dsimp only[cI,cu,Nat.reduceAdd,Nat.reduceEqDiff,reduceIte,reduceCtorEq,cS,bn,b7])
 generalize l[k]=z at *;refine K.cond (fun U=>?_) (fun U=>?_)
 ·refine aS ?_;rw[qn];refine⟨?_,trivial⟩
  have:o.within z=false:=by simp[o.within];omega
  simp[this]
 refine aS ?_;refine K.cond (fun ai=>?_) (fun ai=>?_)
 ·refine aS ?_;rw[qn];refine⟨?_,trivial⟩
  have:o.within z=false:=by simp[o.within];omega
  simp[this]
 refine b2 b7 ?_;refine K.wrap (by omega) ?_;refine aS ?_;refine⟨bb,trivial,trivial,?_⟩;rw[BN];simp[c8,o.within];omega
def DO(f:FuncId)(g:Int→Int→Int):Prop := ∀a b w,(o.within a&&o.within b)=true→bq Tryz.prog f #[.int .i64 a,.int .i64 b] w fun v w'=>v = .int .i64 (g a b)∧w'=w
theorem VE:DO F.qb (· + ·):=by
 intro a b w h;simp[o.within] at h;refine bI E.qb ?_;refine bF ?_;refine aG ?_;exact cd
theorem afO:DO F.ce (· - ·):=by
 intro a b w h;simp[o.within] at h;refine bI E.ce ?_;refine bF ?_;refine aG ?_;exact cd
theorem SM{a b:Int}(br : -1048576≤a∧a≤1048576)(aD : -1048576≤b∧b≤1048576) : -1099511627776≤a*b∧a*b≤1099511627776:=by
 have h:(a*b).natAbs≤1048576*1048576:=by
  rw[Int.natAbs_mul];exact Nat.mul_le_mul (by omega) (by omega)
 omega
theorem acQ:DO F.yd (· * ·):=by
 intro a b w h;simp[o.within] at h;have hm:=SM h.1 h.2;refine bI E.yd ?_;refine bF ?_;refine aG ?_;exact cd
theorem K0(f:FuncId)(g:Int→Int→Int)(aJ:okF Tryz.prog f=true)(a6:DO f g)(a b:Int)(w:World) :
  bq Tryz.prog F.as #[.agg #[.func (.func f) #[] #[]],.int .i64 a,.int .i64 b] w fun v w'=>v = .tuple #[.int .i64 (o.tell g a b).1,.bool (o.tell g a b).2]∧Ext w w':=by
 refine bI E.as ?_;refine bF ?_;refine aS ?_;refine K.new fun w1 p aO az al=>?_;refine aS ?_;refine K.kg (cs:=[a,b].flatMap fun n=>[Value.int .i64 n]) (by simp[List.range,List.range.loop,ey,lay,fr,cb,ij,Value.cells]) fun aR q aF aA aI=>?_;refine aS ?_;refine K.call (UN _ [a,b] aR (Ints.aV aI rfl (by simp[maxLen]))) ?_;rintro _ _ ⟨rfl,rfl⟩;refine aS ?_;refine K.cX (fun h1=>?_) (fun h1=>?_);rotate_left
 ·refine aS ?_
  have:(o.within a&&o.within b)=false:=by simpa using h1
  refine⟨?_,fc⟩;simp[o.tell,this]
 have A6:(o.within a&&o.within b)=true:=by simpa using h1
 refine aG ?_;refine K.pg (first:=[]) (cap:=[]) aJ (a6 a b _ A6) ?_;rintro _ _ ⟨rfl,rfl⟩;refine aS ?_;refine K.kg (cs:=[g a b].flatMap fun n=>[Value.int .i64 n]) (by simp[List.range,List.range.loop,ey,lay,fr,cb,ij,Value.cells]) fun ba eg aia au bG=>?_;refine aS ?_;refine K.call (UN _ [g a b] ba (Ints.aV bG rfl (by simp[maxLen]))) ?_;rintro _ _ ⟨rfl,rfl⟩;refine aS ?_;refine K.cX (fun U=>?_) (fun U=>?_)
 ·refine aS ?_
  have:o.within (g a b)=true:=by simpa using U
  refine⟨?_,fc⟩;simp[o.tell,A6,this]
 ·refine aS ?_
  have:o.within (g a b)=false:=by simpa using U
  refine⟨?_,fc⟩;simp[o.tell,this]
def qR(f:FuncId)(g:Int→Int→Int×Bool):Prop := ∀a b w,bq Tryz.prog f #[.int .i64 a,.int .i64 b] w fun v w'=>v = .tuple #[.int .i64 (g a b).1,.bool (g a b).2]∧Ext w w'
theorem Oy:qR F.pd (o.tell (· + ·)):=by
 intro a b w;refine bI E.pd ?_;refine bF ?_;refine aS ?_;refine K.cA (cs:=[.func (.func F.qb) #[] #[]]) (by simp[ey,lay,se,Value.cells]) ?_;refine aS ?_;refine K.call (K0 _ _ (by kernel_rfl) VE a b w) ?_;rintro _ w1 ⟨rfl,he⟩;refine aS ?_;exact cd
theorem Uq:qR F.nv (o.tell (· - ·)):=by
 intro a b w;refine bI E.nv ?_;refine bF ?_;refine aS ?_;refine K.cA (cs:=[.func (.func F.ce) #[] #[]]) (by simp[ey,lay,se,Value.cells]) ?_;refine aS ?_;refine K.call (K0 _ _ (by kernel_rfl) afO a b w) ?_;rintro _ w1 ⟨rfl,he⟩;refine aS ?_;exact cd
theorem acR:qR F.cE (o.tell (· * ·)):=by
 intro a b w;refine bI E.cE ?_;refine bF ?_;refine aS ?_;refine K.cA (cs:=[.func (.func F.yd) #[] #[]]) (by simp[ey,lay,se,Value.cells]) ?_;refine aS ?_;refine K.call (K0 _ _ (by kernel_rfl) acQ a b w) ?_;rintro _ w1 ⟨rfl,he⟩;refine aS ?_;exact cd
theorem Wl(b:Bool)(w:World):bq Tryz.prog F.AO #[.bool b] w fun v w'=>v = .int .i64 (o.bit b)∧w'=w:=by
 refine bI E.AO ?_;refine bF ?_;refine aS ?_;refine K.cX (fun h=>?_) (fun h=>?_)
 all_goals
  subst h;refine aS ?_;exact cd
theorem adp:qR F.b4 fun a _=>(o.bit (decide (a=0)),true):=by
 intro a b w;refine bI E.b4 ?_;refine bF ?_;refine aS ?_;refine K.call (Wl _ w) ?_;rintro _ _ ⟨rfl,rfl⟩;refine aS ?_;exact cd
theorem adq:qR F.bZ fun a _=>o.tell (· - ·) 0 a:=by
 intro a b w;refine bI E.bZ ?_;refine bF ?_;refine aS ?_;refine K.call (Uq 0 a w) ?_;rintro _ w1 ⟨rfl,he⟩;refine aS ?_;exact cd
def tw(f:FuncId)(p:Int→Int→Bool):Prop := ∀a b w,bq Tryz.prog f #[.int .i64 a,.int .i64 b] w fun v w'=>v = .bool (p a b)∧w'=w
theorem adr:tw F.dz fun a b=>decide (a=b):=by
 intro a b w;refine bI E.dz ?_;refine bF ?_;refine aS ?_;exact cd
theorem ads:tw F.ie fun a b => !decide (a=b):=by
 intro a b w;refine bI E.ie ?_;refine bF ?_;refine aS ?_;exact cd
theorem adt:tw F.lQ fun a b=>decide (a<b):=by
 intro a b w;refine bI E.lQ ?_;refine bF ?_;refine aS ?_;exact cd
theorem adu:tw F.mj fun a b=>decide (a≤b):=by
 intro a b w;refine bI E.mj ?_;refine bF ?_;refine aS ?_;exact cd
theorem adv:tw F.iM fun a b => !decide (a=0) && !decide (b=0):=by
 intro a b w;refine bI E.iM ?_;refine bF ?_;refine aS ?_;refine K.cond (fun h=>?_) (fun h=>?_)
 all_goals
  refine aS ?_;exact⟨by simp[h],trivial⟩
theorem adw:tw F.iN fun a b => !decide (a=0) || !decide (b=0):=by
 intro a b w;refine bI E.iN ?_;refine bF ?_;refine aS ?_;refine K.cond (fun h=>?_) (fun h=>?_)
 all_goals
  refine aS ?_;exact⟨by simp[h],trivial⟩
end Go.Proofs.R
end
section
set_option linter.unusedSimpArgs false
namespace Go.Proofs.R
open Go Go.RowKit bt
def xB(w:World)(v:Value)(g:Int→Int→Int×Bool):Prop :=
 (∃f,v = .func (.func f) #[] #[]∧okF Tryz.prog f=true∧qR f g) ∨
 (∃c f p,v = .func (.func F.hF) #[] #[.pointer (some ⟨c,0,none⟩)]∧w.heap[c]? = some (.cells #[.func (.func f) #[] #[]] T.vz)∧okF Tryz.prog f=true∧tw f p∧g=fun a b=>(o.bit (p a b),true))
def Ad(w:World)(aq:o.om)(v:Value):Prop := ∃u,v = .agg #[.int .i64 aq.parts,.int .i64 aq.h4,.int .i64 aq.makes,u]∧xB w u aq.Pb
def oo(w:World)(m:Value):Prop := ∃r es c l,m = .map (some r)∧w.heap[r]? = some (.map es c)∧gQ (Value.int .i64) es.toList l ∧
 ∀x:Int,match o.gn x with
  | some aq => ∃p,l.find? (fun p=>decide (x=p.1))=some p∧Ad w aq p.2
  | none=>l.find? (fun p=>decide (x=p.1))=none
theorem zC(h4:Int)(f:Nat)(w:World):bq Tryz.prog F.i #[.int .i64 h4,.func (.func f) #[] #[]] w
  fun v w'=>(∃c,v = .agg #[.int .i64 2,.int .i64 h4,.int .i64 1,.func (.func F.hF) #[] #[.pointer (some ⟨c,0,none⟩)]]∧w'.heap[c]? = some (.cells #[.func (.func f) #[] #[]] T.vz))∧Ext w w':=by
 refine bI E.i ?_;refine bF ?_;refine aS ?_;refine K.new fun w1 c av az al=>?_;refine aS ?_;refine K.new fun aR b aD aA aI=>?_;refine aS ?_;refine K.cA (cs:=[.int .i64 2,.int .i64 h4,.int .i64 1,.func (.func F.hF) #[] #[.pointer (some ⟨c,0,none⟩)]]) (by simp[ey,lay,fr,nC,cb,ij,Value.cells]) ?_;refine aS ?_;refine K.kW aI rfl rfl (by simp[Value.oneCell']) fun ba hw bG=>?_;have h1:=cL al;have dc:c≠b:=by omega
 refine aS ?_;refine K.iZ (fZ bG) rfl ?_;refine aS ?_;exact⟨⟨c,rfl,(hw.block c dc).trans (aA.obj al)⟩,hw.ext (az.trans aA) (by have:=az.size;omega)⟩
theorem adx(w:World):bq Tryz.prog F.AI #[] w fun v w'=>oo w' v∧Ext w w':=by
 refine bI E.AI ?_;refine bF ?_;refine aS ?_;refine K.u1 fun w0 r bk IL m0=>?_;refine aS ?_;refine K.cA (cs:=[.int .i64 1,.int .i64 1,.int .i64 1,.func (.func F.b4) #[] #[]]) (by simp[ey,lay,fr,nC,se,cb,ij,Value.cells]) ?_;refine aS ?_;refine K.qC m0 rfl fun w1 lC m1=>?_;refine aS ?_;refine K.cA (cs:=[.int .i64 1,.int .i64 0,.int .i64 0,.func (.func F.bZ) #[] #[]]) (by simp[ey,lay,fr,nC,se,cb,ij,Value.cells]) ?_;refine aS ?_;refine K.qC m1 rfl fun aR lD m2=>?_;refine aS ?_;refine K.cA (cs:=[.int .i64 2,.int .i64 0,.int .i64 0,.func (.func F.pd) #[] #[]]) (by simp[ey,lay,fr,nC,se,cb,ij,Value.cells]) ?_;refine aS ?_;refine K.qC m2 rfl fun ba ma m3=>?_;refine aS ?_;refine K.cA (cs:=[.int .i64 2,.int .i64 0,.int .i64 0,.func (.func F.nv) #[] #[]]) (by simp[ey,lay,fr,nC,se,cb,ij,Value.cells]) ?_;refine aS ?_;refine K.qC m3 rfl fun bo lE m4=>?_;refine aS ?_;refine K.cA (cs:=[.int .i64 2,.int .i64 0,.int .i64 0,.func (.func F.cE) #[] #[]]) (by simp[ey,lay,fr,nC,se,cb,ij,Value.cells]) ?_;refine aS ?_;refine K.qC m4 rfl fun bR GC m5=>?_;have ca:Ext w bR:=GC.ext (lE.ext (ma.ext (lD.ext (lC.ext IL bk) bk) bk) bk) bk;clear lC lD ma lE GC m0 m1 m2 m3 m4;refine aS ?_;refine K.call (zC (-1) F.dz _) ?_;rintro _ v6 ⟨⟨pf,rfl,yX⟩,GH⟩;refine aS ?_;refine K.qC (GH.obj m5) rfl fun bW UU m6=>?_;refine aS ?_;refine K.call (zC (-1) F.ie _) ?_;rintro _ zK ⟨⟨vG,rfl,uR⟩,Dw⟩;refine aS ?_;refine K.qC (Dw.obj m6) rfl fun cj Lh m7=>?_;refine aS ?_;refine K.call (zC 0 F.lQ _) ?_;rintro _ K9 ⟨⟨Wr,rfl,FF⟩,Dx⟩;refine aS ?_;refine K.qC (Dx.obj m7) rfl fun dC GD m8=>?_;refine aS ?_;refine K.call (zC 0 F.mj _) ?_;rintro _ v9 ⟨⟨Ws,rfl,FG⟩,GI⟩;refine aS ?_;refine K.qC (GI.obj m8) rfl fun ez Li m9=>?_;refine aS ?_;refine K.call (zC 1 F.iM _) ?_;rintro _ v10 ⟨⟨Wp,rfl,R9⟩,GF⟩;refine aS ?_;refine K.qC (GF.obj m9) rfl fun eX Lf m10=>?_;refine aS ?_;refine K.call (zC 1 F.iN _) ?_;rintro _ v11 ⟨⟨Wq,rfl,Sa⟩,GG⟩;refine aS ?_;refine K.qC (GG.obj m10) rfl fun hh Lg m11=>?_;refine aS ?_;have ne:∀{w:World} {c:Nat} {es:Array MapEntry} {n:Nat} {cs:Array Value} {t:TypeId},w.heap[r]? = some (.map es n)→w.heap[c]? = some (.cells cs t)→c≠r:=by
  intro w c es n cs t h1 U e;subst e;rw[h1] at U;injection U with U
  cases U
 have k1:=(UU.block pf (ne (GH.obj m5) yX)).trans yX;have Ed:=(Lh.block vG (ne (Dw.obj m6) uR)).trans uR;have p4:=(GD.block Wr (ne (Dx.obj m7) FF)).trans FF;have a9:=(Li.block Ws (ne (GI.obj m8) FG)).trans FG;have Ec:=(Lf.block Wp (ne (GF.obj m9) R9)).trans R9;have Vv:=(Lg.block Wq (ne (GG.obj m10) Sa)).trans Sa;have t7:∀{c:Nat} {aq:Obj},c≠r→bW.heap[c]? = some aq→cj.heap[c]? = some aq:=fun av h=>(Lh.block _ av).trans (Dw.obj h);have t8:∀{c:Nat} {aq:Obj},c≠r→cj.heap[c]? = some aq→dC.heap[c]? = some aq:=fun av h=>(GD.block _ av).trans (Dx.obj h);have t9:∀{c:Nat} {aq:Obj},c≠r→dC.heap[c]? = some aq→ez.heap[c]? = some aq:=fun av h=>(Li.block _ av).trans (GI.obj h);have t10:∀{c:Nat} {aq:Obj},c≠r→ez.heap[c]? = some aq→eX.heap[c]? = some aq:=fun av h=>(Lf.block _ av).trans (GF.obj h);have t11:∀{c:Nat} {aq:Obj},c≠r→eX.heap[c]? = some aq→hh.heap[c]? = some aq:=fun av h=>(Lg.block _ av).trans (GG.obj h);have n6:=ne m6 k1;have n7:=ne m7 Ed;have n8:=ne m8 p4;have n9:=ne m9 a9;have n10:=ne m10 Ec;replace k1:=t11 n6 (t10 n6 (t9 n6 (t8 n6 (t7 n6 k1))));replace Ed:=t11 n7 (t10 n7 (t9 n7 (t8 n7 Ed)));replace p4:=t11 n8 (t10 n8 (t9 n8 p4));replace a9:=t11 n9 (t10 n9 a9);replace Ec:=t11 n10 Ec;have aw:Ext w hh:=Lg.ext ((Lf.ext ((Li.ext ((GD.ext ((Lh.ext ((UU.ext (ca.trans GH) bk).trans Dw) bk).trans Dx) bk).trans GI) bk).trans GF) bk).trans GG) bk;refine⟨⟨r,_,_,[(9,_),(10,_),(11,_),(12,_),(13,_),(14,_),(15,_),(16,_),(17,_),(18,_),(19,_)],rfl,m11,rfl,fun x=>?_⟩,aw⟩;have bs:∀{f:Nat} {g:Int→Int→Int×Bool},okF Tryz.prog f=true→qR f g→xB hh (.func (.func f) #[] #[]) g:=fun h1 U=>.inl ⟨_,rfl,h1,U⟩;have ay:∀{c f:Nat} {p:Int→Int→Bool},hh.heap[c]? = some (.cells #[.func (.func f) #[] #[]] T.vz)→okF Tryz.prog f=true→tw f p→xB hh (.func (.func F.hF) #[] #[.pointer (some ⟨c,0,none⟩)]) fun a b=>(o.bit (p a b),true) :=
  fun h1 U ai=>.inr ⟨_,_,_,rfl,h1,U,ai,rfl⟩
 unfold o.gn;by_cases g9:x=9
 ·subst g9;exact⟨_,rfl,_,rfl,bs (by kernel_rfl) adp⟩
 by_cases g10:x=10
 ·subst g10;exact⟨_,rfl,_,rfl,bs (by kernel_rfl) adq⟩
 by_cases g11:x=11
 ·subst g11;exact⟨_,rfl,_,rfl,bs (by kernel_rfl) Oy⟩
 by_cases g12:x=12
 ·subst g12;exact⟨_,rfl,_,rfl,bs (by kernel_rfl) Uq⟩
 by_cases g13:x=13
 ·subst g13;exact⟨_,rfl,_,rfl,bs (by kernel_rfl) acR⟩
 by_cases g14:x=14
 ·subst g14;exact⟨_,rfl,_,rfl,ay k1 (by kernel_rfl) adr⟩
 by_cases g15:x=15
 ·subst g15;exact⟨_,rfl,_,rfl,ay Ed (by kernel_rfl) ads⟩
 by_cases g16:x=16
 ·subst g16;exact⟨_,rfl,_,rfl,ay p4 (by kernel_rfl) adt⟩
 by_cases g17:x=17
 ·subst g17;exact⟨_,rfl,_,rfl,ay a9 (by kernel_rfl) adu⟩
 by_cases g18:x=18
 ·subst g18;exact⟨_,rfl,_,rfl,ay Ec (by kernel_rfl) adv⟩
 by_cases g19:x=19
 ·subst g19;exact⟨_,rfl,_,rfl,ay Vv (by kernel_rfl) adw⟩
 simp[g9,g10,g11,g12,g13,g14,g15,g16,g17,g18,g19]
theorem oo.look{w:World}{m:Value}(h:oo w m)(x:Int):∃es r,o8 w m es∧Instr.findNow (.int .i64) (.int .i64 x) es.toList 0=some r ∧
  match o.gn x with
  | some aq => ∃i v,r=some (i,v)∧Ad w aq v
  | none=>r=none:=by
 obtain⟨r,es,c,l,rfl,df,kM,aw⟩:=h;obtain⟨q,h1,U⟩:=vS (F7 .i64 .i64) x es.toList l 0 kM;refine⟨es,q,.inr ⟨r,c,rfl,df⟩,h1,?_⟩
 have:=aw x
 cases a8:o.gn x with
 | none =>
  simp only[a8] at this ⊢;rw[this] at U;cases q with
  | none=>rfl
  | some q=>simp at U
 | some aq =>
  simp only[a8] at this ⊢;obtain⟨p,aO,aU⟩:=this;rw[aO] at U;cases q with
  | none=>simp at U
  | some q=>simp at U;exact⟨q.1,q.2,rfl,U ▸ aU⟩
theorem oo.mod{A:Nat→Prop}{w w':World}{m:Value}(h:oo w m)(hm:Mod A w w')(eC:∀k aq,w.heap[k]? = some aq→(∃es c,aq = .map es c)∨(∃cs,aq = .cells cs T.vz)→¬A k):oo w' m:=by
 obtain⟨r,es,c,l,rfl,df,kM,aw⟩:=h;refine⟨r,es,c,l,rfl,hm.obj (eC r _ df (.inl ⟨_,_,rfl⟩)) df,kM,fun x=>?_⟩
 have:=aw x
 cases a8:o.gn x with
 | none=>simpa only[a8] using this
 | some aq =>
  simp only[a8] at this ⊢;obtain⟨p,aO,u,aU,bs⟩:=this;refine⟨p,aO,u,aU,?_⟩;rcases bs with bs | ⟨c,f,p,h1,U,ai⟩
  ·exact .inl bs
  ·exact .inr ⟨c,f,p,h1,hm.obj (eC c _ U (.inr ⟨_,rfl⟩)) U,ai⟩
theorem oo.ext{w w':World}{m:Value}(h:oo w m)(he:Ext w w'):oo w' m:=h.mod (A:=fun _=>False) he.mod fun _ _ _ _ h=>h
theorem adK(x:Int)(m:Value)(w:World)(h:oo w m):bq Tryz.prog F.AP #[.int .i64 x,m] w fun v w'=>v = .int .i64 (o.e9 x)∧Ext w w':=by
 refine bI E.AP ?_;refine bF ?_;obtain⟨es,r,U,ai,aL⟩:=h.look x;simp -dsimp only[cu];simp -dsimp only[cI,Nat.reduceAdd,Nat.reduceEqDiff,reduceIte,reduceCtorEq,cS];refine K.cut (fun a1 w'=>a1 0 = .int .i64 x∧a1 1=m∧w'=w∧x≠3∧¬(1≤x∧x≤8)) ?_ ?_
 ·refine aS ?_;refine K.cond (fun h1=>?_) (fun h1=>?_)
  ·refine aS ?_;exact⟨by simp[o.e9,h1],Ext.refl _⟩
  refine aS ?_;refine K.cond (fun bn=>?_) (fun bn=>?_)
  ·refine aS ?_;refine K.cond (fun bL=>?_) (fun bL=>?_)
   ·refine aS ?_;exact⟨by simp[o.e9,h1,bn,bL],Ext.refl _⟩
   ·refine aS ?_;refine⟨trivial,trivial,trivial,h1,by omega⟩
  ·refine aS ?_;refine⟨trivial,trivial,trivial,h1,by omega⟩
 ·rintro S w' ch ⟨iu,s1,rfl,ma,GD⟩;refine b2 (And.intro iu s1) ?_;refine K.lp U ai ?_;cases a8:o.gn x with
  | none =>
   simp only[a8] at aL;subst aL;simp only[kU,Option.map_none,Option.getD_none,Option.isSome_none,if_true];have aO:o.e9 x = -1:=by
    unfold o.gn at a8;unfold o.e9
    repeat' split
    all_goals first | rfl | (exfalso;omega) | skip
    all_goals
     exfalso
     (repeat' split at a8)
     all_goals first | (cases a8;done) | omega
   refine aS ?_;refine K.rE (vs:=[.int .i64 0,.int .i64 0,.int .i64 0,.nilFunc]) (fun _=>by simp -dsimp only[cI,cu,Nat.reduceAdd,Nat.reduceEqDiff,reduceIte,reduceCtorEq,cS]) rfl rfl (by simp[Value.oneCell']) fun w1 b aD he av=>?_;refine aS ?_;rw[aO];exact cd
  | some aq =>
   simp only[a8] at aL;obtain⟨i,v,rfl,u,rfl,bs⟩:=aL;simp only[kU,Option.map_some,Option.getD_some,Option.isSome_some,if_true];refine aS ?_;refine K.rE (vs:=[.int .i64 aq.parts,.int .i64 aq.h4,.int .i64 aq.makes,u]) (fun _=>by simp -dsimp only[cI,cu,Nat.reduceAdd,Nat.reduceEqDiff,reduceIte,reduceCtorEq,cS]) rfl rfl (by rcases bs with ⟨f,rfl,_⟩ | ⟨c,f,p,rfl,_⟩<;>simp[Value.oneCell']) fun w1 b aD he av=>?_;refine aG ?_;rw[(o.CP a8).1];exact cd
end Go.Proofs.R
end
section
set_option linter.unusedSimpArgs false
namespace o
open Go Go.RowKit bt
structure e2(w:World)(cs:List Value)(s:Scope):Prop where
 o1:s.vars.length≤1152921504606846976∧s.aH.length≤1152921504606846976∧s.procs.length≤1152921504606846976∧s.locals.length≤1152921504606846976∧ep s.self
 ex:∃v0 v1 v2 v3 v4,cs=[v0,v1,v2,v3,v4,.int .i64 s.self]∧fY w v0 s.scalars∧gF w v1 s.vars∧lG w v2 s.aH∧o9 w v3 s.procs∧gF w v4 s.locals∧s.scalars.length≤4611686018427387904
theorem e2.ext{w w':World}{cs:List Value}{s:Scope}(he:Ext w w')(h:e2 w cs s):e2 w' cs s :=
 let ⟨v0,v1,v2,v3,v4,e,aj,h1,U,ai,aL,bn⟩:=h.ex
 ⟨h.o1,v0,v1,v2,v3,v4,e,aj.ext he,h1.ext he,U.ext he,ai.ext he,aL.ext he,bn⟩
theorem e2.form{w:World}{cs:List Value}{s:Scope}(h:e2 w cs s):∃a0 bN dy c1 a2 c2 a3 bK a4 bQ,cs=[.slice a0 s.scalars.length bN,.slice dy s.vars.length c1,.slice a2 s.aH.length c2,.slice a3 s.procs.length bK,.slice a4 s.locals.length bQ,.int .i64 s.self] ∧
  fY w (.slice a0 s.scalars.length bN) s.scalars∧gF w (.slice dy s.vars.length c1) s.vars∧lG w (.slice a2 s.aH.length c2) s.aH∧o9 w (.slice a3 s.procs.length bK) s.procs∧gF w (.slice a4 s.locals.length bQ) s.locals ∧
  s.scalars.length≤4611686018427387904∧s.vars.length≤9223372036854775807∧s.aH.length≤9223372036854775807∧s.procs.length≤9223372036854775807∧s.locals.length≤9223372036854775807:=by
 obtain⟨v0,v1,v2,v3,v4,rfl,aj,h1,U,ai,aL,bn⟩:=h.ex;obtain⟨a0,bN,rfl,_⟩:=aj.form;obtain⟨dy,c1,rfl,dt⟩:=h1.form;obtain⟨a2,c2,rfl,dB⟩:=U.form;obtain⟨a3,bK,rfl,dT⟩:=ai.form;obtain⟨a4,bQ,rfl,er⟩:=aL.form;exact⟨a0,bN,dy,c1,a2,c2,a3,bK,a4,bQ,rfl,aj,h1,U,ai,aL,bn,dt,dB,dT,er⟩
end o
namespace Go.Proofs.R
open Go Go.RowKit bt
theorem KJ(n:Int)(cs:List Value)(s:o.Scope)(w:World)(h:o.e2 w cs s) :
  bq Tryz.prog F.q0 #[.int .i64 n,.agg cs.toArray] w fun v w'=>v = .tuple #[.int .i64 (o.gI n s).1,.bool (o.gI n s).2]∧Ext w w':=by
 obtain⟨a0,bN,dy,c1,a2,c2,a3,bK,a4,bQ,rfl,aj,h1,U,ai,aL,eG,dt,dB,dT,er⟩:=h.form;refine bI E.q0 ?_;refine bF ?_;refine aS ?_;refine K.new fun w1 b aD az al=>?_
 (repeat' (refine aG ?_;first | (refine K.cond (fun _=>?_) (fun _=>?_)<;>try (exfalso;omega)) | refine K.cX (fun _=>?_) (fun _=>?_)))<;>try refine aG ?_
 all_goals
  refine⟨?_,fc⟩;unfold o.gI
  (repeat' split)<;>first | rfl | (exfalso;omega)
theorem agh(v:Value)(l:List o.Var)(n:Int)(cs:List Value)(s:o.Scope)(w:World)(aQ:o.gF w v l)(h:o.e2 w cs s) :
  bq Tryz.prog F.hU #[v,.int .i64 n,.agg cs.toArray] w fun v w'=>v = .tuple #[.int .i64 (o.fj l n s).1,.int .i64 (o.fj l n s).2.1,.bool (o.fj l n s).2.2]∧Ext w w':=by
 obtain⟨a0,bN,dy,c1,a2,c2,a3,bK,a4,bQ,rfl,_⟩:=h.form;obtain⟨bh,cap,rfl,hlen⟩:=aQ.form;refine bI E.hU ?_;refine bF ?_;refine aS ?_;refine K.new fun w1 b aD az al=>?_;refine aS ?_;apply K.cond<;>intro g1
 ·refine aS ?_;rw[o.fj,o.gK (.inl g1)];exact cd
 refine aS ?_;apply K.cond<;>intro g2
 ·refine aS ?_;rw[o.fj,o.gK (.inr (by omega))];exact cd
 refine aS ?_;obtain⟨i,rfl⟩:=Int.eq_ofNat_of_zero_le (show 0≤n by omega);have ad:i<l.length:=by omega
 rw[o.fj,o.h0 (by omega) (by omega)];simp only[Int.toNat_natCast];obtain⟨a,rfl⟩:=aQ.addr (by omega);refine aG ?_;refine K.gg (c:=[_,_,_,_,_,_]) al (Ext.refl _) rfl ?_;refine aS ?_;refine K.fX _ (fun w' e=>KJ _ _ s w' (h.ext (az.trans e))) ?_;refine aS ?_;intro aR aA;refine aG ?_;refine K.gg (c:=[_,_,_,_,_,_]) al aA rfl ?_;refine aS ?_;refine K.fX _ (fun w' e=>KJ _ _ s w' (h.ext ((az.trans aA).trans e))) ?_;refine aS ?_;intro ba au;refine aG ?_;refine K.cX (fun g3=>?_) (fun g3=>?_)
 all_goals
  refine aS ?_;refine⟨?_,fc⟩;simp[g3]
theorem abY(x:o.Node)(cs:List Value)(s:o.Scope)(w:World)(aw:x.ok)(h:o.e2 w cs s) :
  bq Tryz.prog F.em #[.agg x.enc.toArray,.agg cs.toArray] w fun v w'=>v = .tuple #[.int .i64 (o.kT x s).1,.int .i64 (o.kT x s).2]∧Ext w w':=by
 obtain⟨a0,bN,dy,c1,a2,c2,a3,bK,a4,bQ,rfl,aj,h1,U,ai,aL,eG,dt,dB,dT,er⟩:=h.form;refine bI E.em ?_;refine bF ?_;refine aS ?_;refine K.new fun w1 bz cK az al=>?_;refine aS ?_;refine K.new fun aR b4 dw aA aI=>?_;have eO:aR.heap[bz]? = some (.cells #[.int .i64 x.op,.int .i64 x.n] T.k):=aA.obj al;clear al;refine aG ?_;apply K.cond<;>intro g5
 ·(repeat' (refine aG ?_;first | (refine K.cond (fun _=>?_) (fun _=>?_)<;>try (exfalso;omega)) | refine K.cX (fun _=>?_) (fun _=>?_)))<;>try refine aG ?_
  all_goals
   refine⟨?_,fc⟩;rw[o.kT,if_pos g5];split<;>first | rfl | (exfalso;omega)
 refine aG ?_;apply K.cond<;>intro g6
 ·have hk:o.kT x s=o.iE x.n s:=by rw[o.kT,if_neg g5,if_pos g6]
  rw[hk,o.iE];refine aG ?_;apply K.cond<;>intro g1;rotate_left
  ·refine aG ?_;rw[o.gK (.inl (by omega))];exact cd
  refine aG ?_;apply K.cond<;>intro g2;rotate_left
  ·refine aG ?_;rw[o.gK (.inr (by omega))];exact cd
  refine aG ?_;rw[o.h0 (by omega) (by omega)];obtain⟨a,rfl⟩:=U.addr (by omega);have ad:x.n.toNat<s.aH.length:=by omega
  refine K.dr x.n.toNat (by omega) ad ?_;refine aG ?_;refine K.gg (c:=[_,_,_,_,_,_]) aI (Ext.refl _) rfl ?_;refine aS ?_;refine K.fX _ (fun w' e=>KJ _ _ s w' (h.ext ((az.trans aA).trans e))) ?_;refine aS ?_;intro ba au;refine K.cX (fun g3=>?_) (fun g3=>?_)
  all_goals
   refine aS ?_;refine⟨?_,fc⟩;simp[g3]
 refine aG ?_;apply K.cond<;>intro g7
 ·have hk:o.kT x s=o.yY x.n s:=by rw[o.kT,if_neg g5,if_neg g6,if_pos g7]
  rw[hk,o.yY];refine aG ?_;apply K.cond<;>intro g1;rotate_left
  ·refine aG ?_;intro ba au;refine aG ?_;rw[if_neg g1];exact cd
  rw[if_pos g1];obtain⟨i,ad⟩:=Int.eq_ofNat_of_zero_le g1;obtain⟨_,hK⟩:=aw.n;rw[ad] at hK;have aF:x.n.tdiv 16=((i / 16:Nat):Int):=by rw[ad];rfl
  have hm:x.n.tmod 16=((i % 16:Nat):Int):=by rw[ad];rfl
  refine aG ?_;refine K.quo (by omega) ?_;rw[aF];refine aG ?_;apply K.cond<;>intro g2;rotate_left
  ·refine aG ?_;intro ba au;refine aG ?_;rw[o.gK (.inr (by omega))];exact cd
  have aT:i / 16<s.procs.length:=by omega
  rw[o.h0 (by omega) (by omega)];simp only[Int.toNat_natCast];refine aG ?_;refine K.rem (by omega) ?_;refine aG ?_;refine K.quo (by omega) ?_;rw[aF];obtain⟨a,rfl⟩:=ai.addr (by omega);obtain⟨_,cr,dL,Bi,_⟩:=ai.at (i / 16) aT;have IF:w.cell? ((a.add (i / 16*5)).add 2)=some (.int .i64 s.procs[i / 16].cz):=Bi 2 _ rfl;refine aG ?_;refine K.ld ((az.trans aA).cell IF) ?_;refine aG ?_;rw[hm];intro ba au;refine aG ?_;apply K.cond<;>intro g3
  all_goals
   refine aG ?_;refine⟨?_,fc⟩
   first | rw[if_pos g3] | rw[if_neg g3]
 refine aG ?_;apply K.cond<;>intro g8
 ·(repeat' (refine aG ?_;first | (refine K.cond (fun _=>?_) (fun _=>?_)<;>try (exfalso;omega)) | refine K.cX (fun _=>?_) (fun _=>?_)))<;>try refine aG ?_
  all_goals
   refine⟨?_,fc⟩;rw[o.kT,if_neg g5,if_neg g6,if_neg g7,if_pos g8];split<;>first | rfl | (exfalso;omega)
 refine aG ?_;refine⟨?_,fc⟩;rw[o.kT,if_neg g5,if_neg g6,if_neg g7,if_neg g8]
end Go.Proofs.R
end
section
namespace o
open Go bt
def dZ(n b:Nat):Prop:=n*b≤140737488351232
structure Scalar.cT(x:Scalar):Prop where
 size:ep x.size
structure Var.cT(x:Var):Prop where
 scalar:ep x.scalar
 over:ep x.over
 aZ:ep x.aZ
 ad:ep x.ad
 init:ep x.init
structure c4.cT(x:c4):Prop where
 scalar:ep x.scalar
 cap:ep x.cap
 aZ:ep x.aZ
 ad:ep x.ad
structure Act.cT(x:Act):Prop where
 kind:ep x.kind
 to:ep x.to
 loc:ep x.loc
 index:dZ x.index.length 16
 value:dZ x.value.length 16
structure dD.cT(x:dD):Prop where
 from_:ep x.from_
 to:ep x.to
 guard:dZ x.guard.length 16
 b6:dZ x.b6.length 72
 act:∀a∈x.b6,a.cT
structure dj.cT(x:dj):Prop where
 over:ep x.over
 cz:ep x.cz
 vars:dZ x.vars.length 56
 cJ:dZ x.cJ.length 88
 var:∀a∈x.vars,a.cT
 cmd:∀a∈x.cJ,a.cT
structure kb.cT(x:kb):Prop where
 expr:dZ x.expr.length 16
structure Model.cT(m:Model):Prop where
 scalars:dZ m.scalars.length 24
 vars:dZ m.vars.length 56
 aH:dZ m.aH.length 56
 procs:dZ m.procs.length 80
 props:dZ m.props.length 40
 scalar:∀a∈m.scalars,a.cT
 var:∀a∈m.vars,a.cT
 chan:∀a∈m.aH,a.cT
 proc:∀a∈m.procs,a.cT
 prop:∀a∈m.props,a.cT
end o
end
section
namespace o
open Go Go.RowKit bt
structure Scope.cT(s:Scope):Prop where
 scalars:dZ s.scalars.length 24
 vars:dZ s.vars.length 56
 aH:dZ s.aH.length 56
 procs:dZ s.procs.length 80
 locals:dZ s.locals.length 56
 proc:∀a∈s.procs,a.cT
 self:ep s.self
theorem Model.cT.scope{m:Model}(h:m.cT):(fI m).cT:=⟨h.scalars,h.vars,h.aH,h.procs,by simp[fI,dZ],h.proc,by simp[fI,ep]⟩
theorem Scope.cT.inner{s:Scope}{p:dj}(h:s.cT)(aO:p.cT):(inner p s).cT:=⟨h.scalars,h.vars,h.aH,h.procs,aO.vars,h.proc,aO.over⟩
theorem Scope.cT.o1{s:Scope}(h:s.cT):(s.vars.length≤1152921504606846976∧s.aH.length≤1152921504606846976∧s.procs.length≤1152921504606846976∧s.locals.length≤1152921504606846976∧ep s.self)∧s.scalars.length≤4611686018427387904:=by
 have aj:=h.scalars;have h1:=h.vars;have U:=h.aH;have ai:=h.procs;have aL:=h.locals;unfold dZ at aj h1 U ai aL;exact⟨⟨by omega,by omega,by omega,by omega,h.self⟩,by omega⟩
end o
namespace Go.Proofs.R
open Go Go.RowKit bt
theorem J3(v:Value)(xs:List o.Node)(w:World)(h:o.fA w v xs)(aD:o.dZ xs.length 16) :
  bq Tryz.prog F.a9 #[v] w fun b3 w'=>(∃bh c,b3 = .slice bh xs.length c)∧dW w (fun w=>o.fA w b3 xs) w'∧Ext w w' :=
 Er kN E.a9 (by kernel_rfl) (fun h=>h) v xs w h (by unfold o.dZ at aD;omega)
theorem Lb(v:Value)(xs:List o.Var)(w:World)(h:o.gF w v xs)(aD:o.dZ xs.length 56) :
  bq Tryz.prog F.a3 #[v] w fun b3 w'=>(∃bh c,b3 = .slice bh xs.length c)∧dW w (fun w=>o.gF w b3 xs) w'∧Ext w w' :=
 Er kN E.a3 (by kernel_rfl) (fun h=>h) v xs w h (by unfold o.dZ at aD;omega)
theorem afj(v:Value)(xs:List o.Scalar)(w:World)(h:o.fY w v xs)(aD:o.dZ xs.length 24) :
  bq Tryz.prog F.du #[v] w fun b3 w'=>(∃bh c,b3 = .slice bh xs.length c)∧dW w (fun w=>o.fY w b3 xs) w'∧Ext w w' :=
 Er kN E.du (by kernel_rfl) (fun h=>h) v xs w h (by unfold o.dZ at aD;omega)
theorem W8(v:Value)(xs:List o.c4)(w:World)(h:o.lG w v xs)(aD:o.dZ xs.length 56) :
  bq Tryz.prog F.bT #[v] w fun b3 w'=>(∃bh c,b3 = .slice bh xs.length c)∧dW w (fun w=>o.lG w b3 xs) w'∧Ext w w' :=
 Er kN E.bT (by kernel_rfl) (fun h=>h) v xs w h (by unfold o.dZ at aD;omega)
abbrev fU:=Option Addr×Nat×Nat
theorem Xm(v:Value)(l:List o.dD)(w:World)(h:o.o6 w v l)(aD:o.dZ l.length 88)(a6:∀c∈l,c.cT) :
  bq Tryz.prog F.mU #[v] w fun b3 w'=>(∃bh c,b3 = .slice bh l.length c)∧dW w (fun w=>o.o6 w b3 l) w'∧Ext w w':=by
 obtain⟨b9,c1,rfl,bz⟩:=h.form;refine bI E.mU ?_;refine bF ?_;refine aa ?_;refine K.da 11 l.length [9,10] (fun v:fU=>[(3,.slice v.1 v.2.1 v.2.2)]) (none,0,0) (fun k v w'=>Ext w w'∧eY o.xz T.m 6 w.heap.size w' (.slice v.1 v.2.1 v.2.2) (l.take k)) bw bw ⟨Ext.refl _,by simpa using eY.nil _ _ _ _ _⟩ ?_;rintro k v S w1 hk ⟨az,qq⟩;refine aa ?_;apply K.cond<;>intro g1
 ·have bb:k<l.length:=by omega
  have IV:=a6 l[k] (List.getElem_mem _);obtain⟨a,rfl⟩:=h.addr (by omega);obtain⟨ay,fw,eD,av,rr,qv⟩:=h.at k bb;obtain⟨_,_,rfl,_⟩:=rr.form;obtain⟨bh,iN,rfl,Wm⟩:=qv.form;refine aa ?_;intro aR b4 dw aA aI;have Bw:=cL aI;refine aa ?_;refine K.call (J3 _ _ aR (rr.ext (az.trans aA)) IV.guard) ?_;rintro _ bo ⟨⟨n3,kE,rfl⟩,pv,aP⟩;have bJ:=aP.obj aI;have oG:=aA.trans aP;refine aa ?_;intro bR ft cx;have nJ:=ft.ext oG dw;have bf:=az.trans nJ;have aas:=pv.wr ft Bw;have aak:=cL cx;refine aa ?_;refine K.da 22 l[k].b6.length [3,5,9,10,11,20,21] (fun v:fU=>[(6,.slice v.1 v.2.1 v.2.2)]) (none,0,0) (fun j v w'=>Ext bR w'∧eY o.zQ T.n 5 bR.heap.size w' (.slice v.1 v.2.1 v.2.2) (l[k].b6.take j)) bw bw ⟨Ext.refl _,by simpa using eY.nil _ _ _ _ _⟩ ?_;rintro j Gt S bW aT ⟨bc,dn⟩;have dm:=bc.obj cx;refine aa ?_;apply K.cond<;>intro g2
  ·have ef:j<l[k].b6.length:=by omega
   have QV:=IV.act l[k].b6[j] (List.getElem_mem _);obtain⟨a2,rfl⟩:=qv.addr (by omega);obtain⟨cn,cr,wa,fg,pz⟩:=qv.at j ef;obtain⟨_,_,rfl,_⟩:=fg.form;obtain⟨_,_,rfl,_⟩:=pz.form;have su:=bf.trans bc;refine aa ?_;intro cj lQ jr bP c5;have E7:=su.trans bP;have ah1:=cL c5;refine aa ?_;intro dC bV;have eL:=bV.obj c5;have E8:=E7.trans bV;refine aa ?_;refine K.call (J3 _ _ dC (fg.ext E8) QV.index) ?_;rintro _ ez ⟨⟨et,ci,rfl⟩,Fp,cp⟩;refine⟨cp,?_⟩;have dP:=cp.obj eL;have ZV:=E8.trans cp;refine aa ?_;refine K.call (J3 _ _ ez (pz.ext ZV) QV.value) ?_;rintro _ eX ⟨⟨Kd,cZ,rfl⟩,oL,dI⟩;have sq:=dI.obj dP;have FD:=Fp.ext dI cp.size;refine aa ?_;intro hh hY nG;refine aa ?_;intro lB nb uq;refine aa ?_;intro o5 r4 It iT iS;have Rb:=cL eL;have Rc:=cL dP;have U2:=cp.size;have Ll:=dI.size;have GJ:=hY.size;have UY:=nb.size;have abj:=((FD.wr hY Rb).wr nb Rb).ext iT (by omega);have abr:=((oL.wr hY Rc).wr nb Rc).ext iT (by omega);have XH:=((bP.trans bV).trans cp).trans dI;have Pr:=(nb.ext (hY.ext XH jr) jr).trans iT;have UZ:=(bP.trans bV).size;have Pq:=bc.trans Pr;have TH:=dn.ext Pr;have aF:=KE ef IV.b6 Wm;refine aa ?_;refine K.tN (x:=l[k].b6[j]) (cs:=l[k].b6[j].enc (.slice et l[k].b6[j].index.length ci) (.slice Kd l[k].b6[j].value.length cZ)) TH (fZ iS)
    (dW.own (((abj.low UZ).and (abr.low (by omega))).imp fun w h=>⟨_,_,rfl,h.1,h.2⟩) dn bc.size) rfl (by simp[o.Act.enc,Value.oneCell']) aF.1 aF.2 Pq.size fun b3 w' bk Bp=>?_
   obtain⟨jw,nz,rfl,_⟩:=bk.form;refine aa ?_;exact⟨ef,bu,(jw,_,nz),bw,TH.kH Pq Bp (Nat.le_refl _),bk.snoc ef⟩
  ·have wm:=dn.done (by omega);have Ii:dW bR (fun w=>o.mH w (.slice Gt.1 Gt.2.1 Gt.2.2) l[k].b6) bW:=wm.new;obtain⟨qF,tT,c0,_⟩:=Ii.here.form;rw[c0] at Ii;refine aa ?_;intro cj eo c5;refine aa ?_;intro dC mj Bc bV eL;have z25:aR.heap.size≤bR.heap.size:=by have:=aP.size;have:=ft.size;omega
   have xw:=bc.size;have z67:=eo.size;have abk:=((aas.ext bc z25).wr eo Bw).ext bV (by omega);have abt:=(Ii.wr eo aak).ext bV (by omega);have Pn:=(eo.ext (nJ.trans bc) dw).trans bV;have Pg:=az.trans Pn;have TI:=qq.ext Pn;have z12:=aA.size;have aF:=KE bb aD bz;refine aa ?_;refine K.tN (x:=l[k]) (cs:=l[k].enc (.slice n3 l[k].guard.length kE) (.slice qF l[k].b6.length tT)) TI (by have:=fZ eL;rw[c0] at this;exact this)
    (dW.own (((abk.low z12).and (abt.low nJ.size)).imp fun w h=>⟨ay,_,_,rfl,h.1,h.2⟩) qq az.size) rfl (by simp[o.dD.enc,Value.oneCell']) aF.1 aF.2 Pg.size fun b3 w' bk Bp=>?_
   obtain⟨jw,nz,rfl,_⟩:=bk.form;refine aa ?_;exact⟨bb,bu,(jw,_,nz),bw,TI.kH Pg Bp (Nat.le_refl _),bk.snoc bb⟩
 ·refine aa ?_;have wm:=qq.done (by omega);have fQ:dW w (fun w=>o.o6 w (.slice v.1 v.2.1 v.2.2) l) w1:=wm.new;obtain⟨qF,tT,c0,_⟩:=fQ.here.form;exact⟨⟨qF,tT,c0⟩,fQ,az⟩
end Go.Proofs.R
namespace Go.Proofs.R
open Go Go.RowKit bt
theorem RT(p:o.dj)(cv b9 cq cm cw eP n2:Option Addr)(hM mB ks pH s3 u3 J2 bN c1 c2 bK bQ ff jO:Nat)(n:Int)(w:World) :
  bq Tryz.prog F.ji #[.agg (p.enc (.slice eP u3 ff) (.slice n2 J2 jO)).toArray,.agg #[.slice cv hM bN,.slice b9 mB c1,.slice cq ks c2,.slice cm pH bK,.slice cw s3 bQ,.int .i64 n]] w fun v w' =>
   v = .agg #[.slice cv hM bN,.slice b9 mB c1,.slice cq ks c2,.slice cm pH bK,.slice eP u3 ff,.int .i64 p.over]∧Ext w w':=by
 refine bI E.ji ?_;refine bF ?_;simp -dsimp only[cu];refine ei ?_;intro w1 bz cK az al;refine ei ?_;intro aR b4 dw aA aI;refine ei ?_;intro ba bZ fG au bG;refine ei ?_;have dY:b4≠bz:=by have:=cL al;omega
 have eg:bZ≠b4:=by have:=cL aI;omega
 refine K.hE [2,3,4] (fun _=>[]) (fun(_:Unit) w'=>(Ext w w'∧ba.heap.size≤w'.heap.size)∧w'.heap[b4]? = some (.cells #[.slice cv hM bN,.slice b9 mB c1,.slice cq ks c2,.slice cm pH bK,.slice eP u3 ff,.int .i64 p.over] T.d)∧w'.heap[bZ]? = ba.heap[bZ]?) ?_ ?_
 ·refine aa ?_;intro bo aP;have al:=((aA.trans au).trans aP).obj al;have aI:=(au.trans aP).obj aI;have bG:=aP.obj bG;have nI:=((az.trans aA).trans au).trans aP;have ajJ:=az.size;have zP:=aP.size;have fin:∀bR bW,dH b4 bo bR→dH b4 bR bW→bW.heap[b4]? = some (.cells #[.slice cv hM bN,.slice b9 mB c1,.slice cq ks c2,.slice cm pH bK,.slice eP u3 ff,.int .i64 p.over] T.d) →
    (Ext w bW∧ba.heap.size≤bW.heap.size)∧bW.heap[b4]? = some (.cells #[.slice cv hM bN,.slice b9 mB c1,.slice cq ks c2,.slice cm pH bK,.slice eP u3 ff,.int .i64 p.over] T.d)∧bW.heap[bZ]? = ba.heap[bZ]? := fun bR bW a b c=>by
   have:=a.size
   have:=b.size
   refine⟨⟨b.ext (a.ext nI (by omega)) (by omega),by omega⟩,c,?_⟩;rw[b.block bZ eg,a.block bZ eg,bG]
   symm
   assumption
  refine aa ?_;refine⟨?_,?_⟩
  ·refine aa ?_;refine⟨?_,?_⟩
   ·refine aa ?_;intro bR ft cx;refine aa ?_;intro bW gd dm;refine aa ?_;exact⟨(),trivial,fin bR bW ft gd dm⟩
   ·refine aa ?_;intro bR ft cx;have al:=ft.obj al (Ne.symm dY);refine aa ?_;intro bW gd dm;refine aa ?_;exact⟨(),trivial,fin bR bW ft gd dm⟩
  ·refine aa ?_;intro bR ft cx;refine aa ?_;intro bW gd dm;refine aa ?_;exact⟨(),trivial,fin bR bW ft gd dm⟩
 rintro _ S bo ⟨⟨aP,z4⟩,bJ,II⟩;rw[bG] at II;have ck:=cL bG;refine aa ?_;intro bR ft cx;refine aa ?_;exact⟨bu,ft.ext aP (by have:=az.size;have:=aA.size;omega)⟩
theorem Xp(cs:List Value)(s:o.Scope)(w:World)(h:o.e2 w cs s)(a6:s.cT) :
  bq Tryz.prog F.d3 #[.agg cs.toArray] w fun v w'=>(∃hD,v = .agg hD.toArray∧dW w (fun w=>o.e2 w hD s) w')∧Ext w w':=by
 have rq:=a6.o1;obtain⟨cv,bN,b9,c1,cq,c2,cm,bK,cw,bQ,rfl,aj,h1,U,ai,aL,_,dt,dB,dT,er⟩:=h.form;refine bI E.d3 ?_;refine bF ?_;refine aa ?_;intro w1 bz cK az al;refine aa ?_;intro aR b4 dw aA aI;have uo:b4≠bz:=by have:=cL al;omega
 refine aa ?_;intro ba au;have sc:=(az.trans aA).trans au;have al:=(aA.trans au).obj al;have aI:=au.obj aI;have Bv:=cL al;have Bw:=cL aI;refine aa ?_;refine K.call (afj _ _ ba (aj.ext sc) a6.scalars) ?_;rintro _ bo ⟨⟨jJ,Dv,rfl⟩,hM,aP⟩;refine⟨aP,?_⟩;refine aa ?_;refine K.call (Lb _ _ bo (h1.ext (sc.trans aP)) a6.vars) ?_;rintro _ bR ⟨⟨lC,nm,rfl⟩,mB,bf⟩;refine⟨aP.trans bf,?_⟩;refine aa ?_;refine K.call (W8 _ _ bR (U.ext ((sc.trans aP).trans bf)) a6.aH) ?_;rintro _ bW ⟨⟨lD,mG,rfl⟩,ks,bc⟩;have al:=((aP.trans bf).trans bc).obj al;have aI:=((aP.trans bf).trans bc).obj aI;have ud:=((sc.trans aP).trans bf).trans bc;have n36:=(hM.ext (bf.trans bc) aP.size).and (((mB.ext bc bf.size).low aP.size).and (ks.low (aP.trans bf).size));refine aa ?_;intro cj eo c5;refine aa ?_;intro dC kp eL;refine aa ?_;intro ez ln dP;have Ph:=ln.ext (kp.ext (eo.ext ud cK) cK) cK;have n39:=((n36.wr eo Bv).wr kp Bv).wr ln Bv;have z36:=((aP.trans bf).trans bc).size;have ajO:ez.heap.size=bW.heap.size:=by rw[ln.size,kp.size,eo.size]
 have aI:=ln.obj (kp.obj (eo.obj aI uo) uo) uo;refine aa ?_;refine K.call (Lb _ _ ez (aL.ext Ph) a6.locals) ?_;rintro _ eX ⟨⟨lE,xt,rfl⟩,s3,dI⟩;have sq:=dI.obj dP;have aI:=dI.obj aI;refine aa ?_;intro hh hY nG;have aI:=hY.obj aI uo;have Pe:=hY.ext (Ph.trans dI) cK;have Ll:=dI.size;have GJ:=hY.size;have n311:=((n39.ext dI (by omega)).wr hY Bv).and ((s3.wr hY (cL dP)).low (w0:=ba) (by omega));have aaj:=cL nG;refine aa ?_;refine K.da 25 s.procs.length [1,2,23,24] (fun v:fU=>[(3,.slice v.1 v.2.1 v.2.2)]) (none,0,0) (fun k v w'=>Ext hh w'∧eY o.tD T.g 5 hh.heap.size w' (.slice v.1 v.2.1 v.2.2) (s.procs.take k)) bw bw ⟨Ext.refl _,by simpa using eY.nil _ _ _ _ _⟩ ?_;rintro k v S lB hk ⟨fL,Jf⟩;have uq:=fL.obj nG;refine aa ?_;apply K.cond<;>intro g1
 ·have bb:k<s.procs.length:=by omega
  have IW:=a6.proc s.procs[k] (List.getElem_mem _);obtain⟨a,rfl⟩:=ai.addr (by omega);obtain⟨ay,cr,dL,en,eJ,gX⟩:=ai.at k bb;obtain⟨_,_,rfl,_⟩:=eJ.form;obtain⟨_,_,rfl,_⟩:=gX.form;have Pf:=Pe.trans fL;refine aa ?_;intro l9 vE EW wk E1;have XB:=Pf.trans wk;refine aa ?_;refine K.call (Lb _ _ l9 (eJ.ext XB) IW.vars) ?_;rintro _ xq ⟨⟨eP,ff,rfl⟩,u3,oH⟩;have ri:=oH.obj E1;refine aa ?_;intro zM JA Qx;have HI:=JA.ext (wk.trans oH) EW;have XC:=Pf.trans HI;refine aa ?_;refine K.call (Xm _ _ zM (gX.ext XC) IW.cJ IW.cmd) ?_;rintro _ ajA ⟨⟨n2,jO,rfl⟩,J2,Fb⟩;have ahI:=Fb.obj Qx;refine aa ?_;intro ajB FA gH;have XD:=FA.ext (HI.trans Fb) EW;refine aa ?_;intro ajC agW ahx IP ZH;have Pl:=XD.trans IP;have U3:=cL E1;have ajR:=oH.size;have ajS:=JA.size;have ajT:=Fb.size;have ajU:=FA.size;have ac6:=(((u3.wr JA U3).ext Fb (by omega)).wr FA U3).ext IP (by omega);have acX:=(J2.wr FA (cL Qx)).ext IP (by omega);have TJ:=Jf.ext Pl;have aF:=KE bb a6.procs dT;have Pk:=fL.trans Pl;refine aa ?_;refine K.tN (x:=s.procs[k]) (cs:=s.procs[k].enc (.slice eP s.procs[k].vars.length ff) (.slice n2 s.procs[k].cJ.length jO)) TJ (fZ ZH)
   (dW.own (((ac6.low wk.size).and (acX.low HI.size)).imp fun w h=>⟨ay,_,_,rfl,h.1,h.2⟩) Jf fL.size) rfl (by simp[o.dj.enc,Value.oneCell']) aF.1 aF.2 Pk.size fun b3 w' bk Bp=>?_
  obtain⟨jw,nz,rfl,_⟩:=bk.form;refine aa ?_;exact⟨bb,bu,(jw,_,nz),bw,TJ.kH Pk Bp (Nat.le_refl _),bk.snoc bb⟩
 ·have wm:=Jf.done (by omega);have fQ:dW hh (fun w=>o.o9 w (.slice v.1 v.2.1 v.2.2) s.procs) lB:=wm.new;obtain⟨qF,tT,c0,_⟩:=fQ.here.form;rw[c0] at fQ;have aI:=fL.obj aI;refine aa ?_;intro o5 jX iS;have aI:=jX.obj aI uo;refine aa ?_;intro Gx BS Iy;have UY:=fL.size;have n14:=(((n311.ext fL (by omega)).wr jX Bv).wr BS Bw).and (((fQ.wr jX aaj).wr BS (Nat.lt_of_lt_of_le Bw (by omega))).low (w0:=ba) (by omega));have z12:=az.size;have du:=BS.ext (jX.ext (Pe.trans fL) cK) (by omega);refine aa ?_;refine⟨⟨[.slice jJ s.scalars.length Dv,.slice lC s.vars.length nm,.slice lD s.aH.length mG,.slice qF s.procs.length tT,.slice lE s.locals.length xt,.int .i64 s.self],?_,
   (n14.low sc.size).imp fun w h=>⟨rq.1,_,_,_,_,_,rfl,h.1.1.1,h.1.1.2.1,h.1.1.2.2,h.2,h.1.2,rq.2⟩⟩,du⟩
  rw[c0]
  first | trivial | rfl
end Go.Proofs.R
end
section
namespace o
open Go Go.RowKit bt
theorem ew.form{w:World}{cs:List Value}{m:Model}(h:ew w cs m):∃a0 bN dy c1 a2 c2 a3 bK a4 bQ,cs=[.slice a0 m.scalars.length bN,.slice dy m.vars.length c1,.slice a2 m.aH.length c2,.slice a3 m.procs.length bK,.slice a4 m.props.length bQ] ∧
  fY w (.slice a0 m.scalars.length bN) m.scalars∧gF w (.slice dy m.vars.length c1) m.vars∧lG w (.slice a2 m.aH.length c2) m.aH∧o9 w (.slice a3 m.procs.length bK) m.procs∧xH w (.slice a4 m.props.length bQ) m.props ∧
  m.scalars.length≤9223372036854775807∧m.vars.length≤9223372036854775807∧m.aH.length≤9223372036854775807∧m.procs.length≤9223372036854775807∧m.props.length≤9223372036854775807:=by
 obtain⟨v0,v1,v2,v3,v4,rfl,aj,h1,U,ai,aL⟩:=h.ex;obtain⟨a0,bN,rfl,eG⟩:=aj.form;obtain⟨dy,c1,rfl,dt⟩:=h1.form;obtain⟨a2,c2,rfl,dB⟩:=U.form;obtain⟨a3,bK,rfl,dT⟩:=ai.form;obtain⟨a4,bQ,rfl,er⟩:=aL.form;exact⟨a0,bN,dy,c1,a2,c2,a3,bK,a4,bQ,rfl,aj,h1,U,ai,aL,eG,dt,dB,dT,er⟩
theorem Th{m:Model}{k:Nat}(h:k<m.procs.length):gq m (k:Int)=inner m.procs[k] (fI m):=by
 unfold gq;rw[h0 (by omega) (by omega)];simp
theorem FZ{m:Model}{i:Int}(h:i<0∨(m.procs.length:Int)≤i):gq m i=fI m:=by
 unfold gq;rw[gK h]
theorem Model.cT.gq{m:Model}(h:m.cT)(i:Int):(gq m i).cT:=by
 unfold o.gq;cases aN:nth m.procs i with
 | none=>exact h.scope
 | some p =>
  refine h.scope.inner (h.proc p ?_);unfold nth at aN;by_cases aj:0≤i
  ·rw[if_pos aj] at aN;exact List.mem_of_getElem? aN
  ·rw[if_neg aj] at aN;cases aN
end o
namespace Go.Proofs.R
open Go Go.RowKit bt
theorem T5(cs:List Value)(m:o.Model)(i:Int)(w:World)(h:o.ew w cs m)(a6:m.cT) :
  bq Tryz.prog F.xW #[.agg cs.toArray,.int .i64 i] w fun v w'=>(∃hD,v = .agg hD.toArray∧dW w (fun w=>o.e2 w hD (o.gq m i)) w')∧Ext w w':=by
 obtain⟨cv,bN,b9,c1,cq,c2,cm,bK,cw,bQ,rfl,aj,h1,U,ai,aL,eG,dt,dB,dT,er⟩:=h.form;have rq:=a6.scope.o1;refine bI E.xW ?_;refine bF ?_;simp -dsimp only[cu];refine ei ?_;intro w1 bz cK az al;refine ei ?_;intro aR b4 dw aA aI;simp -dsimp only[cu];refine ei ?_;intro ba bZ fG au bG;refine ei ?_;have zV:∀{w':World},Ext ba w'→Ext w w':=fun e=>((az.trans aA).trans au).trans e;have ch:∀w',Ext w w'→o.e2 w' [.slice cv m.scalars.length bN,.slice b9 m.vars.length c1,.slice cq m.aH.length c2,.slice cm m.procs.length bK,.slice none 0 0,.int .i64 0] (o.fI m):=fun w' e =>
  ⟨rq.1,_,_,_,_,_,rfl,aj.ext e,h1.ext e,U.ext e,ai.ext e,bB.nil,rq.2⟩
 refine K.hE [2,4,5] (fun _=>[]) (fun(x:List Value) w'=>Ext w w'∧Ext aR w'∧w'.heap[bZ]? = some (.cells x.toArray T.d)∧o.e2 w' x (o.gq m i)) ?_ ?_
 ·refine aa ?_;apply K.cond<;>intro g1;rotate_left
  ·refine aa ?_;exact⟨_,trivial,zV (Ext.refl _),au,bG,by rw[o.FZ (.inl (by omega))];exact ch _ (zV (Ext.refl _))⟩
  refine aa ?_;apply K.cond<;>intro g2;rotate_left
  ·refine aa ?_;exact⟨_,trivial,zV (Ext.refl _),au,bG,by rw[o.FZ (.inr (by omega))];exact ch _ (zV (Ext.refl _))⟩
  obtain⟨k,rfl⟩:=Int.eq_ofNat_of_zero_le (show 0≤i by omega);have hk:k<m.procs.length:=by omega
  obtain⟨a,rfl⟩:=ai.addr (by omega);obtain⟨ay,cr,dL,en,eJ,gX⟩:=ai.at k hk;obtain⟨eP,ff,rfl,_⟩:=eJ.form;obtain⟨_,_,rfl,_⟩:=gX.form;refine aa ?_;intro bo aP;have bJ:=aP.obj bG;refine aa ?_;refine K.call (RT m.procs[k] _ _ _ _ _ _ _ _ _ _ _ _ _ _ _ _ _ _ _ _ _ _ bo) ?_;rintro _ bR ⟨rfl,bf⟩;have cx:=bf.obj bJ;refine aa ?_;intro bW gd dm;refine aa ?_;have ud:=gd.ext (zV (aP.trans bf)) (by have:=az.size;have:=aA.size;omega);exact⟨_,trivial,ud,gd.ext ((au.trans aP).trans bf) fG,dm,by
   rw[o.Th hk];exact⟨(a6.scope.inner (a6.proc _ (List.getElem_mem hk))).o1.1,_,_,_,_,_,rfl,aj.ext ud,h1.ext ud,U.ext ud,ai.ext ud,eJ.ext ud,rq.2⟩⟩
 rintro x S bo ⟨AM,ED,bJ,aw⟩;have aI:=ED.obj aI;refine aa ?_;refine K.iZ (fZ bJ) ?_ ?_
 ·obtain⟨_,_,_,_,_,rfl,_⟩:=aw.ex;rfl
 refine aa ?_;refine K.call (Xp _ _ bo aw (a6.gq i)) ?_;rintro _ bR ⟨⟨hD,rfl,aN⟩,bf⟩;have cx:=bf.obj aI;obtain⟨Dv,d0,nm,d1,mG,d2,zO,d3,xt,d4,rfl,_⟩:=aN.here.form;refine aa ?_;intro bW gd dm;refine aa ?_
 have:=cL aI
 exact⟨⟨_,rfl,(aN.wr gd this).low AM.size⟩,gd.ext (AM.trans bf) (by have:=az.size;omega)⟩
theorem aeG{w0:World}(cs:List Value)(m:o.Model)(i:Int)(w:World)(h:o.ew w0 cs m)(du:Ext w0 w)(a6:m.cT) :
  bq Tryz.prog F.Ck #[.agg cs.toArray,.int .i64 i] w fun v w'=>(∃hD,v = .agg hD.toArray∧∀bY,Ext w0 bY→o.e2 bY hD (o.gq m i))∧Ext w w':=by
 obtain⟨cv,bN,b9,c1,cq,c2,cm,bK,cw,bQ,rfl,aj,h1,U,ai,aL,eG,dt,dB,dT,er⟩:=h.form;have rq:=a6.scope.o1;refine bI E.Ck ?_;refine bF ?_;refine aa ?_;intro w1 bz cK az al;refine aa ?_;intro aR b4 dw aA aI;have GN:∀{w':World},Ext aR w'→Ext w w':=fun e=>(az.trans aA).trans e;have Rg:∀{w':World},i<0∨(m.procs.length:Int)≤i→Ext w0 w'→o.e2 w' [.slice cv m.scalars.length bN,.slice b9 m.vars.length c1,.slice cq m.aH.length c2,.slice cm m.procs.length bK,.slice none 0 0,.int .i64 0] (o.gq m i):=fun {w'} ad e=>by
  rw[o.FZ ad];exact⟨rq.1,_,_,_,_,_,rfl,aj.ext e,h1.ext e,U.ext e,ai.ext e,bB.nil,rq.2⟩
 refine aa ?_;apply K.cond<;>intro g1
 ·refine aa ?_;intro ba eV bG;have sc:=eV.ext (GN (Ext.refl _)) (by have:=az.size;omega);refine aa ?_;exact⟨⟨_,rfl,fun bY e=>Rg (.inl g1) e⟩,sc⟩
 refine aa ?_;apply K.cond<;>intro g2
 ·refine aa ?_;intro ba eV bG;have sc:=eV.ext (GN (Ext.refl _)) (by have:=az.size;omega);refine aa ?_;exact⟨⟨_,rfl,fun bY e=>Rg (.inr g2) e⟩,sc⟩
 obtain⟨k,rfl⟩:=Int.eq_ofNat_of_zero_le (show 0≤i by omega);have hk:k<m.procs.length:=by omega
 obtain⟨a,rfl⟩:=ai.addr (by omega);obtain⟨ay,cr,dL,en,eJ,gX⟩:=ai.at k hk;obtain⟨eP,ff,rfl,_⟩:=eJ.form;obtain⟨_,_,rfl,_⟩:=gX.form;refine aa ?_;intro ba bZ fG au bG;have aI:=au.obj aI;refine aa ?_;intro bo ed bJ;have AM:=ed.ext (GN au) (by have:=az.size;omega);refine aa ?_;exact⟨⟨_,rfl,fun bY e=>by
  rw[o.Th hk];exact⟨(a6.scope.inner (a6.proc _ (List.getElem_mem hk))).o1.1,_,_,_,_,_,rfl,aj.ext e,h1.ext e,U.ext e,ai.ext e,eJ.ext e,rq.2⟩⟩,AM⟩
abbrev jM:=Option Addr×Nat×Nat
def Gc(x:jM):Value:=.slice x.1 x.2.1 x.2.2
def encS(x:ByteArray):List Value:=[.string x]
theorem XP(y:ByteArray):∀u∈encS y,u.oneCell'=true:=by
 intro u hu;simp only[encS,List.mem_cons,List.not_mem_nil,or_false] at hu;subst hu;rfl
abbrev xG(base:Nat)(w:World)(v:jM)(bX:List ByteArray):Prop:=bp encS T.h 1 base w (Gc v) bX
structure agL(m:o.Model):Prop where
 s:m.scalars.length≤20
 v:m.vars.length≤20
 c:m.aH.length≤20
 p:m.procs.length≤20
 q:m.props.length≤20
 i:∀(j:Nat) (h:j<m.procs.length),m.procs[j].vars.length≤20∧m.procs[j].cJ.length≤20
structure ix(w w':World)(bz:Nat)(cs:List Value)(v:jM)(bX:List ByteArray):Prop where
 ext:Ext w w'
 h1:w'.heap[bz]? = some (.cells cs.toArray T.b)
 own:xG w.heap.size w' v bX
theorem ix.then{w w' bY:World}{bz:Nat}{cs:List Value}{v:jM}{bX:List ByteArray}(h:ix w w' bz cs v bX)(he:Ext w' bY):ix w bY bz cs v bX:=⟨h.ext.trans he,he.obj h.h1,h.own.ext he⟩
theorem ix.grown{w w' bY:World}{bz:Nat}{cs:List Value}{v b3:jM}{bX l6:List ByteArray}(h:ix w w' bz cs v bX)(a6:w'.grownBy bY (Gc v).ownBlock)(a8:xG w.heap.size bY b3 l6):ix w bY bz cs b3 l6:=by
 refine⟨Ext.grown h.ext a6 fun k hk=>(h.own.lt k hk).1,?_,a8⟩;rw[a6.block bz (cL h.h1) fun e'=>?_]
 ·exact h.h1
 rcases h.own.2 with ⟨e,_⟩ | ⟨g,cap,c2,e,_,yB,_⟩
 ·rw[e] at e';cases e'
 ·rw[e] at e';simp only[Value.ownBlock,Option.some.injEq] at e';subst e'
  have:=h.h1.symm.trans yB
  injection this with this
  injection this with _ this
  revert this;decide
theorem ix.hA{w w':World}{bz:Nat}{cs:List Value}{v:jM}{bX l6:List ByteArray}(h:ix w w' bz cs v bX)(e:bX=l6):ix w w' bz cs v l6:=e ▸ h
theorem zG{α β:Type}(f:α→β)(pre:List β)(l:List α)(k:Nat)(h:k<l.length):pre++(l.take k).map f++[f l[k]]=pre++(l.take (k+1)).map f:=by
 rw[List.take_succ_eq_append_getElem h,List.map_append,←List.append_assoc];rfl
end Go.Proofs.R
end
section
namespace o
def cC(q p i:Int)(len:Nat):Nat:=if q<p then (if q+1<p then len else min len i.toNat) else 0
def gE(p i:Int)(len:Nat):Nat:=if 4<p then min len i.toNat else 0
def r2(m:Model)(p i:Int):List ByteArray :=
 m.scalars.map (·.name)++(m.vars.take (cC 1 p i m.vars.length)).map (·.name)++(m.aH.take (cC 2 p i m.aH.length)).map (·.name)++(m.procs.take (cC 3 p i m.procs.length)).map (·.name)++(m.props.take (gE p i m.props.length)).map (·.name)
end o
namespace Go.Proofs.R
open Go Go.RowKit bt
theorem Ar{P:Program}{v:jM}{bX:List ByteArray}{x:ByteArray}{b c base:Nat}{w:World}{cY:Value→World→Prop}{ty:TypeId}{t}(h:xG base w v bX)(av:w.heap[b]? = some (.cells #[.string x] T.h))(hm:bX.length+1≤8796093022208)(iB:base≤w.heap.size)
  (hk:∀(b3:jM) w',xG base w' b3 (bX++[x])→w.grownBy w' (Gc v).ownBlock→cY (.slice b3.1 b3.2.1 b3.2.2) w'):j5 P ty T.h 1 16 (.slice v.1 v.2.1 v.2.2) (.slice (some ⟨b,0,none⟩) 1 c) w cY t:=by
 have oY:(bX.length+1)*16≤140737488355328:=by omega
 have rH:bX.length+1≤maxLen:=by unfold maxLen;omega
 refine K.qZ (b:=16) (s:=Gc v) (ys:=[x]) h (fun _=>rfl) (fZ av) rfl XP oY rH iB fun b3 w' a8 a6=>?_;obtain⟨bh,cap,rfl,_⟩:=a8.form;exact hk (bh,_,cap) w' a8 a6
theorem An(cs:List Value)(m:o.Model)(p i:Int)(w:World)(h:o.ew w cs m)(aO:2≤p)(ad:0≤i)(aQ:m.scalars.length+o.cC 1 p i m.vars.length+o.cC 2 p i m.aH.length+o.cC 3 p i m.procs.length+o.gE p i m.props.length≤8000000000000) :
  bq Tryz.prog F.sY #[.agg cs.toArray,.int .i64 p,.int .i64 i] w fun u w'=>(∃v:jM,u = .slice v.1 v.2.1 v.2.2∧xG w.heap.size w' v (o.r2 m p i))∧Ext w w':=by
 obtain⟨cv,bN,b9,c1,cq,c2,cm,bK,cw,bQ,rfl,aj,h1,U,ai,aL,eG,dt,dB,dT,er⟩:=h.form;refine bI E.sY ?_;refine bF ?_;simp -dsimp only[cu];refine ei ?_;intro w1 bz cK az al;have rL:ix w w1 bz _ (none,0,0) []:=⟨az,al,bp.nil _ _ _ _ _⟩;clear al;refine ei ?_;simp -dsimp only[cu];refine ei ?_;refine K.hE [1,2,3] (fun v:jM=>[(7,.slice v.1 v.2.1 v.2.2)]) (fun v w'=>ix w w' bz [.slice cv m.scalars.length bN,.slice b9 m.vars.length c1,.slice cq m.aH.length c2,.slice cm m.procs.length bK,.slice cw m.props.length bQ] v (([]:List ByteArray)++(m.scalars.map (·.name)))) ?_ ?_
 ·have fQ:m.scalars.length≤m.scalars.length:=by exact Nat.le_refl _
  have du:=rL.ext;have f0:=rL.h1;refine aa ?_;refine K.da 8 (m.scalars.length) [1,2,3] (fun v:jM=>[(7,.slice v.1 v.2.1 v.2.2)]) ((none,0,0):jM) (fun k v w'=>ix w w' bz [.slice cv m.scalars.length bN,.slice b9 m.vars.length c1,.slice cq m.aH.length c2,.slice cm m.procs.length bK,.slice cw m.props.length bQ] v (([]:List ByteArray)++(m.scalars.take k).map (·.name))) bw bw (rL.hA (by simp)) ?_;clear du f0;rintro k j4 S oc hk jb;have mU:=jb.ext;have EO:=jb.h1;have fin:k=m.scalars.length→ix w oc bz [.slice cv m.scalars.length bN,.slice b9 m.vars.length c1,.slice cq m.aH.length c2,.slice cm m.procs.length bK,.slice cw m.props.length bQ] j4 (([]:List ByteArray)++(m.scalars.map (·.name))):=fun e=>jb.hA (by rw[e];simp);refine K.hE [1,2,3,7,8] (fun _:Unit=>[]) (fun _ w'=>w'=oc∧k<m.scalars.length) ?_ ?_
  ·refine aa ?_;apply K.cond<;>intro g1
   ·refine aa ?_;exact⟨(),trivial,bu,by omega⟩
   ·refine aa ?_;exact⟨j4,bw,fin (by omega)⟩
  rintro _ lN _ ⟨rfl,sC⟩;have bb:k<m.scalars.length:=by omega
  obtain⟨a,rfl⟩:=aj.addr (by omega);have eu:=((aj.at k bb).cells).ext mU;refine aa ?_;intro xq Ei EX oH ri;have kx:=jb.then oH;have z:=kx.ext.size;refine aa ?_;refine Ar kx.own ri (by simp only[List.length_append,List.length_map,List.length_nil,List.length_cons,List.length_take];omega) z fun tp zM sF sy=>?_;have tj:=(kx.grown sy sF).hA (zG (fun x:o.Scalar=>x.name) _ _ _ bb);refine aa ?_;exact⟨sC,bu,tp,bw,tj⟩
 clear rL;rintro v1 Aj aR st1;have lC:=st1.ext;have f1:=st1.h1;refine K.hE [1,2,3] (fun v:jM=>[(7,.slice v.1 v.2.1 v.2.2)]) (fun v w'=>ix w w' bz [.slice cv m.scalars.length bN,.slice b9 m.vars.length c1,.slice cq m.aH.length c2,.slice cm m.procs.length bK,.slice cw m.props.length bQ] v (([]++(m.scalars.map (·.name)))++((m.vars.take (o.cC 1 p i m.vars.length)).map (·.name)))) ?_ ?_
 ·have fQ:o.cC 1 p i m.vars.length≤m.vars.length:=by unfold o.cC; (repeat' split)<;>omega
  have du:=st1.ext;have f0:=st1.h1;refine aa ?_;refine K.da 9 (o.cC 1 p i m.vars.length) [1,2,3] (fun v:jM=>[(7,.slice v.1 v.2.1 v.2.2)]) v1 (fun k v w'=>ix w w' bz [.slice cv m.scalars.length bN,.slice b9 m.vars.length c1,.slice cq m.aH.length c2,.slice cm m.procs.length bK,.slice cw m.props.length bQ] v (([]++(m.scalars.map (·.name)))++(m.vars.take k).map (·.name))) bw bw (st1.hA (by simp)) ?_;clear du f0;rintro k j4 S oc hk jb;have mU:=jb.ext;have EO:=jb.h1;have fin:k=o.cC 1 p i m.vars.length→ix w oc bz [.slice cv m.scalars.length bN,.slice b9 m.vars.length c1,.slice cq m.aH.length c2,.slice cm m.procs.length bK,.slice cw m.props.length bQ] j4 (([]++(m.scalars.map (·.name)))++((m.vars.take (o.cC 1 p i m.vars.length)).map (·.name))):=fun e=>jb.hA (by rw[e]);refine K.hE [1,2,3,7,9] (fun _:Unit=>[]) (fun _ w'=>w'=oc∧k<o.cC 1 p i m.vars.length) ?_ ?_
  ·refine aa ?_;apply K.cond<;>intro g1
   ·refine aa ?_;apply K.cond<;>intro g3
    ·refine aa ?_;exact⟨(),trivial,bu,by unfold o.cC at fQ hk ⊢; (repeat' split at hk) <;> (repeat' split)<;>omega⟩
    ·refine aa ?_;apply K.cond<;>intro g4
     ·refine aa ?_;exact⟨(),trivial,bu,by unfold o.cC at fQ hk ⊢; (repeat' split at hk) <;> (repeat' split)<;>omega⟩
     ·refine aa ?_;exact⟨j4,bw,fin (by unfold o.cC at fQ hk ⊢; (repeat' split at hk) <;> (repeat' split)<;>omega)⟩
   ·refine aa ?_;exact⟨j4,bw,fin (by unfold o.cC at fQ hk ⊢; (repeat' split at hk) <;> (repeat' split)<;>omega)⟩
  rintro _ lN _ ⟨rfl,sC⟩;have bb:k<m.vars.length:=by omega
  obtain⟨a,rfl⟩:=h1.addr (by omega);have eu:=((h1.at k bb).cells).ext mU;refine aa ?_;intro xq Ei EX oH ri;have kx:=jb.then oH;have z:=kx.ext.size;refine aa ?_;refine Ar kx.own ri (by simp only[List.length_append,List.length_map,List.length_nil,List.length_cons,List.length_take];omega) z fun tp zM sF sy=>?_;have tj:=(kx.grown sy sF).hA (zG (fun x:o.Var=>x.name) _ _ _ bb);refine aa ?_;exact⟨sC,bu,tp,bw,tj⟩
 clear st1;rintro v2 lN ba st2;have lD:=st2.ext;have f2:=st2.h1;refine K.hE [1,2,3] (fun v:jM=>[(7,.slice v.1 v.2.1 v.2.2)]) (fun v w'=>ix w w' bz [.slice cv m.scalars.length bN,.slice b9 m.vars.length c1,.slice cq m.aH.length c2,.slice cm m.procs.length bK,.slice cw m.props.length bQ] v ((([]++(m.scalars.map (·.name)))++((m.vars.take (o.cC 1 p i m.vars.length)).map (·.name)))++((m.aH.take (o.cC 2 p i m.aH.length)).map (·.name)))) ?_ ?_
 ·have fQ:o.cC 2 p i m.aH.length≤m.aH.length:=by unfold o.cC; (repeat' split)<;>omega
  have du:=st2.ext;have f0:=st2.h1;refine aa ?_;refine K.da 10 (o.cC 2 p i m.aH.length) [1,2,3] (fun v:jM=>[(7,.slice v.1 v.2.1 v.2.2)]) v2 (fun k v w'=>ix w w' bz [.slice cv m.scalars.length bN,.slice b9 m.vars.length c1,.slice cq m.aH.length c2,.slice cm m.procs.length bK,.slice cw m.props.length bQ] v ((([]++(m.scalars.map (·.name)))++((m.vars.take (o.cC 1 p i m.vars.length)).map (·.name)))++(m.aH.take k).map (·.name))) bw bw (st2.hA (by simp)) ?_;clear du f0;rintro k j4 S oc hk jb;have mU:=jb.ext;have EO:=jb.h1;have fin:k=o.cC 2 p i m.aH.length→ix w oc bz [.slice cv m.scalars.length bN,.slice b9 m.vars.length c1,.slice cq m.aH.length c2,.slice cm m.procs.length bK,.slice cw m.props.length bQ] j4 ((([]++(m.scalars.map (·.name)))++((m.vars.take (o.cC 1 p i m.vars.length)).map (·.name)))++((m.aH.take (o.cC 2 p i m.aH.length)).map (·.name))):=fun e=>jb.hA (by rw[e]);refine K.hE [1,2,3,7,10] (fun _:Unit=>[]) (fun _ w'=>w'=oc∧k<o.cC 2 p i m.aH.length) ?_ ?_
  ·refine aa ?_;apply K.cond<;>intro g1
   ·refine aa ?_;apply K.cond<;>intro g2
    ·refine aa ?_;apply K.cond<;>intro g3
     ·refine aa ?_;exact⟨(),trivial,bu,by unfold o.cC at fQ hk ⊢; (repeat' split at hk) <;> (repeat' split)<;>omega⟩
     ·refine aa ?_;apply K.cond<;>intro g4
      ·refine aa ?_;exact⟨(),trivial,bu,by unfold o.cC at fQ hk ⊢; (repeat' split at hk) <;> (repeat' split)<;>omega⟩
      ·refine aa ?_;exact⟨j4,bw,fin (by unfold o.cC at fQ hk ⊢; (repeat' split at hk) <;> (repeat' split)<;>omega)⟩
    ·refine aa ?_;exact⟨j4,bw,fin (by unfold o.cC at fQ hk ⊢; (repeat' split at hk) <;> (repeat' split)<;>omega)⟩
   ·refine aa ?_;exact⟨j4,bw,fin (by unfold o.cC at fQ hk ⊢; (repeat' split at hk) <;> (repeat' split)<;>omega)⟩
  rintro _ lN _ ⟨rfl,sC⟩;have bb:k<m.aH.length:=by omega
  obtain⟨a,rfl⟩:=U.addr (by omega);have eu:=((U.at k bb).cells).ext mU;refine aa ?_;intro xq Ei EX oH ri;have kx:=jb.then oH;have z:=kx.ext.size;refine aa ?_;refine Ar kx.own ri (by simp only[List.length_append,List.length_map,List.length_nil,List.length_cons,List.length_take];omega) z fun tp zM sF sy=>?_;have tj:=(kx.grown sy sF).hA (zG (fun x:o.c4=>x.name) _ _ _ bb);refine aa ?_;exact⟨sC,bu,tp,bw,tj⟩
 clear st2;rintro v3 Vq bo j2;have ma:=j2.ext;have f3:=j2.h1;refine K.hE [1,2,3] (fun v:jM=>[(7,.slice v.1 v.2.1 v.2.2)]) (fun v w'=>ix w w' bz [.slice cv m.scalars.length bN,.slice b9 m.vars.length c1,.slice cq m.aH.length c2,.slice cm m.procs.length bK,.slice cw m.props.length bQ] v (((([]++(m.scalars.map (·.name)))++((m.vars.take (o.cC 1 p i m.vars.length)).map (·.name)))++((m.aH.take (o.cC 2 p i m.aH.length)).map (·.name)))++((m.procs.take (o.cC 3 p i m.procs.length)).map (·.name)))) ?_ ?_
 ·have fQ:o.cC 3 p i m.procs.length≤m.procs.length:=by unfold o.cC; (repeat' split)<;>omega
  have du:=j2.ext;have f0:=j2.h1;refine aa ?_;refine K.da 11 (o.cC 3 p i m.procs.length) [1,2,3] (fun v:jM=>[(7,.slice v.1 v.2.1 v.2.2)]) v3 (fun k v w'=>ix w w' bz [.slice cv m.scalars.length bN,.slice b9 m.vars.length c1,.slice cq m.aH.length c2,.slice cm m.procs.length bK,.slice cw m.props.length bQ] v (((([]++(m.scalars.map (·.name)))++((m.vars.take (o.cC 1 p i m.vars.length)).map (·.name)))++((m.aH.take (o.cC 2 p i m.aH.length)).map (·.name)))++(m.procs.take k).map (·.name))) bw bw (j2.hA (by simp)) ?_;clear du f0;rintro k j4 S oc hk jb;have mU:=jb.ext;have EO:=jb.h1;have fin:k=o.cC 3 p i m.procs.length→ix w oc bz [.slice cv m.scalars.length bN,.slice b9 m.vars.length c1,.slice cq m.aH.length c2,.slice cm m.procs.length bK,.slice cw m.props.length bQ] j4 (((([]++(m.scalars.map (·.name)))++((m.vars.take (o.cC 1 p i m.vars.length)).map (·.name)))++((m.aH.take (o.cC 2 p i m.aH.length)).map (·.name)))++((m.procs.take (o.cC 3 p i m.procs.length)).map (·.name))):=fun e=>jb.hA (by rw[e]);refine K.hE [1,2,3,7,11] (fun _:Unit=>[]) (fun _ w'=>w'=oc∧k<o.cC 3 p i m.procs.length) ?_ ?_
  ·refine aa ?_;apply K.cond<;>intro g1
   ·refine aa ?_;apply K.cond<;>intro g2
    ·refine aa ?_;apply K.cond<;>intro g3
     ·refine aa ?_;exact⟨(),trivial,bu,by unfold o.cC at fQ hk ⊢; (repeat' split at hk) <;> (repeat' split)<;>omega⟩
     ·refine aa ?_;apply K.cond<;>intro g4
      ·refine aa ?_;exact⟨(),trivial,bu,by unfold o.cC at fQ hk ⊢; (repeat' split at hk) <;> (repeat' split)<;>omega⟩
      ·refine aa ?_;exact⟨j4,bw,fin (by unfold o.cC at fQ hk ⊢; (repeat' split at hk) <;> (repeat' split)<;>omega)⟩
    ·refine aa ?_;exact⟨j4,bw,fin (by unfold o.cC at fQ hk ⊢; (repeat' split at hk) <;> (repeat' split)<;>omega)⟩
   ·refine aa ?_;exact⟨j4,bw,fin (by unfold o.cC at fQ hk ⊢; (repeat' split at hk) <;> (repeat' split)<;>omega)⟩
  rintro _ lN _ ⟨rfl,sC⟩;have bb:k<m.procs.length:=by omega
  obtain⟨a,rfl⟩:=ai.addr (by omega);obtain⟨_,cr,dL,eu,eJ,en⟩:=ai.at k bb;obtain⟨eP,ff,rfl,fH⟩:=eJ.form;obtain⟨n2,jO,rfl,lc⟩:=en.form;replace eu:=eu.ext mU;refine aa ?_;intro xq Ei EX oH ri;have kx:=jb.then oH;have z:=kx.ext.size;refine aa ?_;refine Ar kx.own ri (by simp only[List.length_append,List.length_map,List.length_nil,List.length_cons,List.length_take];omega) z fun tp zM sF sy=>?_;have tj:=(kx.grown sy sF).hA (zG (fun x:o.dj=>x.name) _ _ _ bb);refine aa ?_;exact⟨sC,bu,tp,bw,tj⟩
 clear j2;rintro v4 pZ bR jy;have lE:=jy.ext;have f4:=jy.h1;refine K.hE [1,2,3] (fun v:jM=>[(7,.slice v.1 v.2.1 v.2.2)]) (fun v w'=>ix w w' bz [.slice cv m.scalars.length bN,.slice b9 m.vars.length c1,.slice cq m.aH.length c2,.slice cm m.procs.length bK,.slice cw m.props.length bQ] v ((((([]++(m.scalars.map (·.name)))++((m.vars.take (o.cC 1 p i m.vars.length)).map (·.name)))++((m.aH.take (o.cC 2 p i m.aH.length)).map (·.name)))++((m.procs.take (o.cC 3 p i m.procs.length)).map (·.name)))++((m.props.take (o.gE p i m.props.length)).map (·.name)))) ?_ ?_
 ·have fQ:o.gE p i m.props.length≤m.props.length:=by unfold o.gE; (repeat' split)<;>omega
  have du:=jy.ext;have f0:=jy.h1;refine aa ?_;refine K.da 12 (o.gE p i m.props.length) [1,2,3] (fun v:jM=>[(7,.slice v.1 v.2.1 v.2.2)]) v4 (fun k v w'=>ix w w' bz [.slice cv m.scalars.length bN,.slice b9 m.vars.length c1,.slice cq m.aH.length c2,.slice cm m.procs.length bK,.slice cw m.props.length bQ] v ((((([]++(m.scalars.map (·.name)))++((m.vars.take (o.cC 1 p i m.vars.length)).map (·.name)))++((m.aH.take (o.cC 2 p i m.aH.length)).map (·.name)))++((m.procs.take (o.cC 3 p i m.procs.length)).map (·.name)))++(m.props.take k).map (·.name))) bw bw (jy.hA (by simp)) ?_;clear du f0;rintro k j4 S oc hk jb;have mU:=jb.ext;have EO:=jb.h1;have fin:k=o.gE p i m.props.length→ix w oc bz [.slice cv m.scalars.length bN,.slice b9 m.vars.length c1,.slice cq m.aH.length c2,.slice cm m.procs.length bK,.slice cw m.props.length bQ] j4 ((((([]++(m.scalars.map (·.name)))++((m.vars.take (o.cC 1 p i m.vars.length)).map (·.name)))++((m.aH.take (o.cC 2 p i m.aH.length)).map (·.name)))++((m.procs.take (o.cC 3 p i m.procs.length)).map (·.name)))++((m.props.take (o.gE p i m.props.length)).map (·.name))):=fun e=>jb.hA (by rw[e]);refine K.hE [1,2,3,7,12] (fun _:Unit=>[]) (fun _ w'=>w'=oc∧k<o.gE p i m.props.length) ?_ ?_
  ·refine aa ?_;apply K.cond<;>intro g1
   ·refine aa ?_;apply K.cond<;>intro g2
    ·refine aa ?_;apply K.cond<;>intro g4
     ·refine aa ?_;exact⟨(),trivial,bu,by unfold o.gE at fQ hk ⊢; (repeat' split at hk) <;> (repeat' split)<;>omega⟩
     ·refine aa ?_;exact⟨j4,bw,fin (by unfold o.gE at fQ hk ⊢; (repeat' split at hk) <;> (repeat' split)<;>omega)⟩
    ·refine aa ?_;exact⟨j4,bw,fin (by unfold o.gE at fQ hk ⊢; (repeat' split at hk) <;> (repeat' split)<;>omega)⟩
   ·refine aa ?_;exact⟨j4,bw,fin (by unfold o.gE at fQ hk ⊢; (repeat' split at hk) <;> (repeat' split)<;>omega)⟩
  rintro _ lN _ ⟨rfl,sC⟩;have bb:k<m.props.length:=by omega
  obtain⟨a,rfl⟩:=aL.addr (by omega);obtain⟨_,hg,eu,il⟩:=aL.at k bb;obtain⟨S0,ce,rfl,le⟩:=il.form;replace eu:=eu.ext mU;refine aa ?_;intro xq Ei EX oH ri;have kx:=jb.then oH;have z:=kx.ext.size;refine aa ?_;refine Ar kx.own ri (by simp only[List.length_append,List.length_map,List.length_nil,List.length_cons,List.length_take];omega) z fun tp zM sF sy=>?_;have tj:=(kx.grown sy sF).hA (zG (fun x:o.kb=>x.name) _ _ _ bb);refine aa ?_;exact⟨sC,bu,tp,bw,tj⟩
 clear jy;rintro v5 pb bW gJ;have GC:=gJ.ext;have f5:=gJ.h1;refine aa ?_;refine⟨⟨v5,bu,?_⟩,GC⟩
 have:=gJ.own
 simp only[List.nil_append] at this;exact this
theorem A8(v:jM)(l:List ByteArray)(x:ByteArray)(base:Nat)(w:World)(h:xG base w v l) :
  bq Tryz.prog F.sZ #[.slice v.1 v.2.1 v.2.2,.string x] w fun u w'=>u = .bool (decide (x∈l))∧w'=w:=by
 have ay:bB 1 (Flat encS) w (.slice v.1 v.2.1 v.2.2) l:=bp.o0 (enc:=encS) (fun _=>rfl) h;obtain⟨v0,v1,v2⟩:=v;obtain⟨bT,bg,bO⟩:=bB.len ay;have Pp:=bO;unfold maxLen at Pp;dsimp only at bT bg Pp ay;subst bT;refine bI E.sZ ?_;refine bF ?_;refine aa ?_;refine K.da 5 l.length [0,1] (fun _:Unit=>[]) () (fun k _ w'=>w'=w∧∀j (aT:j<l.length),j<k→¬l[j]=x) bw bw ⟨rfl,fun j _ h=>absurd h (Nat.not_lt_zero _)⟩ ?_;rintro k _ S _ hk ⟨rfl,bU⟩;refine aa ?_;apply K.cond<;>intro g1
 ·have bb:k<l.length:=by omega
  obtain⟨a,rfl⟩:=ay.addr (by omega);refine aa ?_;apply K.cond<;>intro g2
  ·have hm:x∈l:=by rw[←g2];exact List.getElem_mem _
   refine aa ?_;exact⟨by rw[decide_eq_true hm],bu⟩
  ·refine aa ?_;exact⟨bb,bu,(),trivial,bu,fun j aT hs=>by
    by_cases e:j=k
    ·subst e;exact g2
    ·exact bU j aT (by omega)⟩
 ·have hm:¬x∈l:=fun aw=>by
   obtain⟨j,aT,e⟩:=List.mem_iff_getElem.1 aw;exact bU j aT (by omega) e
  refine aa ?_;exact⟨by rw[decide_eq_false hm],bu⟩
end Go.Proofs.R
end
section
set_option linter.unusedSimpArgs false
namespace Go.Proofs.R
open Go Go.RowKit bt
theorem Sw(n:Int)(w:World):bq Tryz.prog F.dv #[.int .i32 n] w fun v w'=>v = .bool (o.letter n)∧w'=w:=by
 refine bI E.dv ?_;refine bF ?_
 (repeat' first
  | (refine K.cond (fun _=>?_) (fun _=>?_)<;>try (exfalso;omega))
  | (refine K.cX (fun _=>?_) (fun _=>?_))
  | (refine K.wrap (by omega) ?_)
  | (refine K.ld (by assumption) ?_)
  | (refine K.hv (by omega) ?_)
  | simp -dsimp only[cI,cu,Nat.reduceAdd,Nat.reduceEqDiff,reduceIte,reduceCtorEq,cS])
 all_goals (refine⟨?_,by first | rfl | trivial⟩;congr 1;rw[Bool.eq_iff_iff];simp[o.letter];omega)
theorem Xx(n:Int)(w:World):bq Tryz.prog F.el #[.int .i32 n] w fun v w'=>v = .bool (o.digit n)∧w'=w:=by
 refine bI E.el ?_;refine bF ?_
 (repeat' first
  | (refine K.cond (fun _=>?_) (fun _=>?_)<;>try (exfalso;omega))
  | (refine K.cX (fun _=>?_) (fun _=>?_))
  | (refine K.wrap (by omega) ?_)
  | (refine K.ld (by assumption) ?_)
  | (refine K.hv (by omega) ?_)
  | simp -dsimp only[cI,cu,Nat.reduceAdd,Nat.reduceEqDiff,reduceIte,reduceCtorEq,cS])
 all_goals (refine⟨?_,by first | rfl | trivial⟩;congr 1;rw[Bool.eq_iff_iff];simp[o.digit];omega)
theorem adJ(n:Int)(w:World):bq Tryz.prog F.x7 #[.int .i32 n] w fun v w'=>v = .bool (o.part n)∧w'=w:=by
 refine bI E.x7 ?_;refine bF ?_;refine aS ?_;refine K.call (Sw n w) ?_;rintro _ _ ⟨rfl,rfl⟩;refine aS ?_;refine K.cX (fun h1=>?_) (fun h1=>?_)
 ·refine aS ?_;refine⟨?_,by first | rfl | trivial⟩;congr 1;simp[o.part,h1]
 ·refine aS ?_;refine K.call (Xx n _) ?_;rintro _ _ ⟨rfl,rfl⟩;refine aS ?_;refine K.cX (fun U=>?_) (fun U=>?_)
  ·refine aS ?_;refine⟨?_,by first | rfl | trivial⟩;congr 1;simp[o.part,U]
  ·refine aS ?_;refine⟨?_,by first | rfl | trivial⟩;congr 1;simp[o.part,h1,U]
def R7(w:World)(b:Nat):Nat:=match w.heap[b]? with | some (.stringIter s pos)=>s.size - pos | _=>0
theorem acD(s:ByteArray)(p:Int→Bool)(aO:∀r,128≤r→p r=false)(f:FuncId)(aJ:okF Tryz.prog f=true)(w:World)
  (av:∀(r:Int) (w':World),Ext w w'→bq Tryz.prog f #[.int .i32 r] w' fun v bY=>v = .bool (p r)∧Ext w' bY) :
  bq Tryz.prog F.d4 #[.string s,.func (.func f) #[] #[]] w fun v w'=>v = .int .i64 (o.run p s)∧Ext w w':=by
 refine bI E.d4 ?_;refine bF ?_;refine aS ?_;refine K.u6 fun w1 b aD az aac=>?_;refine aS ?_;refine K.loop (fun S w' => ∃pos,pos≤s.size∧(∀j (aT:j<s.size),j<pos→p s[j].toNat=true)∧w'.heap[b]? = some (.stringIter s pos)∧Ext w w')
  (fun _ w'=>R7 w' b) ⟨0,Nat.zero_le _,fun _ _ h=>absurd h (Nat.not_lt_zero _),aac,az⟩ ?_
 rintro S w' ch ⟨pos,ah7,c8,nO,he⟩;have aj:=ch 0 rfl;have h1:=ch 1 rfl;have dA:=ch 8 rfl;simp only[cb,Nat.reduceAdd,Nat.reduceEqDiff,reduceIte,ij,k7] at aj h1 dA;clear ch;refine b2 (And.intro aj (And.intro h1 dA)) ?_;refine K.u4 nO (fun ck=>?_) (fun Z8=>?_)
 ·have bs:=o.Xu aO s pos ck;have ay:(e1 w' b (.stringIter s (pos+(Utf8.decode s pos).2))).heap[b]? = some (.stringIter s (pos+(Utf8.decode s pos).2)):=zD (cL nO);have aA:Ext w (e1 w' b (.stringIter s (pos+(Utf8.decode s pos).2))):=he.e1 aD _;generalize e1 w' b (.stringIter s (pos+(Utf8.decode s pos).2))=aR at ay aA;refine b2 (And.intro aj (And.intro h1 dA)) ?_;refine K.pg (first:=[]) (cap:=[]) aJ (av _ _ aA) ?_;rintro _ ba ⟨rfl,au⟩;refine b2 (And.intro aj (And.intro h1 dA)) ?_;refine K.cX (fun aD=>?_) (fun aD=>?_)
  ·refine aS ?_;rw[bs.1] at aD;have hw:=bs.2 aD;rw[hw] at ay;refine⟨⟨pos+1,by omega,fun j aT ahU=>?_,au.obj ay,aA.trans au⟩,?_⟩
   ·by_cases h:j<pos
    ·exact c8 j aT h
    ·have:j=pos:=by omega
     subst this;exact aD
   ·simp only[R7,au.obj ay,nO];omega
  ·refine aS ?_;rw[bs.1] at aD;refine⟨?_,aA.trans au⟩;rw[o.TY p s pos ck (fun j aT=>c8 j (by omega) aT) aD]
 ·refine b2 (And.intro aj (And.intro h1 dA)) ?_;refine⟨?_,he⟩;rw[o.TS p s (fun j aT=>c8 j aT (by omega))]
def h9(w:World):Prop:=fb w ⟨G.Sx,0,none⟩ (o.oT.map Value.string)
theorem h9.ext{w w':World}(he:Ext w w')(h:h9 w):h9 w':=fb.ext he h
theorem FT(s:ByteArray)(w:World)(a8:h9 w)(ay:s.size≤9223372036854775807) :
  bq Tryz.prog F.t #[.string s] w fun v w'=>v = .bool (o.isName s)∧Ext w w':=by
 refine bI E.t ?_;refine bF ?_;refine aS ?_;refine K.cond (fun aj=>?_) (fun aj=>?_)
 ·refine aS ?_;refine⟨?_,Ext.refl w⟩;subst aj;rfl
 have bU:s.size≠0:=fun h=>aj (by
  cases s with | mk d =>
  have:d=#[]:=by simpa[ByteArray.size] using h
  rw[this])
 refine aS ?_;refine K.cond (fun h1=>?_) (fun h1=>?_)
 ·refine aS ?_;refine⟨?_,Ext.refl w⟩
  have:¬s.size≤16:=by omega
  simp[o.isName,this]
 have qg:s.size≤16:=by omega
 refine aS ?_;refine K.kr (s.get! 0) (by decide) (o.get?_eq s 0 (by omega)) ?_;refine aS ?_;have aD:(s.get! 0).toNat<256:=UInt8.toNat_lt _;refine K.agz (IntWalk.i32_in _ (by omega)) ?_;refine aS ?_;refine K.call (Sw _ w) ?_;rintro _ _ ⟨rfl,rfl⟩;refine aS ?_;refine K.cX (fun U=>?_) (fun U=>?_);rotate_left
 ·refine aS ?_;refine⟨?_,Ext.refl _⟩;have H9:o.letter (o.p9 s 0:Nat)=false:=U;simp[o.isName,H9]
 refine aS ?_;refine K.call (acD s o.part o.adI F.x7 (by kernel_rfl) _ fun r w' _=>(adJ r w').mono fun v bY ⟨ai,aL⟩=>⟨ai,aL ▸ Ext.refl _⟩) ?_;rintro _ aR ⟨rfl,he⟩;refine aS ?_;refine K.cond (fun ai=>?_) (fun ai=>?_)
 ·refine aS ?_;refine⟨?_,he⟩;have Ia:¬o.run o.part s=s.size:=by omega
  simp[o.isName,Ia]
 have Ia:o.run o.part s=s.size:=by have:=o.ae4 o.part s;omega
 have H9:o.letter (o.p9 s 0:Nat)=true:=U;have Ro:o.isName s = !decide (s∈o.oT):=by simp[o.isName,Ia,H9,qg,bU]
 refine aS ?_;refine K.iZ (a8.ext he) rfl ?_;refine aS ?_;refine K.loop (fun S w' => ∃i:Nat,i≤4∧S 27 = .int .i64 i∧(∀j (aT:j<o.oT.length),j<i→o.oT[j]≠s)∧Ext aR w')
  (fun S _=>(4 - intOf (S 27)).toNat) ⟨0,by omega,by refine aS ?_;rfl,fun _ _ h=>absurd h (Nat.not_lt_zero _),Ext.refl _⟩ ?_
 rintro S w' ch ⟨i,ad,mn,c8,aA⟩;have aj:=ch 0 rfl;have la:=ch 26 rfl;simp only[cb,Nat.reduceAdd,Nat.reduceEqDiff,reduceIte,ij,k7] at aj la;clear ch;refine b2 (And.intro aj (And.intro la mn)) ?_;refine K.cond (fun aL=>?_) (fun aL=>?_)
 ·refine b2 (And.intro aj (And.intro la mn)) ?_;have aaa:i<o.oT.length:=by simp[o.oT];omega
  refine K.uP (.string o.oT[i]) (by omega) (by simp[List.getElem?_map,aaa]) ?_;refine b2 (And.intro aj (And.intro la mn)) ?_;refine K.cond (fun bn=>?_) (fun bn=>?_)
  ·refine aS ?_;refine⟨?_,he.trans aA⟩;rw[Ro]
   have:s∈o.oT:=bn ▸ List.getElem_mem _
   simp[this]
  ·refine b2 (And.intro aj (And.intro la mn)) ?_;refine K.wrap (by omega) ?_;refine b2 (And.intro aj (And.intro la mn)) ?_;refine⟨⟨i+1,by omega,rfl,fun j aT gm=>?_,aA⟩,by simp[intOf];omega⟩;by_cases h:j<i
   ·exact c8 j aT h
   ·have:j=i:=by omega
    subst this;exact bn
 ·refine b2 (And.intro aj (And.intro la mn)) ?_;refine⟨?_,he.trans aA⟩;rw[Ro]
  have:s∉o.oT:=fun hm=>by
   obtain⟨j,aT,he⟩:=List.mem_iff_getElem.1 hm;exact c8 j aT (by have:o.oT.length=4:=rfl;omega) he
  simp[this]
end Go.Proofs.R
end
section
set_option linter.unusedSimpArgs false
namespace Go.Proofs.R
open Go Go.RowKit bt
theorem SP(aZ ad:Int)(w:World):bq Tryz.prog F.x4 #[.int .i64 aZ,.int .i64 ad] w fun v w'=>v = .bool (o.narrow aZ ad)∧w'=w:=by
 refine bI E.x4 ?_;refine bF ?_
 (repeat' first
  | (refine K.cond (fun _=>?_) (fun _=>?_)<;>try (exfalso;omega))
  | (refine K.cX (fun _=>?_) (fun _=>?_))
  | (refine K.wrap (by omega) ?_)
  | (refine K.ld (by assumption) ?_)
  | (refine K.hv (by omega) ?_)
  | simp -dsimp only[cI,cu,Nat.reduceAdd,Nat.reduceEqDiff,reduceIte,reduceCtorEq,cS])
 all_goals (refine⟨?_,by first | rfl | trivial⟩;congr 1;rw[Bool.eq_iff_iff];simp[o.narrow];omega)
theorem Ub{k:Int}{l:List o.Scalar}(h1:1≤k)(U:k≤l.length):o.size k l=if 1≤(l[k.toNat - 1]'(by omega)).size∧(l[k.toNat - 1]'(by omega)).size≤4 then (l[k.toNat - 1]'(by omega)).size else 0:=by
 have e:(k - 1).toNat=k.toNat - 1:=by omega
 have ck:k.toNat - 1<l.length:=by omega
 simp only[o.size,e,List.getElem?_eq_getElem ck,h1,true_and]
theorem F9{k:Int}{l:List o.Scalar}(h:k<1∨l.length<k):o.size k l=0:=by
 unfold o.size;split
 ·rename_i x aw;rw[if_neg];rintro⟨h1,_⟩
  have:=(List.getElem?_eq_some_iff.1 aw).1
  omega
 ·rfl
theorem KM(k:Int)(v:Value)(l:List o.Scalar)(w:World)(aQ:o.fY w v l) :
  bq Tryz.prog F.ic #[.int .i64 k,v] w fun v w'=>v = .tuple #[.int .i64 (o.size k l),.bool (decide (o.size k l≠0))]∧w'=w:=by
 obtain⟨bh,cap,rfl,hlen⟩:=aQ.form;refine bI E.ic ?_;refine bF ?_;refine aS ?_;refine K.cond (fun h1=>?_) (fun h1=>?_)
 ·refine aS ?_;rw[F9 (.inl h1)];exact⟨rfl,trivial⟩
 refine aS ?_;refine K.cond (fun U=>?_) (fun U=>?_)
 ·refine aS ?_;rw[F9 (.inr U)];exact⟨rfl,trivial⟩
 refine aS ?_;refine K.wrap (by omega) ?_;refine aS ?_;obtain⟨a,rfl⟩:=aQ.addr (by omega);have av:=(aQ.at (k.toNat - 1) (by omega)).cells 1 _ rfl;refine K.dr (k.toNat - 1) (by omega) (by omega) ?_;refine aS ?_;refine K.ld av ?_;rw[Ub (by omega) (by omega)];generalize l[k.toNat - 1].size=z at av;refine aS ?_;refine K.cond (fun ai=>?_) (fun ai=>?_)
 ·refine aS ?_;rw[if_neg (by omega)];exact⟨rfl,trivial⟩
 refine aS ?_;refine K.wrap (by omega) ?_;refine aS ?_;refine K.dr (k.toNat - 1) (by omega) (by omega) ?_;refine aS ?_;refine K.ld av ?_;refine aS ?_;refine K.cond (fun aL=>?_) (fun aL=>?_)
 ·refine aS ?_;rw[if_neg (by omega)];exact⟨rfl,trivial⟩
 refine aS ?_;refine K.wrap (by omega) ?_;refine aS ?_;refine K.dr (k.toNat - 1) (by omega) (by omega) ?_;refine aS ?_;refine K.ld av ?_;refine aS ?_;rw[if_pos (by omega)];refine⟨?_,by trivial⟩
 have:z≠0:=by omega
 simp[this]
theorem K2(k:Int)(v:Value)(l:List o.Scalar)(w:World)(aQ:o.fY w v l) :
  bq Tryz.prog F.ap #[.int .i64 k,v] w fun v w'=>v = .bool (o.there k l)∧w'=w:=by
 refine bI E.ap ?_;refine bF ?_;refine aS ?_;refine K.call (KM k v l w aQ) ?_;rintro _ _ ⟨rfl,rfl⟩;refine aS ?_;refine K.cond (fun h1=>?_) (fun h1=>?_)
 ·refine aS ?_;refine⟨?_,by trivial⟩;simp[o.there,h1]
 ·refine aS ?_;refine⟨?_,by trivial⟩;simp[o.there,h1]
def seen(l:List ByteArray):List (ByteArray×Value):=l.map fun x=>(x,.bool true)
theorem afl(l:List ByteArray)(x:ByteArray):((seen l).find? (fun p=>decide (x=p.1))).map (·.2)=if x∈l then some (.bool true) else none:=by
 induction l with
 | nil=>rfl
 | cons y l gf =>
  simp only[seen,List.map_cons,List.find?_cons,List.mem_cons];by_cases h:x=y
  ·simp[h]
  ·simp only[h,decide_false,false_or];exact gf
set_option maxHeartbeats 2000000 in
theorem J1(n eW:Int)(aN:0≤n∧n≤9223372036854775807)(e8:Nat→ByteArray)(mo:Nat→Int)(f1 f2:FuncId)(c1 c2:List Value)(Fc:okF Tryz.prog f1=true)(mY:okF Tryz.prog f2=true)(w:World)(a8:h9 w)
  (e6:∀i:Nat,i<n→o.hQ (e8 i))
  (eO:∀(i:Nat) (w':World),i<n→Ext w w'→bq Tryz.prog f1 (.int .i64 i :: c1).toArray w' fun v bY=>v = .string (e8 i)∧Ext w' bY)
  (gA:∀(i:Nat) (w':World),i<n→Ext w w'→bq Tryz.prog f2 (.int .i64 i :: c2).toArray w' fun v bY=>v = .int .i64 (mo i)∧Ext w' bY) :
  bq Tryz.prog F.p7 #[.int .i64 n,.int .i64 eW,.func (.func f1) #[] c1.toArray,.func (.func f2) #[] c2.toArray] w
   fun v w'=>v = .tuple #[.int .i64 (o.first n.toNat (o.err eW e8 mo)).1,.int .i64 (o.first n.toNat (o.err eW e8 mo)).2]∧Ext w w':=by
 refine bI E.p7 ?_;refine bF ?_;refine aS ?_;refine K.u1 fun w1 b aD az sD=>?_;refine aS ?_;refine K.loop (fun S w' => ∃i:Nat,i≤n∧S 16 = .int .i64 i∧(∀j,j<i→o.err eW e8 mo j=0)∧Ext w w' ∧
   ∃es c,w'.heap[b]? = some (.map es c)∧gQ Value.string es.toList (seen ((List.range i).map e8)))
  (fun S _=>(n - intOf (S 16)).toNat) ⟨0,by omega,by refine aS ?_;rfl,fun _ h=>absurd h (Nat.not_lt_zero _),az,_,_,sD,rfl⟩ ?_
 rintro S aR ch ⟨i,ad,lU,bU,he,es,c,hm,kM⟩;have aj:=ch 0 rfl;have h1:=ch 1 rfl;have U:=ch 2 rfl;have ai:=ch 3 rfl;have iQ:=ch 10 rfl;have k9:=ch 15 rfl;simp only[cb,Nat.reduceAdd,Nat.reduceEqDiff,reduceIte,ij,k7] at aj h1 U ai iQ k9;clear ch;refine b2 (And.intro aj (And.intro h1 (And.intro U (And.intro ai (And.intro iQ (And.intro k9 lU)))))) ?_;refine K.cond (fun ck=>?_) (fun Z8=>?_);rotate_left
 ·refine aS ?_;refine⟨?_,he⟩;rw[o.mV fun j aT=>bU j (by omega)]
 have stop:∀e:Int,o.err eW e8 mo i=e→e≠0→o.first n.toNat (o.err eW e8 mo)=((i:Int),e):=fun e h dc=>by
  rw[o.hG (by omega) bU (by rw[h];exact dc),h]
 refine b2 (And.intro aj (And.intro h1 (And.intro U (And.intro ai (And.intro iQ (And.intro k9 lU)))))) ?_;refine K.pg (first:=[]) Fc (eO i aR ck he) ?_;rintro _ ba ⟨rfl,au⟩;refine b2 (And.intro aj (And.intro h1 (And.intro U (And.intro ai (And.intro iQ (And.intro k9 lU)))))) ?_;refine K.cond (fun br=>?_) (fun br=>?_)
 ·refine b2 (And.intro aj (And.intro h1 (And.intro U (And.intro ai (And.intro iQ (And.intro k9 lU)))))) ?_;refine K.cond (fun h=>absurd h (by decide)) (fun _=>?_);refine aS ?_;rw[stop 11 (by simp[o.err,br]) (by decide)];exact⟨rfl,he.trans au⟩
 refine b2 (And.intro aj (And.intro h1 (And.intro U (And.intro ai (And.intro iQ (And.intro k9 lU)))))) ?_;refine K.call (FT (e8 i) ba (a8.ext (he.trans au)) (e6 i ck)) ?_;rintro _ bo ⟨rfl,aP⟩;refine b2 (And.intro aj (And.intro h1 (And.intro U (And.intro ai (And.intro iQ (And.intro k9 lU)))))) ?_;refine K.cX (fun uG=>?_) (fun uG=>?_);rotate_left
 ·refine b2 (And.intro aj (And.intro h1 (And.intro U (And.intro ai (And.intro iQ (And.intro k9 lU)))))) ?_;refine K.cond (fun h=>absurd h (by decide)) (fun _=>?_);refine aS ?_;rw[stop 6 (by simp[o.err,br,uG]) (by decide)];exact⟨rfl,(he.trans au).trans aP⟩
 refine b2 (And.intro aj (And.intro h1 (And.intro U (And.intro ai (And.intro iQ (And.intro k9 lU)))))) ?_;have rn:bo.heap[b]? = some (.map es c):=aP.obj (au.obj hm);obtain⟨r,na,im⟩:=vS F8 (e8 i) es.toList _ 0 kM;rw[afl] at im;refine K.lp (.inr ⟨b,c,rfl,rn⟩) na ?_;have uF:e8 i∈(List.range i).map e8↔∃j,j<i∧e8 j=e8 i:=by simp
 by_cases fs:∃j,j<i∧e8 j=e8 i
 ·rw[if_pos (uF.2 fs)] at im;have aU:kU (.bool false) false r = .bool true:=by simp[kU,im]
  rw[aU];refine b2 (And.intro aj (And.intro h1 (And.intro U (And.intro ai (And.intro iQ (And.intro k9 lU)))))) ?_;refine K.cond (fun h=>absurd h (by decide)) (fun _=>?_);refine aS ?_;rw[stop 7 (by simp[o.err,br,uG,fs]) (by decide)];exact⟨rfl,(he.trans au).trans aP⟩
 rw[if_neg (fun h=>fs (uF.1 h))] at im;have yM:r=none:=by cases r<;>simp at im ⊢
 subst yM;have aU:kU (.bool false) false none = .bool false:=rfl;rw[aU];refine b2 (And.intro aj (And.intro h1 (And.intro U (And.intro ai (And.intro iQ (And.intro k9 lU)))))) ?_;refine K.pg (first:=[]) mY (gA i bo ck ((he.trans au).trans aP)) ?_;rintro _ bR ⟨rfl,bf⟩;have gb:o.err eW e8 mo i=mo i:=by simp[o.err,br,uG,fs]
 refine b2 (And.intro aj (And.intro h1 (And.intro U (And.intro ai (And.intro iQ (And.intro k9 lU)))))) ?_;refine K.cond (fun h=>?_) (fun h=>?_);rotate_left
 ·refine aS ?_;rw[stop (mo i) gb h];exact⟨rfl,((he.trans au).trans aP).trans bf⟩
 refine b2 (And.intro aj (And.intro h1 (And.intro U (And.intro ai (And.intro iQ (And.intro k9 lU)))))) ?_;have qo:=bf.obj rn;refine K.hZ qo na ?_;have ay:(e1 bR b (pG es c (.string (e8 i)) (.bool true) none)).heap[b]? = some (pG es c (.string (e8 i)) (.bool true) none):=zD (cL qo);have bc:Ext w (e1 bR b (pG es c (.string (e8 i)) (.bool true) none)):=(((he.trans au).trans aP).trans bf).e1 aD _;generalize e1 bR b (pG es c (.string (e8 i)) (.bool true) none)=bW at ay bc;refine b2 (And.intro aj (And.intro h1 (And.intro U (And.intro ai (And.intro iQ (And.intro k9 lU)))))) ?_;refine K.wrap (by omega) ?_;refine b2 (And.intro aj (And.intro h1 (And.intro U (And.intro ai (And.intro iQ (And.intro k9 lU)))))) ?_;refine⟨⟨i+1,by omega,rfl,fun j aT=>?_,bc,_,_,ay,?_⟩,by simp[intOf];omega⟩
 ·by_cases bA:j<i
  ·exact bU j bA
  ·have:j=i:=by omega
   subst this;rw[gb,h]
 ·have:=gQ.push kM (e8 i) (.bool true) c
  simpa[seen,List.range_succ] using this
end Go.Proofs.R
end