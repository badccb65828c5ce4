/- Texts joined: ExprF CmdA CmdB CmdQ CmdC ProcI ProcJ ProcK RefP ExprT ExprG ExprH ExprI ExprJ. -/
import Derived.Test.YtempnjgiohpopaaGreatDoorQwrc
import Derived.Test.YtempnjgiohpopaaGreatDoorQwrd
import Derived.Test.YtempnjgiohpopaaGreatDoorQwrh
import Derived.Test.YtempnjgiohpopaaGreatDoorQwri
import Derived.Test.YtempnjgiohpopaaGreatDoorQwrj
set_option linter.all false
set_option maxRecDepth 8000
set_option maxHeartbeats 4000000
section
set_option linter.unusedSimpArgs false
namespace Go.Proofs.R
open Go Go.RowKit bt
theorem ae5(f:o.Node→List Int→Int×Int)(two:o.om→List Int→Int×Int)(leaf:o.Node→List Int→Int×Int)(aJ:KT f two leaf)(cT:Int→Prop)
  (b:Nat)(w0 w:World)(Fz:Ext w0 w)(we:w0.heap.size≤b)(hg kX v2:Value)(e:List o.Node)(he:o.fA w0 hg e)(aD:w.heap[b]? = some (.cells #[.slice none 0 0,.map none] T.nu))
  (Bo:∀x st,x.ok→(∀z∈st,cT z)→0≤o.e9 x.op→o.e9 x.op≤st.length→(f x st).2=0→cT (f x st).1)
  (I7:∀x st base m w',x.ok→Mod (fun k=>k=b) w w'→pX base b w' m st→(∀z∈st,cT z)→0≤o.e9 x.op→o.e9 x.op≤st.length→o.gn x.op=none→∀w1 cY t,Ext w' w1 →
   (∀bY,Ext w1 bY→cY (.tuple #[.int .i64 (leaf x st).1,.int .i64 (leaf x st).2]) bY)→vg Tryz.prog kX [.agg x.enc.toArray] w1 cY t)
  (Jv:∀aq eP fH l w' cY t,Mod (fun k=>k=b) w w'→Ad w' aq eP→(∃x,o.gn x=some aq)→aq.parts=l.length→Ints w' fH l →
   (∀bY,Ext w' bY→cY (.tuple #[.int .i64 (two aq l).1,.int .i64 (two aq l).2]) bY)→ts Tryz.prog v2 [eP,fH] w' cY t) :
  bq Tryz.prog F.AA #[.pointer (some ⟨b,0,none⟩),hg,kX,v2] w fun v w' =>
   v = .tuple #[.int .i64 (o.lx f e).1,.int .i64 (o.lx f e).2]∧Mod (fun k=>k=b) w w':=by
 obtain⟨bh,cap,rfl,hlen⟩:=he.form;refine bI E.AA ?_;refine bF ?_;refine aG ?_;apply K.cond<;>intro g1
 ·refine aG ?_;rw[o.lx,if_pos (by omega)];exact⟨rfl,Mod.refl _ _⟩
 refine aG ?_;apply K.cond<;>intro g2
 ·refine aG ?_;rw[o.lx,if_neg (by omega),if_pos (by omega)];exact⟨rfl,Mod.refl _ _⟩
 refine aG ?_;refine K.call (adx w) ?_;rintro m w1 ⟨BF,az⟩;refine aG ?_;refine K.st1 (az.obj aD) (by decide) (by obtain⟨r,_,_,_,e,_⟩:=BF;rw[e];rfl) fun aR oQ aI=>?_;have Be:aR.heap[b]? = some (.cells #[.slice none 0 0,m] T.nu):=aI;clear aI;have aaF:oo aR m:=BF.mod (A:=fun k=>k=b) (oQ.mod rfl) fun k aq h1 U hk=>by
  subst hk;rw[az.obj aD] at h1;injection h1 with h1
  rcases U with ⟨es,c,U⟩ | ⟨cs,U⟩
  ·rw[U] at h1;cases h1
  ·rw[U] at h1;injection h1 with _ h1
   cases h1
 have Rh:Mod (fun k=>k=b) w aR:=az.mod.trans (oQ.mod rfl);have ck:b<aR.heap.size:=cL Be;refine aG ?_;refine K.yn 27 e.length (fun k S w'=>Mod (fun k=>k=b) aR w'∧∃st,o.gh f (e.take k) []=(0,st)∧pX aR.heap.size b w' m st∧(0<k→1≤st.length)∧st.length≤12∧∀z∈st,cT z)
  (by simp -dsimp only[cI,cu,Nat.reduceAdd,Nat.reduceEqDiff,reduceIte,reduceCtorEq,cS]) ⟨Mod.refl _ _,[],by simp[o.gh],⟨⟨_,Be,bp.nil _ _ _ _ _⟩,ck,Nat.le_refl _⟩,by simp,by simp,by simp⟩ ?_
 rintro k S ba ch hk mn ⟨sE,st,gz,Bz,A2,po,uA⟩;have aj:=ch 0 rfl;have h1:=ch 1 rfl;have U:=ch 2 rfl;have ai:=ch 3 rfl;have q9:=ch 25 rfl;have la:=ch 26 rfl;simp only[cb,Nat.reduceAdd,Nat.reduceEqDiff,reduceIte,ij,k7] at aj h1 U ai q9 la;clear ch;have Fm:Mod (fun k=>k=b) w ba:=Rh.trans sE;refine cV (And.intro aj (And.intro h1 (And.intro U (And.intro ai (And.intro q9 (And.intro la mn)))))) ?_;apply K.cond<;>intro g3
 ·have bb:k<e.length:=by omega
  have ahi:Ext w0 ba:=Fm.ext Fz fun q aF e=>by omega
  obtain⟨a,rfl⟩:=he.addr (by omega);have rv:=(he.at k bb).ok;have iX:=fun aj=>o.KG (f:=f) (e:=e) (by omega) bb gz aj;have rp:=o.C7 bb gz;have aaG:oo ba m:=aaF.mod (A:=fun k=>k=b) sE fun k aq h1 U hk=>by
   subst hk;rw[Be] at h1;injection h1 with h1
   rcases U with ⟨es,c,U⟩ | ⟨cs,U⟩
   ·rw[U] at h1;cases h1
   ·rw[U] at h1;injection h1 with _ h1
    cases h1
  refine cV (And.intro aj (And.intro h1 (And.intro U (And.intro ai (And.intro q9 (And.intro la mn)))))) ?_;generalize aw:e[k]=x at *;refine K.rE (vs:=x.enc) (fun _=>by simp -dsimp only[cI,cu,Nat.reduceAdd,Nat.reduceEqDiff,reduceIte,reduceCtorEq,cS]) rfl rfl (by simp[o.Node.enc,Value.oneCell']) fun bo cE fh aP bJ=>?_;refine cV (And.intro aj (And.intro h1 (And.intro U (And.intro ai (And.intro q9 (And.intro la mn)))))) ?_;refine K.gg (c:=x.enc) bJ (Ext.refl _) rfl ?_;refine cV (And.intro aj (And.intro h1 (And.intro U (And.intro ai (And.intro q9 (And.intro la mn)))))) ?_;have I9:Mod (fun k=>k=b) w bo:=Fm.trans aP.mod;refine K.call (afN f two leaf aJ x aR.heap.size b bo m kX v2 st (Bz.ext aP) (aaG.ext aP) (by omega)
   (fun eb dY eg w' cY t BR hk=>I7 x st _ m bo rv I9 (Bz.ext aP) uA eb dY eg w' cY t BR hk)
   (fun aq eP fH w' cY t BR eb dY eg gr hk=>Jv aq eP fH _ w' cY t (I9.trans BR.mod) dY ⟨_,eb⟩ (by have:=SV eb;simp[List.length_drop];omega) gr hk)) ?_
  rintro _ bR ⟨rfl,qo,RG⟩;have aar:Mod (fun k=>k=b) w bR:=I9.then qo fun i ad h=>by
   rcases h with h | h
   ·exact h
   ·have:=Rh.size;omega
  refine cV (And.intro aj (And.intro h1 (And.intro U (And.intro ai (And.intro q9 (And.intro la mn)))))) ?_;apply K.cond<;>intro g4;rotate_left
  ·refine cV (And.intro aj (And.intro h1 (And.intro U (And.intro ai (And.intro q9 (And.intro la mn)))))) ?_;rw[iX g4];exact⟨bu,aar⟩
  have Bx:=o.afM g4;have Z9:∀z∈(o.stepG f x st).2,cT z:=by
   have a6:=Bo x st rv uA;clear iX rp Bx RG;unfold o.stepG at g4 ⊢;by_cases eb:o.e9 x.op<0
   ·rw[if_pos eb] at g4;cases g4
   by_cases dY:(st.length:Int)<o.e9 x.op
   ·rw[if_neg eb,if_pos dY] at g4;cases g4
   by_cases eg:(f x st).2≠0
   ·rw[if_neg eb,if_neg dY,if_pos eg] at g4;exact absurd g4 eg
   by_cases gr:(st.take (st.length - (o.e9 x.op).toNat)++[(f x st).1]).length > 12
   ·rw[if_neg eb,if_neg dY,if_neg eg,if_pos gr] at g4;cases g4
   rw[if_neg eb,if_neg dY,if_neg eg,if_neg gr];intro z bU;rcases List.mem_append.1 bU with bU | bU
   ·exact uA z (List.mem_of_mem_take bU)
   ·simp at bU;subst bU;exact a6 (by omega) (by omega) (by simpa using eg)
  refine cV (And.intro aj (And.intro h1 (And.intro U (And.intro ai (And.intro q9 (And.intro la mn)))))) ?_;refine⟨bb,bu,?_,(o.stepG f x st).2,?_,RG g4,fun _=>Bx.1,Bx.2,Z9⟩
  ·refine(sE.trans aP.mod).then qo fun i ad h=>?_;rcases h with h | h
   ·exact h
   ·omega
  ·rw[rp];exact Prod.ext g4 rfl
 ·have bb:k=e.length:=by omega
  subst bb;rw[List.take_length] at gz;obtain⟨xj,df,fB⟩:=Bz.ex;obtain⟨jw,nz,rfl,Bi,gV⟩:=fB.form;have ad:Ints ba _ st:=bp.o0 (enc:=encI) (sz:=1) (fun _=>rfl) fB;have h1:=A2 (by omega);obtain⟨a,rfl⟩:=ad.addr h1;have e0:o.lx f e=if st.length > 1 then (0,5) else (st.headD 0,0):=by
   rw[o.lx,if_neg (by omega),if_neg (by omega),gz,if_neg (by simp)]
  rw[e0];clear e0;refine cV (And.intro aj (And.intro h1 (And.intro U (And.intro ai (And.intro q9 (And.intro la mn)))))) ?_;apply K.cond<;>intro g4
  ·refine aG ?_;rw[if_pos (by omega)];exact⟨rfl,Fm⟩
  ·refine cV (And.intro aj (And.intro h1 (And.intro U (And.intro ai (And.intro q9 (And.intro la mn)))))) ?_;refine K.dr 0 rfl (by omega) ?_;refine aG ?_;rw[if_neg (by omega)]
   have:st.headD 0=st[0]:=by
    cases st with
    | nil=>simp at h1
    | cons z st=>rfl
   rw[this];exact⟨bu,Fm⟩
theorem ab5(aq:o.om)(u fH:Value)(l:List Int)(w:World)(aQ:Ints w fH l) :
  bq Tryz.prog F.d7 #[.agg #[.int .i64 aq.parts,.int .i64 aq.h4,.int .i64 aq.makes,u],fH] w fun v w'=>v = .tuple #[.int .i64 (o.l2 aq l).1,.int .i64 (o.l2 aq l).2]∧Ext w w':=by
 obtain⟨bh,cap,rfl,hlen⟩:=aQ.form;refine bI E.d7 ?_;refine bF ?_;refine aG ?_;refine K.new fun w1 b aD az al=>?_;refine aG ?_;refine K.yn 10 l.length (fun k S w'=>w'=w1∧(l.take k).all (fun k=>(decide (aq.h4 = -1)||decide (k=aq.h4))&&decide (k=l.headD 0))=true) (by simp -dsimp only[cI,cu,Nat.reduceAdd,Nat.reduceEqDiff,reduceIte,reduceCtorEq,cS]) ⟨rfl,by simp⟩ ?_;rintro k S aR ch hk iQ ⟨rfl,c8⟩;have h1:=ch 1 rfl;have U:=ch 2 rfl;have dA:=ch 8 rfl;have hI:=ch 9 rfl;simp only[cb,Nat.reduceAdd,Nat.reduceEqDiff,reduceIte,ij,k7] at h1 U dA hI;clear ch;refine cV (And.intro h1 (And.intro U (And.intro dA (And.intro hI iQ)))) ?_;apply K.cond<;>intro g1;rotate_left
 ·rw[List.take_of_length_le (by omega)] at c8;refine cV (And.intro h1 (And.intro U (And.intro dA (And.intro hI iQ)))) ?_;rw[o.l2,if_pos c8];exact cd
 have bb:k<l.length:=by omega
 obtain⟨a,rfl⟩:=aQ.addr (by omega);have BN:l.take (k+1)=l.take k++[l[k]]:=List.take_succ_eq_append_getElem bb;have wb:=List.all_append (xs:=l.take (k+1)) (ys:=l.drop (k+1)) (f:=fun k=>(decide (aq.h4 = -1)||decide (k=aq.h4))&&decide (k=l.headD 0));rw[List.take_append_drop,BN,List.all_append] at wb;have aj:l.headD 0=l[0]:=by
  cases l with
  | nil=>simp at bb
  | cons z l=>rfl
 have Qq:((decide (aq.h4 = -1)||decide (l[k]=aq.h4))&&decide (l[k]=l.headD 0))=false→o.l2 aq l=(0,9):=by
  intro h;rw[o.l2,if_neg (by rw[wb];simp only[List.all_cons,List.all_nil,h];simp)]
 have Bo:((decide (aq.h4 = -1)||decide (l[k]=aq.h4))&&decide (l[k]=l.headD 0))=true→(l.take (k+1)).all (fun k=>(decide (aq.h4 = -1)||decide (k=aq.h4))&&decide (k=l.headD 0))=true:=by
  intro h;rw[BN,List.all_append,c8];simp only[List.all_cons,List.all_nil,h];rfl
 rw[aj] at Qq;clear wb;have aO:0<l.length:=by omega
 have nP:Ints aR (.slice (some a) l.length cap) l:=aQ.ext az;have Ff:=Bo;rw[aj] at Bo c8
 (repeat' first
 | (refine K.cond (fun _=>?_) (fun _=>?_)<;>try (exfalso;omega))
 | (refine K.cX (fun _=>?_) (fun _=>?_))
 | assumption
 | exact Ext.refl _
 | refine Ext.trans ?_ (by assumption)
 | refine K.wrap (by omega) ?_
 | refine K.rB (by assumption) ?_ rfl ?_
 | refine K.pC (by assumption) ?_ rfl ?_
 | refine K.sU (by assumption) ?_ (by omega) rfl ?_
 | refine K.sV (by assumption) ?_ (by omega) rfl ?_
 | refine K.sT (by assumption) ?_ (by omega) rfl ?_
 | refine K.sN (by omega) ?_
 | refine K.r9 (by first | assumption | omega) ?_
 | refine K.r8 (by first | assumption | omega) ?_
 | refine K.qe (by assumption) ?_
 | refine K.qd (by assumption) ?_
 | simp -dsimp only[cI,cu,Nat.reduceAdd,Nat.reduceEqDiff,reduceIte,reduceCtorEq,cS,h1,U,dA,hI,iQ])
 all_goals first
  | (have df:=Qq (by simp;omega);rw[df];refine⟨bu,az⟩)
  | (refine⟨by omega,bu,trivial,?_⟩;rw[aj];exact Bo (by simp;omega))
theorem abV(x:o.Node)(cs:List Value)(s:o.Scope)(base b pm c6:Nat)(w:World)(m:Value)(st:List Int)(afX:TypeId)(aw:x.ok)(h:o.e2 w cs s)(hm:pX base b w m st)(ai:x.op=3→0<st.length)
  (Rt:w.heap[pm]? = some (.cells #[.pointer (some ⟨b,0,none⟩)] afX))(uI:w.heap[c6]? = some (.cells cs.toArray T.d)) :
  bq Tryz.prog F.d5 #[.agg x.enc.toArray,.pointer (some ⟨pm,0,none⟩),.pointer (some ⟨c6,0,none⟩)] w fun v w' =>
   v = .tuple #[.int .i64 (o.iq x s (st.getLastD 0)).1,.int .i64 (o.iq x s (st.getLastD 0)).2]∧Ext w w':=by
 obtain⟨v0,v1,v2,v3,v4,rfl,_⟩:=h.ex;refine bI E.d5 ?_;refine bF ?_;refine aG ?_;refine K.new fun w1 bz cK az al=>?_;have eO:w1.heap[bz]? = some (.cells x.enc.toArray T.k):=al;refine aG ?_;refine K.gg (c:=x.enc) eO (Ext.refl _) rfl ?_;refine aG ?_;refine K.gg uI az rfl ?_;refine aG ?_;refine K.call (abX x _ s base b w1 m st aw (h.ext az) (hm.ext az) ai) ?_;rintro _ aR ⟨rfl,aA⟩;refine aG ?_;exact cd
theorem Ym(s:o.Scope):KT (o.fP s) o.l2 fun x st=>o.iq x s (st.getLastD 0):=fun _ _=>rfl
theorem Sc(hg:Value)(e:List o.Node)(cs:List Value)(s:o.Scope)(w:World)(he:o.fA w hg e)(h:o.e2 w cs s) :
  bq Tryz.prog F.xX #[hg,.agg cs.toArray] w fun v w'=>v = .tuple #[.int .i64 (o.kind e s).1,.int .i64 (o.kind e s).2]∧Ext w w':=by
 obtain⟨v0,v1,v2,v3,v4,rfl,_⟩:=h.ex;refine bI E.xX ?_;refine bF ?_;refine aG ?_;refine K.new fun w1 c6 uI az al=>?_;refine aG ?_;refine K.cA (cs:=[.slice none 0 0,.map none]) (by simp[ey]) ?_;refine aG ?_;refine K.new fun aR b aD aA aI=>?_;refine aG ?_;refine K.new fun ba pm Rt au bG=>?_;refine aG ?_;refine K.rL bG (by decide) rfl fun bo ed bJ=>?_;have Zy:bo.heap[pm]? = some (.cells #[.pointer (some ⟨b,0,none⟩)] T.dy):=bJ;have aP:Ext aR bo:=ed.ext au Rt;have ah9:=cL aI;have ah8:=cL al;have IS:Ext w bo:=(az.trans aA).trans aP;clear bJ ed au bG;have fh:=aP.obj aI;have lZ:=aP.obj (aA.obj al);have fy:=az.size;refine aG ?_;refine K.call (ae5 (o.fP s) o.l2 (fun x st=>o.iq x s (st.getLastD 0)) (Ym s) (fun _=>True) b w bo IS (by omega) hg _ _ e he fh (fun _ _ _ _ _ _ _=>trivial) ?_ ?_) ?_
 ·intro x st base m w' aw hm Bz _ eb dY eg agq cY t nW hk;refine K.pg (first:=[]) (cap:=[.pointer (some ⟨pm,0,none⟩),.pointer (some ⟨c6,0,none⟩)]) (by kernel_rfl)
   (abV x _ s base b pm c6 agq m st _ aw (h.ext ((hm.ext IS (by intro k hk e;omega)).trans nW)) (Bz.ext nW) ?_ (nW.obj (hm.obj (by omega) Zy)) (nW.obj (hm.obj (by omega) lZ))) fun v bY ⟨h1,U⟩=>by subst h1;exact hk bY U
  intro ai
  have:o.e9 x.op=1:=by rw[ai];rfl
  omega
 ·rintro aq eP fH l w' cY t hm ⟨u,rfl,bs⟩ _ aQ ad hk;exact K.Wy (first:=[]) (cap:=[]) (by kernel_rfl) (ab5 aq u fH l w' ad) fun v bY ⟨h1,U⟩=>by subst h1;exact hk bY U
 rintro _ bR ⟨rfl,qo⟩;have bf:Ext w bR:=qo.ext IS (by intro k hk e;omega);refine aG ?_;exact cd
end Go.Proofs.R
end
section
namespace o
open Go Go.RowKit bt
def L4(v:Value):Option (Var×Int)→Prop
 | some q=>v = .tuple #[.agg q.1.enc.toArray,.int .i64 q.2,.bool true]
 | none => ∃(x:Var) (k:Int),v = .tuple #[.agg x.enc.toArray,.int .i64 k,.bool false]
end o
namespace Go.Proofs.R
open Go Go.RowKit bt
theorem O2(a b:Int)(cs:List Value)(s:o.Scope)(w:World)(h:o.e2 w cs s) :
  bq Tryz.prog F.ye #[.int .i64 a,.int .i64 b,.agg cs.toArray] w fun v w'=>v = .tuple #[.int .i64 (o.jH a b s).1,.bool (o.jH a b s).2]∧Ext w w':=by
 obtain⟨a0,bN,dy,c1,a2,c2,a3,bK,a4,bQ,rfl,aj,h1,U,ai,aL,eG,dt,dB,dT,er⟩:=h.form;refine bI E.ye ?_;refine bF ?_;refine aa ?_;intro w1 b aD az al;refine aa ?_
 (repeat' (refine aG ?_;first | (refine K.cond (fun _=>?_) (fun _=>?_)<;>try (exfalso;omega)) | refine K.cX (fun _=>?_) (fun _=>?_)))<;>try refine aG ?_
 all_goals
  refine⟨?_,fc⟩;unfold o.jH
  (repeat' split)<;>first | rfl | (exfalso;omega)
theorem O9(v:Value)(l:List o.Var)(n:Int)(cs:List Value)(s:o.Scope)(w:World)(aQ:o.gF w v l)(h:o.e2 w cs s) :
  bq Tryz.prog F.nw #[v,.int .i64 n,.agg cs.toArray] w fun v w'=>o.L4 v (o.declared l n s)∧Ext w w':=by
 obtain⟨v0,v1,v2,v3,v4,rfl,_⟩:=h.ex;obtain⟨bh,cap,rfl,hlen⟩:=aQ.form;refine bI E.nw ?_;refine bF ?_;refine aa ?_;intro w1 bz cK az al;refine aa ?_;intro aR b4 dw aA aI;have he:=az.trans aA;refine aa ?_;apply K.cond<;>intro g1
 ·refine aa ?_;intro ba eV bG;refine aa ?_;rw[o.declared,o.gK (.inl g1)];exact⟨⟨(⟨⟨#[]⟩,0,0,0,0,0⟩:o.Var),0,rfl⟩,eV.ext he (by have:=az.size;omega)⟩
 refine aa ?_;apply K.cond<;>intro g2
 ·refine aa ?_;intro ba eV bG;refine aa ?_;rw[o.declared,o.gK (.inr (by omega))];exact⟨⟨(⟨⟨#[]⟩,0,0,0,0,0⟩:o.Var),0,rfl⟩,eV.ext he (by have:=az.size;omega)⟩
 obtain⟨i,rfl⟩:=Int.eq_ofNat_of_zero_le (show 0≤n by omega);have ad:i<l.length:=by omega
 rw[o.declared,o.h0 (by omega) (by omega)];simp only[Int.toNat_natCast];obtain⟨a,rfl⟩:=aQ.addr (by omega);refine aa ?_;refine K.fX _ (fun w' e=>O2 _ _ _ s w' (h.ext (he.trans e))) ?_;refine aa ?_;intro ba au;have aI:=au.obj aI;refine aa ?_;intro bo ed bJ;refine aa ?_;refine⟨?_,ed.ext (he.trans au) (by have:=az.size;omega)⟩;by_cases aD:(o.jH l[i].scalar l[i].over s).2=true
 ·rw[if_pos aD,aD];rfl
 ·rw[if_neg aD,Bool.eq_false_iff.2 aD];exact⟨_,_,rfl⟩
theorem W1(n:Int)(cs:List Value)(s:o.Scope)(w:World)(h:o.e2 w cs s) :
  bq Tryz.prog F.q2 #[.int .i64 n,.agg cs.toArray] w fun v w'=>v = .tuple #[.int .i64 ((o.channel n s).getD 0),.bool (o.channel n s).isSome]∧Ext w w':=by
 obtain⟨a0,bN,dy,c1,a2,c2,a3,bK,a4,bQ,rfl,aj,h1,U,ai,aL,eG,dt,dB,dT,er⟩:=h.form;refine bI E.q2 ?_;refine bF ?_;refine aa ?_;intro w1 bz cK az al;refine aa ?_;apply K.cond<;>intro g1
 ·refine aa ?_;rw[o.channel,o.gK (.inl g1)];exact cd
 refine aa ?_;apply K.cond<;>intro g2
 ·refine aa ?_;rw[o.channel,o.gK (.inr (by omega))];exact cd
 obtain⟨i,rfl⟩:=Int.eq_ofNat_of_zero_le (show 0≤n by omega);have ad:i<s.aH.length:=by omega
 rw[o.channel,o.h0 (by omega) (by omega)];simp only[Int.toNat_natCast];obtain⟨a,rfl⟩:=U.addr (by omega);refine aa ?_;refine K.fX _ (fun w' e=>O2 _ _ _ s w' (h.ext (az.trans e))) ?_;refine aa ?_;intro aR aA;refine aa ?_;refine⟨?_,fc⟩;by_cases aD:(o.jH s.aH[i].scalar 0 s).2=true
 ·rw[if_pos aD,aD];rfl
 ·rw[if_neg aD,Bool.eq_false_iff.2 aD];rw[o.afW (Bool.eq_false_iff.2 aD)];rfl
theorem Hc(hg:Value)(e:List o.Node)(k:Int)(cs:List Value)(s:o.Scope)(w:World)(aN:o.fA w hg e)(h:o.e2 w cs s) :
  bq Tryz.prog F.p8 #[hg,.int .i64 k,.agg cs.toArray] w fun v w'=>v = .int .i64 (o.asked e k s)∧Ext w w':=by
 obtain⟨v0,v1,v2,v3,v4,rfl,_⟩:=h.ex;refine bI E.p8 ?_;refine bF ?_;refine aa ?_;intro w1 bz cK az al;refine aa ?_;refine K.call (Sc hg e _ s w1 (aN.ext az) (h.ext az)) ?_;rintro _ aR ⟨rfl,aA⟩;refine aa ?_;rw[o.asked];apply K.cond<;>intro g1
 ·rw[if_neg (by simpa using g1)];refine aa ?_;apply K.cond<;>intro g2
  ·refine aa ?_;rw[if_neg (by simpa using g2)];exact cd
  refine aa ?_;rw[if_pos g2];exact cd
 refine aa ?_;rw[if_pos g1];exact cd
theorem Uu(a:o.Act)(cn cr:Value)(w:World):bq Tryz.prog F.vI #[.agg (a.enc cn cr).toArray] w fun v w'=>v = .bool (o.gi a)∧Ext w w':=by
 refine bI E.vI ?_;refine bF ?_;refine aa ?_;intro w1 bz cK az al;refine aa ?_;rw[o.gi];apply K.cond<;>intro g1
 ·refine aa ?_;refine⟨?_,fc⟩;congr 1;simp[g1]
 refine aa ?_;refine⟨?_,fc⟩;congr 1;simp[g1]
theorem aet(a:o.Act)(cn cr:Value)(k:Int)(cs:List Value)(s:o.Scope)(w:World)(h:o.e2 w cs s) :
  bq Tryz.prog F.AW #[.agg (a.enc cn cr).toArray,.int .i64 k,.agg cs.toArray] w fun v w'=>v = .int .i64 (o.C5 a k s)∧Ext w w':=by
 obtain⟨v0,v1,v2,v3,v4,rfl,aj,h1,U,ai,aL,_⟩:=h.ex;refine bI E.AW ?_;refine bF ?_;refine aa ?_;intro w1 bz cK az al;refine aa ?_;intro aR b4 dw aA aI;have he:=az.trans aA;refine aa ?_;refine K.call (O9 v4 s.locals a.loc _ s aR (aL.ext he) (h.ext he)) ?_;rintro q ba ⟨aF,au⟩;rw[o.C5];cases bs:o.declared s.locals a.loc s with
 | none =>
  rw[bs] at aF;obtain⟨x,k',rfl⟩:=aF;refine aa ?_;intro bo cE fh aP bJ;refine aa ?_;exact cd
 | some q =>
  obtain⟨x,k'⟩:=q;rw[bs] at aF;subst aF;refine aa ?_;intro bo cE fh aP bJ;refine aa ?_;apply K.cond<;>intro g1
  ·refine aa ?_;apply K.cond<;>intro g2
   ·refine aa ?_;simp only[g1,g2,ne_eq,not_true_eq_false,or_self,if_false];exact cd
   refine aa ?_;simp only[g2,ne_eq,not_false_eq_true,or_true,if_true];exact cd
  refine aa ?_;simp only[g1,ne_eq,not_false_eq_true,true_or,if_true];exact cd
end Go.Proofs.R
end
section
namespace o
open Go Go.RowKit bt
theorem G7{s:Scope}{l:List Act}{k:Nat}{t:Bool}(h:k<l.length) :
  kd s (l.drop k) k t=if gi l[k]&&t then (2+(k:Int),7) else if kC l[k] s≠0 then (2+(k:Int),kC l[k] s) else kd s (l.drop (k+1)) (k+1) (t||gi l[k]):=by
 rw[List.drop_eq_getElem_cons h];rfl
end o
namespace Go.Proofs.R
open Go Go.RowKit bt
theorem G6(k:Int)(a:o.Act)(cn cr:Value)(cs:List Value)(s:o.Scope)(w:World)(bz b4:Nat)(cK:w.heap[bz]? = some (.cells (a.enc cn cr).toArray T.n))(dw:w.heap[b4]? = some (.cells cs.toArray T.d))
  (aU:o.fA w cr a.value)(h:o.e2 w cs s) :
  bq Tryz.prog F.a7 #[.int .i64 k,.pointer (some ⟨bz,0,none⟩),.pointer (some ⟨b4,0,none⟩)] w fun v w'=>v = .int .i64 (o.asked a.value k s)∧Ext w w':=by
 obtain⟨v0,v1,v2,v3,v4,rfl,_⟩:=h.ex;refine bI E.a7 ?_;refine bF ?_;refine aa ?_;refine K.call (Hc cr a.value k _ s w aU h) ?_;rintro _ aR ⟨rfl,aA⟩;refine aa ?_;exact cd
theorem VB(a:o.Act)(cn cr:Value)(cs:List Value)(s:o.Scope)(w:World)(ad:o.fA w cn a.index)(aU:o.fA w cr a.value)(h:o.e2 w cs s) :
  bq Tryz.prog F.vO #[.agg (a.enc cn cr).toArray,.agg cs.toArray] w fun v w'=>v = .int .i64 (o.kC a s)∧Ext w w':=by
 obtain⟨v0,v1,v2,v3,v4,rfl,aj,h1,U,ai,aL,eG⟩:=h.ex;refine bI E.vO ?_;refine bF ?_;refine aa ?_;intro w1 bz cK az al;refine aa ?_;intro aR b4 dw aA aI;have he:=az.trans aA;have al:=aA.obj al;by_cases q:a.kind=1∨a.kind=2∨a.kind=3
 ·rw[o.kC,if_pos q];generalize dF:(if a.kind=3 then s.locals else s.vars)=L;have Qz:∀kX n,kX=(if a.kind=3 then v4 else v1)→bq Tryz.prog F.nw #[kX,.int .i64 n,.agg #[v0,v1,v2,v3,v4,.int .i64 s.self]] aR fun v w'=>o.L4 v (o.declared L n s)∧Ext aR w':=by
   rintro kX n rfl;refine O9 _ L n _ s aR ?_ (h.ext he);rw[←dF];split
   ·exact aL.ext he
   ·exact h1.ext he
  by_cases oY:a.kind=2
  ·refine aa ?_;refine K.call (Qz _ _ (by simp[oY])) ?_;rintro u ba ⟨aF,au⟩;have al:=au.obj al;have aI:=au.obj aI;have ss:=he.trans au;cases bs:o.declared L a.to s with
   | none =>
    rw[bs] at aF;obtain⟨x,k',rfl⟩:=aF;refine aa ?_;intro bo cE fh aP bJ;refine aa ?_;exact cd
   | some u =>
    obtain⟨x,k'⟩:=u;rw[bs] at aF;subst aF;have aaH:=o.Xt bs;simp only at aaH;refine aa ?_;intro bo cE fh aP bJ;have al:=aP.obj al;have aI:=aP.obj aI;have nI:=ss.trans aP;refine aa ?_;refine K.SQ (by kernel_rfl) ?_;refine aa ?_;by_cases dY:x.over=0
    ·refine K.qe (by simp[oY,dY]) ?_;refine aa ?_;exact⟨by simp[oY,dY],fc⟩
    refine K.qd (by simp[oY,dY]) ?_;refine aa ?_;refine K.call (Hc cn a.index _ _ s bo (ad.ext nI) (h.ext nI)) ?_;rintro _ bR ⟨rfl,bf⟩;have al:=bf.obj al;have aI:=bf.obj aI;have E6:=nI.trans bf;refine aa ?_;refine K.cond (fun eg=>?_) (fun eg=>?_)
    ·refine aa ?_;refine K.pg (first:=[]) (cap:=[_,_]) (by kernel_rfl) (G6 k' a cn cr _ s bR bz b4 al aI (aU.ext E6) (h.ext E6)) ?_;rintro _ bW ⟨rfl,bc⟩;refine aa ?_;exact⟨by simp[oY,dY,eg],fc⟩
    ·refine aa ?_;exact⟨by simp[oY,dY,eg],fc⟩
  have rH:a.kind=1∨a.kind=3:=by omega
  clear q;rcases rH with q | q
  all_goals
   refine aa ?_;refine K.call (Qz _ _ (by simp[q])) ?_;rintro u ba ⟨aF,au⟩;have al:=au.obj al;have aI:=au.obj aI;have ss:=he.trans au;cases bs:o.declared L a.to s with
   | none =>
    rw[bs] at aF;obtain⟨x,k',rfl⟩:=aF;refine aa ?_;intro bo cE fh aP bJ;refine aa ?_;exact cd
   | some u =>
    obtain⟨x,k'⟩:=u;rw[bs] at aF;subst aF;refine aa ?_;intro bo cE fh aP bJ;have al:=aP.obj al;have aI:=aP.obj aI;have nI:=ss.trans aP;refine aa ?_;refine K.SQ (by kernel_rfl) ?_;refine aa ?_;by_cases dY:x.over=0
    ·refine K.qd (by simp[q,dY]) ?_;refine aa ?_;refine K.pg (first:=[]) (cap:=[_,_]) (by kernel_rfl) (G6 k' a cn cr _ s bo bz b4 al aI (aU.ext nI) (h.ext nI)) ?_;rintro _ bW ⟨rfl,bc⟩;refine aa ?_;exact⟨by simp[q,dY],fc⟩
    ·refine K.qe (by simp[q,dY]) ?_;refine aa ?_;exact⟨by simp[q,dY],fc⟩
 by_cases gr:a.kind=4∨a.kind=5
 ·rw[o.kC,if_neg q,if_pos gr];have Km:a.kind≠3:=by omega
  have CY:a.kind≠1:=by omega
  have ad4:a.kind≠2:=by omega
  have step:∀(w':World),Ext aR w'→bq Tryz.prog F.q2 #[.int .i64 a.to,.agg #[v0,v1,v2,v3,v4,.int .i64 s.self]] w' fun v bY=>v = .tuple #[.int .i64 ((o.channel a.to s).getD 0),.bool (o.channel a.to s).isSome]∧Ext w' bY :=
   fun w' e=>W1 a.to _ s w' (h.ext (he.trans e))
  rcases gr with gr | gr
  ·refine aa ?_;refine K.call (step aR (Ext.refl _)) ?_;rintro _ ba ⟨rfl,au⟩;have al:=au.obj al;have aI:=au.obj aI;have ss:=he.trans au;cases bs:o.channel a.to s with
   | none =>
    simp only[Option.isSome_none,Option.getD_none];refine aa ?_;exact cd
   | some k =>
    simp only[Option.isSome_some,Option.getD_some];refine aa ?_;refine K.pg (first:=[]) (cap:=[_,_]) (by kernel_rfl) (G6 k a cn cr _ s ba bz b4 al aI (aU.ext ss) (h.ext ss)) ?_;rintro _ bW ⟨rfl,bc⟩;refine aa ?_;exact⟨by simp[gr],fc⟩
  ·refine aa ?_;refine K.call (step aR (Ext.refl _)) ?_;rintro _ ba ⟨rfl,au⟩;have al:=au.obj al;have aI:=au.obj aI;have ss:=he.trans au;cases bs:o.channel a.to s with
   | none =>
    simp only[Option.isSome_none,Option.getD_none];refine aa ?_;exact cd
   | some k =>
    simp only[Option.isSome_some,Option.getD_some];refine aa ?_;refine K.call (aet a cn cr k _ s ba (h.ext ss)) ?_;rintro _ bW ⟨rfl,bc⟩;refine aa ?_;exact⟨by simp[gr],fc⟩
 rw[o.kC,if_neg q,if_neg gr];have Km:a.kind≠3:=by omega
 have CY:a.kind≠1:=by omega
 have ad4:a.kind≠2:=by omega
 have ajg:a.kind≠4:=by omega
 have ajh:a.kind≠5:=by omega
 refine aa ?_;exact cd
end Go.Proofs.R
end
section
namespace o
open Go
theorem ZY{c:dD}{n:Int}(h:head c n=0):isName c.name=true∧0≤c.from_∧c.from_<n∧0≤c.to∧c.to<n∧c.b6.length≤6:=by
 unfold head at h;by_cases h1:isName c.name=false
 ·rw[if_pos h1] at h;cases h
 rw[if_neg h1] at h;by_cases U:c.from_<0∨n≤c.from_∨c.to<0∨n≤c.to
 ·rw[if_pos U] at h;cases h
 rw[if_neg U] at h;by_cases ai:c.b6.length > 6
 ·rw[if_pos ai] at h;cases h
 exact⟨by simpa using h1,by omega,by omega,by omega,by omega,by omega⟩
end o
end
section
namespace o
open Go Go.RowKit bt
theorem Xl{l:List Act}{k:Nat}(h:k<l.length):comm (l.drop k)=if gi l[k] then (l[k].kind,l[k].to) else comm (l.drop (k+1)):=by
 rw[List.drop_eq_getElem_cons h];rfl
end o
namespace Go.Proofs.R
open Go Go.RowKit bt
theorem QP(n:Int)(p:o.dj)(nf oU:Value)(w:World)(b:Nat)(aD:w.heap[b]? = some (.cells (p.enc nf oU).toArray T.g)) :
  bq Tryz.prog F.AV #[.int .i64 n,.pointer (some ⟨b,0,none⟩)] w fun v w'=>v = .bool (decide (n<0∨p.cz≤n))∧w'=w:=by
 refine bI E.AV ?_;refine bF ?_;refine aa ?_;apply K.cond<;>intro g1
 ·refine aa ?_;exact⟨by simp[g1],bu⟩
 refine aa ?_;exact⟨by simp[g1],bu⟩
theorem ZZ(c:o.dD)(fw eD:Value)(p:o.dj)(nf oU:Value)(w:World)(a8:h9 w)(aN:o.hQ c.name)(br:o.mH w eD c.b6) :
  bq Tryz.prog F.AR #[.agg (c.enc fw eD).toArray,.agg (p.enc nf oU).toArray] w fun v w'=>v = .int .i64 (o.head c p.cz)∧Ext w w':=by
 obtain⟨bh,cap,rfl,hlen⟩:=br.form;refine bI E.AR ?_;refine bF ?_;refine aa ?_;intro w1 bz cK az al;refine aa ?_;intro aR b4 dw aA aI;have he:=az.trans aA;have al:=aA.obj al;refine aa ?_;refine K.call (FT c.name aR (a8.ext he) aN) ?_;rintro _ ba ⟨rfl,au⟩;have al:=au.obj al;have aI:=au.obj aI;have ss:=he.trans au;rw[o.head];refine aa ?_;refine K.cX (fun g1=>?_) (fun g1=>?_);rotate_left
 ·refine aa ?_;exact⟨by simp[g1],fc⟩
 refine aa ?_;refine K.pg (first:=[]) (cap:=[_]) (by kernel_rfl) (QP c.from_ p nf oU ba b4 aI) ?_;rintro _ _ ⟨rfl,rfl⟩;refine aa ?_;apply K.cond<;>intro g2
 ·refine aa ?_;refine⟨?_,fc⟩;rw[if_neg (by simp[g1]),if_pos (by omega)]
 refine aa ?_;refine K.pg (first:=[]) (cap:=[_]) (by kernel_rfl) (QP c.to p nf oU _ b4 aI) ?_;rintro _ _ ⟨rfl,rfl⟩;refine aa ?_;apply K.cond<;>intro g3
 ·refine aa ?_;refine⟨?_,fc⟩;rw[if_neg (by simp[g1]),if_pos (by omega)]
 refine aa ?_;apply K.cond<;>intro g4
 ·refine aa ?_;refine⟨?_,fc⟩;rw[if_neg (by simp[g1]),if_neg (by omega),if_pos (by omega)]
 ·refine aa ?_;refine⟨?_,fc⟩;rw[if_neg (by simp[g1]),if_neg (by omega),if_neg (by omega)]
theorem Xd(c:o.dD)(fw eD:Value)(p:o.dj)(nf oU:Value)(cs:List Value)(s:o.Scope)(w:World)(a8:h9 w)(aN:o.hQ c.name)(a6:o.fA w fw c.guard)(br:o.mH w eD c.b6)
  (aU:o.gF w nf p.vars)(av:o.o6 w oU p.cJ)(h:o.e2 w cs s) :
  bq Tryz.prog F.d2 #[.agg (c.enc fw eD).toArray,.agg (p.enc nf oU).toArray,.agg cs.toArray] w fun v w' =>
   v = .tuple #[.int .i64 (o.ig c p.cz s).1,.int .i64 (o.ig c p.cz s).2]∧Ext w w':=by
 obtain⟨a0,bN,dy,c1,a2,c2,a3,bK,a4,bQ,rfl,_⟩:=h.form;obtain⟨bh,cap,rfl,hlen⟩:=br.form;obtain⟨n3,WB,rfl,aan⟩:=a6.form;obtain⟨_,_,rfl,_⟩:=aU.form;obtain⟨_,_,rfl,_⟩:=av.form;refine bI E.d2 ?_;refine bF ?_;refine aa ?_;intro w1 bz cK az al;refine aa ?_;intro aR b4 dw aA aI;refine aa ?_;intro ba bZ fG au bG;have he:=(az.trans aA).trans au;have al:=(aA.trans au).obj al;have aI:=au.obj aI;refine aa ?_;refine K.call (ZZ c _ _ p _ _ ba (a8.ext he) aN (br.ext he)) ?_;rintro _ bo ⟨rfl,aP⟩;have al:=aP.obj al;have bG:=aP.obj bG;have nI:=he.trans aP;rw[o.ig];refine aa ?_;apply K.cond<;>intro g1;rotate_left
 ·refine aa ?_;exact⟨by simp[g1],fc⟩
 rw[if_neg (by simpa using g1)];have bL:=(o.ZY g1).2.2.2.2.2;refine ei ?_;refine K.hE [3,4,5] (fun _=>[]) (fun(_:Unit) w'=>Ext bo w'∧¬(c.guard.length > 0∧o.asked c.guard 1 s≠0)) ?_ ?_
 ·refine aa ?_;apply K.cond<;>intro g2
  ·refine aa ?_;refine K.call (Hc _ c.guard 1 _ s bo (a6.ext nI) (h.ext nI)) ?_;rintro _ bR ⟨rfl,bf⟩;refine aa ?_;apply K.cond<;>intro g3
   ·refine aa ?_;exact⟨(),trivial,fc,fun df=>df.2 g3⟩
   ·refine aa ?_;rw[if_pos ⟨by omega,g3⟩];exact cd
  ·refine aa ?_;exact⟨(),trivial,fc,fun df=>g2 (by omega)⟩
 rintro _ S bR ⟨bf,uA⟩;have al:=bf.obj al;have bG:=bf.obj bG;have E6:=nI.trans bf;rw[if_neg uA];refine aa ?_;refine K.da 34 c.b6.length [3,4,5,32,33] (fun b=>[(10,.bool b)]) false (fun k b w'=>Ext bR w'∧o.kd s c.b6 0 false=o.kd s (c.b6.drop k) k b) bw bw ⟨Ext.refl _,by simp⟩ ?_;rintro k b S bW hk ⟨bc,bM⟩;have su:=E6.trans bc;refine aa ?_;apply K.cond<;>intro g1
 ·have bb:k<c.b6.length:=by omega
  obtain⟨a,rfl⟩:=br.addr (by omega);obtain⟨cn,cr,mu,fg,pz⟩:=br.at k bb;obtain⟨_,_,rfl,_⟩:=fg.form;obtain⟨_,_,rfl,_⟩:=pz.form;rw[o.G7 bb] at bM;refine aa ?_;intro cj lQ jr bP c5;refine ei ?_;intro dC kp eL;have yy:=kp.ext bP jr;have E8:=su.trans yy;have bG:=(bc.trans yy).obj bG;refine ei ?_;refine K.hE [3,5,10,11,12,32,33,34] (fun _=>[]) (fun(_:Unit) w'=>Ext dC w'∧¬(o.gi c.b6[k]&&b)=true) ?_ ?_
  ·refine aa ?_;refine K.call (Uu c.b6[k] _ _ dC) ?_;rintro _ ez ⟨rfl,cp⟩;refine aa ?_;refine K.cX (fun g2=>?_) (fun g2=>?_)
   ·refine aa ?_;refine K.cX (fun g3=>?_) (fun g3=>?_)
    ·refine aa ?_;rw[bM,if_pos (by simp[g2,g3])];exact cd
    ·refine aa ?_;exact⟨(),trivial,fc,by simp[g3]⟩
   ·refine aa ?_;exact⟨(),trivial,fc,by simp[g2]⟩
  rintro _ S ez ⟨cp,g2⟩;rw[if_neg g2] at bM;have eL:=cp.obj eL;have bG:=cp.obj bG;refine ei ?_;refine K.hE [3,5,11,12,32,33,34] (fun u=>[(10,.bool u)]) (fun u w'=>Ext ez w'∧u=(b||o.gi c.b6[k])) ?_ ?_
  ·refine aa ?_;refine K.cX (fun g3=>?_) (fun g3=>?_)
   ·refine aa ?_;exact⟨true,bw,fc,by simp[g3]⟩
   ·refine aa ?_;refine K.call (Uu c.b6[k] _ _ ez) ?_;rintro _ eX ⟨rfl,dI⟩;refine aa ?_;exact⟨o.gi c.b6[k],bw,fc,by simp[g3]⟩
  rintro _ S eX ⟨dI,rfl⟩;have eL:=dI.obj eL;have bG:=dI.obj bG;have IM:=(E8.trans cp).trans dI;have ahO:=((bc.trans yy).trans cp).trans dI;refine aa ?_;refine K.call (VB c.b6[k] _ _ _ s eX (fg.ext IM) (pz.ext IM) (h.ext IM)) ?_;rintro _ hh ⟨rfl,hr⟩;refine aa ?_;apply K.cond<;>intro g3
  ·refine aa ?_;rw[if_neg (by simpa using g3)] at bM;exact⟨bb,bu,_,bw,fc,bM⟩
  ·refine aa ?_;rw[bM,if_pos g3];exact cd
 ·refine aa ?_;rw[bM,List.drop_eq_nil_of_le (by omega)];exact cd
end Go.Proofs.R
end
section
namespace o
theorem SE{s:Scope}{l:List Var}{k:Nat}(h:k<l.length):n0 s (l.drop k) k=if l[k].over≠0 then ((k:Int),9) else if s.vars.any (fun x=>decide (x.name=l[k].name)) then ((k:Int),7) else n0 s (l.drop (k+1)) (k+1):=by
 rw[List.drop_eq_getElem_cons h];rfl
theorem OU{own:Scope}{cz:Int}{all l:List dD}{k:Nat}(h:k<l.length):jP own cz all (l.drop k) k=if (ig l[k] cz own).2≠0 then (2+(k:Int),(ig l[k] cz own).1,(ig l[k] cz own).2)
  else if (all.take k).any (fun x=>decide (x.name=l[k].name)) then (2+(k:Int),0,7) else jP own cz all (l.drop (k+1)) (k+1):=by
 rw[List.drop_eq_getElem_cons h];rfl
end o
namespace Go.Proofs.R
open Go Go.RowKit bt
theorem agt(p:o.dj)(cm cw:Option Addr)(pH bK bQ:Nat)(cs:List Value)(s:o.Scope)(w:World)(a8:h9 w)(aN:o.hQ p.name)(h:o.e2 w cs s) :
  bq Tryz.prog F.d0 #[.agg (p.enc (.slice cm pH bK) (.slice cw p.cJ.length bQ)).toArray,.agg cs.toArray] w fun v w'=>v = .int .i64 (o.whole p s)∧Ext w w':=by
 obtain⟨a0,bN,dy,c1,a2,c2,a3,d3,a4,d4,rfl,aj,h1,U,ai,aL,eG,dt,dB,dT,er⟩:=h.form;refine bI E.d0 ?_;refine bF ?_;refine aa ?_;intro w1 bz cK az al;refine aa ?_;intro aR b4 dw aA aI;have cP:∀{w'},Ext aR w'→Ext w w':=fun e=>(az.trans aA).trans e;have al:=aA.obj al;refine aa ?_;refine K.call (FT p.name aR (a8.ext (cP (Ext.refl _))) aN) ?_;rintro _ ba ⟨rfl,au⟩;have al:=au.obj al;have aI:=au.obj aI;rw[o.whole];refine aa ?_;refine K.cX (fun g1=>?_) (fun g1=>?_);rotate_left
 ·refine aa ?_;exact⟨by rw[if_pos g1],cP au⟩
 rw[if_neg (by simp[g1])];refine aa ?_;apply K.cond<;>intro g2
 ·refine aa ?_;exact⟨by rw[if_pos (.inl g2)],cP au⟩
 refine aa ?_;apply K.cond<;>intro g3
 ·refine aa ?_;exact⟨by rw[if_pos (.inr (by omega))],cP au⟩
 rw[if_neg (by omega)];refine aa ?_;apply K.cond<;>intro g4
 ·refine aa ?_;exact⟨by rw[if_pos (.inl g4)],cP au⟩
 refine aa ?_;apply K.cond<;>intro g5
 ·refine aa ?_;exact⟨by rw[if_pos (.inr (by omega))],cP au⟩
 rw[if_neg (by omega)];refine aa ?_;apply K.cond<;>intro g6
 ·refine aa ?_;exact⟨by rw[if_pos (by omega)],cP au⟩
 refine aa ?_;exact⟨by rw[if_neg (by omega)],cP au⟩
theorem acz(x v:o.Var)(b:Nat)(w:World)(av:w.heap[b]? = some (.cells v.enc.toArray T.f)) :
  bq Tryz.prog F.jO #[.agg x.enc.toArray,.pointer (some ⟨b,0,none⟩)] w fun u w'=>u = .bool (decide (x.name=v.name))∧Ext w w':=by
 refine bI E.jO ?_;refine bF ?_;refine aa ?_;intro w1 bz cK az al;refine aa ?_;exact cd
theorem Xb(x c:o.dD)(b9 cq cm cw:Option Addr)(mB ks pH s3 c1 c2 bK bQ:Nat)(b:Nat)(w:World)(av:w.heap[b]? = some (.cells (c.enc (.slice cm pH bK) (.slice cw s3 bQ)).toArray T.m)) :
  bq Tryz.prog F.cR #[.agg (x.enc (.slice b9 mB c1) (.slice cq ks c2)).toArray,.pointer (some ⟨b,0,none⟩)] w fun u w'=>u = .bool (decide (x.name=c.name))∧Ext w w':=by
 refine bI E.cR ?_;refine bF ?_;refine aa ?_;intro w1 bz cK az al;refine aa ?_;exact cd
theorem acA(p:o.dj)(cm cw:Option Addr)(bK s3 bQ:Nat)(cs:List Value)(s:o.Scope)(w:World)(a8:h9 w)(aU:o.gF w (.slice cm p.vars.length bK) p.vars)(h:o.e2 w cs s) :
  bq Tryz.prog F.d1 #[.agg (p.enc (.slice cm p.vars.length bK) (.slice cw s3 bQ)).toArray,.agg cs.toArray] w fun v w'=>v = .tuple #[.int .i64 (o.jE p s).1,.int .i64 (o.jE p s).2]∧Ext w w':=by
 obtain⟨a0,bN,dy,c1,a2,c2,a3,d3,a4,d4,rfl,aj,h1,U,ai,aL,eG,dt,dB,dT,er⟩:=h.form;have fH:p.vars.length≤9223372036854775807:=by have:=(bB.len aU).2;unfold maxLen at this;omega
 refine bI E.d1 ?_;refine bF ?_;refine aa ?_;intro w1 bz cK az al;refine aa ?_;intro aR b4 dw aA aI;have cP:∀{w'},Ext aR w'→Ext w w':=fun e=>(az.trans aA).trans e;have al:=aA.obj al;refine aa ?_;refine K.call (UG _ _ p.vars s.scalars 4 aR (a8.ext (cP (Ext.refl _))) (aU.ext (cP (Ext.refl _))) (aj.ext (cP (Ext.refl _)))) ?_;rintro _ ba ⟨rfl,au⟩;have al:=au.obj al;have aI:=au.obj aI;rw[o.jE];refine aa ?_;apply K.cond<;>intro g1;rotate_left
 ·refine aa ?_;exact⟨by rw[if_pos g1],cP au⟩
 rw[if_neg (by simpa using g1)];have fz:∀{w'},Ext ba w'→Ext w w':=fun e=>cP (au.trans e);refine aa ?_;refine K.da 25 p.vars.length [3,23,24] (fun _=>[]) () (fun k _ w'=>Ext ba w'∧o.n0 s p.vars 0=o.n0 s (p.vars.drop k) k) bw bw ⟨Ext.refl _,by simp⟩ ?_;rintro k _ S bo hk ⟨aP,bM⟩;refine aa ?_;apply K.cond<;>intro g2
 ·have bb:k<p.vars.length:=by omega
  obtain⟨a,rfl⟩:=aU.addr (by omega);replace aU:=aU.ext (fz (Ext.refl _));rw[o.SE bb] at bM;refine aa ?_;intro zN iM lb lg qk;refine aa ?_;intro bR ft cx;have bf:=ft.ext lg lb;refine aa ?_;apply K.cond<;>intro g3;rotate_left
  ·refine aa ?_;exact⟨by rw[bM,if_pos g3],fz (aP.trans bf)⟩
  rw[if_neg (by simpa using g3)] at bM;refine aa ?_;refine K.call (O1 kN E.c0 E.fq _ s.vars bR (h1.ext (fz (aP.trans bf))) F.jO (by kernel_rfl) [] [_] (fun x=>decide (x.name=p.vars[k].name)) ?_) ?_
  ·rintro i ad hD w' e ⟨rfl,_⟩;exact acz _ _ iM w' (e.obj cx)
  rintro _ bW ⟨rfl,bc⟩;refine aa ?_;refine K.cX (fun g4=>?_) (fun g4=>?_)
  ·refine aa ?_;exact⟨by rw[bM,if_pos g4],fz ((aP.trans bf).trans bc)⟩
  ·refine aa ?_;exact⟨bb,bu,(),trivial,(aP.trans bf).trans bc,by rw[bM,if_neg (by simp[g4])]⟩
 ·refine aa ?_;exact⟨by rw[bM,List.drop_eq_nil_of_le (by omega)];rfl,fz aP⟩
theorem adL(p:o.dj)(CQ cs:List Value)(s:o.Scope)(w:World)(a8:h9 w)(aO:o.tD w CQ p)(h:o.e2 w cs s)(a6:s.cT)(my:p.cT) :
  bq Tryz.prog F.AH #[.agg CQ.toArray,.agg cs.toArray] w fun v w'=>v = .tuple #[.int .i64 (o.gB p s).1,.int .i64 (o.gB p s).2.1,.int .i64 (o.gB p s).2.2]∧Ext w w':=by
 obtain⟨a0,bN,dy,c1,a2,c2,a3,d3,a4,d4,rfl,aj,h1,U,ai,aL,eG,dt,dB,dT,er⟩:=h.form;obtain⟨aN,nf,oU,rfl,aU,pq⟩:=aO;obtain⟨cm,bK,rfl,fH⟩:=aU.form;obtain⟨cw,bQ,rfl,lc⟩:=pq.form;have mr:p.cJ.length≤140737488351232:=by have:=my.cJ;unfold o.dZ at this;omega
 refine bI E.AH ?_;refine bF ?_;refine aa ?_;intro w1 bz cK az al;refine aa ?_;intro aR b4 dw aA aI;have cP:∀{w'},Ext aR w'→Ext w w':=fun e=>(az.trans aA).trans e;replace al:=aA.obj al;refine aa ?_;refine K.call (agt p _ _ _ _ _ _ s aR (a8.ext (cP (Ext.refl _))) aN (h.ext (cP (Ext.refl _)))) ?_;rintro _ ba ⟨rfl,au⟩;replace al:=au.obj al;replace aI:=au.obj aI;have fz:∀{w'},Ext ba w'→Ext w w':=fun e=>cP (au.trans e);rw[o.gB];refine aa ?_;apply K.cond<;>intro g1;rotate_left
 ·refine aa ?_;exact⟨by rw[if_pos g1],fz (Ext.refl _)⟩
 rw[if_neg (by simpa using g1)];refine aa ?_;refine K.call (acA p _ _ _ _ _ _ s ba (a8.ext (fz (Ext.refl _))) (aU.ext (fz (Ext.refl _))) (h.ext (fz (Ext.refl _)))) ?_;rintro _ bo ⟨rfl,aP⟩;replace al:=aP.obj al;replace aI:=aP.obj aI;have dN:∀{w'},Ext bo w'→Ext w w':=fun e=>fz (aP.trans e);refine aa ?_;apply K.cond<;>intro g2;rotate_left
 ·refine aa ?_;exact⟨by rw[if_pos g2],dN (Ext.refl _)⟩
 rw[if_neg (by simpa using g2)];refine aa ?_;refine K.call (RT p _ _ _ _ _ _ _ _ _ _ _ _ _ _ _ _ _ _ _ _ _ _ bo) ?_;rintro _ bR ⟨rfl,bf⟩;replace al:=bf.obj al;have h6:∀{w'},Ext bR w'→Ext w w':=fun e=>dN (bf.trans e);refine aa ?_;intro bW He Ir bc dm;replace al:=bc.obj al;have j7:∀{w'},Ext bW w'→Ext w w':=fun e=>h6 (bc.trans e);have fs:∀w',Ext w w'→o.e2 w' [.slice a0 s.scalars.length bN,.slice dy s.vars.length c1,.slice a2 s.aH.length c2,.slice a3 s.procs.length d3,.slice cm p.vars.length bK,.int .i64 p.over] (o.inner p s):=fun w' e =>
  ⟨(a6.inner my).o1.1,_,_,_,_,_,rfl,aj.ext e,h1.ext e,U.ext e,ai.ext e,aU.ext e,(a6.inner my).o1.2⟩
 refine aa ?_;refine K.da 37 p.cJ.length [2,10,35,36] (fun _=>[]) () (fun k _ w'=>Ext bW w'∧o.jP (o.inner p s) p.cz p.cJ p.cJ 0=o.jP (o.inner p s) p.cz p.cJ (p.cJ.drop k) k) bw bw ⟨Ext.refl _,by simp⟩ ?_;rintro k _ S cj hk ⟨bP,bM⟩;replace al:=bP.obj al;replace dm:=bP.obj dm;refine aa ?_;apply K.cond<;>intro g3
 ·have bb:k<p.cJ.length:=by omega
  obtain⟨a,rfl⟩:=pq.addr (by omega);obtain⟨ay,fw,eD,hp,rr,qv⟩:=pq.at k bb;obtain⟨n3,kE,rfl,Sy⟩:=rr.form;obtain⟨bh,iN,rfl,nZ⟩:=qv.form;rw[o.OU bb] at bM;replace hp:=hp.ext (j7 (Ext.refl _));refine aa ?_;intro zN Eg uo lg qk;refine aa ?_;intro dC kp eL;have bV:=kp.ext lg uo;replace al:=bV.obj al;replace dm:=bV.obj dm;have jK:∀{w'},Ext dC w'→Ext w w':=fun e=>j7 ((bP.trans bV).trans e);clear qk lg;refine aa ?_;refine K.call (Xd p.cJ[k] _ _ p _ _ _ (o.inner p s) dC (a8.ext (jK (Ext.refl _))) ay (rr.ext (jK (Ext.refl _))) (qv.ext (jK (Ext.refl _))) (aU.ext (jK (Ext.refl _))) (pq.ext (jK (Ext.refl _))) (fs _ (jK (Ext.refl _)))) ?_;rintro _ ez ⟨rfl,cp⟩;replace al:=cp.obj al;replace eL:=cp.obj eL;have j8:∀{w'},Ext ez w'→Ext w w':=fun e=>jK (cp.trans e);refine aa ?_;apply K.cond<;>intro g4;rotate_left
  ·refine aa ?_;exact⟨by rw[bM,if_pos g4],j8 (Ext.refl _)⟩
  rw[if_neg (by simpa using g4)] at bM;have ho:=(bB.len pq).2.1;refine aa ?_;refine K.rK (k:=.i64) k (by rfl) (by omega) ?_;refine aa ?_;refine K.call (O1 kN E.ca E.ee _ (p.cJ.take k) ez ((pq.head k (by omega)).ext o.vr.ext (j8 (Ext.refl _))) F.cR (by kernel_rfl) [] [_] (fun x=>decide (x.name=p.cJ[k].name)) ?_) ?_
  ·rintro i ad hD w' e ⟨_,ajH,mb,rfl,abm,abl⟩;obtain⟨_,_,rfl,_⟩:=abm.form;obtain⟨_,_,rfl,_⟩:=abl.form;exact Xb _ _ _ _ _ _ _ _ _ _ _ _ _ _ Eg w' (e.obj eL)
  rintro _ eX ⟨rfl,dI⟩;refine aa ?_;refine K.cX (fun g5=>?_) (fun g5=>?_)
  ·refine aa ?_;exact⟨by rw[bM,if_pos g5],j8 dI⟩
  ·refine aa ?_;exact⟨bb,bu,(),trivial,((bP.trans bV).trans cp).trans dI,by rw[bM,if_neg (by simp[g5])]⟩
 ·refine aa ?_;exact⟨by rw[bM,List.drop_eq_nil_of_le (by omega)];rfl,j7 bP⟩
end Go.Proofs.R
end
section
namespace bt
open Go Go.RowKit
theorem bB.Hi{α:Type}{R:World→Addr→α→Prop}{C:World→List Value→α→Prop}{sz:Nat}[Rel R C sz]{w:World}{b n:Nat}{e:TypeId}{cells:List Value}{xs:List α}(eF:List (np sz))(aD:w.heap[b]? = some (.cells cells.toArray e))(ZJ:cells=eF.flatMap q5)
  (aQ:eF.length=xs.length)(aN:n=xs.length)(hm:xs.length≤maxLen)(av:∀i (h1:i<eF.length) (U:i<xs.length),C w eF[i].1 xs[i]):bB sz R w (.slice (some ⟨b,0,none⟩) n n) xs:=by
 subst ZJ;exact bB.J9 aQ (bB.aV (enc:=q5) ue aD (by omega) (by omega) fun _ _ _ h=>h) av
end bt
namespace o
open Go
def HW:Scalar:=⟨⟨#[83]⟩,2⟩
theorem nc{n:Int}(h : -1000≤n∧n≤1000):ep n:=by unfold ep;omega
theorem zI(a b:Int)(s:Scope):(jH a b s).2=((gI a s).2&&(gI b s).2)∧((jH a b s).2=true→(jH a b s).1=(if a=0 then 0 else 1+a)):=by
 unfold jH gI;constructor
 ·(repeat' split)<;>first | rfl | (exfalso;omega)
 ·intro h
  (repeat' split)<;>first | rfl | (exfalso;omega) | simp_all
theorem O8{l:List Var}{n:Int}{s:Scope}(h:(fj l n s).2.2=false):declared l n s=none:=by
 unfold declared;unfold fj at h;cases aN:nth l n with
 | none=>rfl
 | some v =>
  rw[aN] at h;simp only at h ⊢;rw[if_neg];rw[(zI _ _ _).1,h];simp
theorem Pa{l:List Var}{n:Int}{s:Scope}{x:Var}(h:(fj l n s).2.2=true)(aw:nth l n=some x):declared l n s=some (x,if x.scalar=0 then 0 else 1+x.scalar)∧0≤x.scalar∧x.scalar≤s.scalars.length∧0≤x.over∧x.over≤s.scalars.length:=by
 unfold fj at h;rw[aw] at h;simp only at h;have aK:(jH x.scalar x.over s).2=true:=by rw[(zI _ _ _).1];exact h
 refine⟨?_,?_⟩
 ·unfold declared;rw[aw];simp only;rw[if_pos aK,(zI _ _ _).2 aK]
 ·unfold jH at aK;split at aK
  ·cases aK
  ·omega
theorem W0{n:Int}{s:Scope}(h:¬(iE n s).2=0):channel n s=none:=by
 unfold channel;unfold iE at h;cases aN:nth s.aH n with
 | none=>rfl
 | some c =>
  rw[aN] at h;simp only at h ⊢;rw[if_neg];intro aK;rw[(zI _ _ _).1] at aK;simp only[Bool.and_eq_true] at aK;rw[if_pos aK.1] at h;exact h rfl
theorem W2{n:Int}{s:Scope}{c:c4}(h:(iE n s).2=0)(aw:nth s.aH n=some c):channel n s=some (if c.scalar=0 then 0 else 1+c.scalar)∧0≤c.scalar∧c.scalar≤s.scalars.length:=by
 unfold iE at h;rw[aw] at h;simp only at h;have h1:(gI c.scalar s).2=true:=by
  cases hk:(gI c.scalar s).2 with
  | true=>rfl
  | false=>rw[hk] at h;simp at h
 have aK:(jH c.scalar 0 s).2=true:=by rw[(zI _ _ _).1,h1];simp[gI]
 refine⟨?_,?_⟩
 ·unfold channel;rw[aw];simp only;rw[if_pos aK,(zI _ _ _).2 aK]
 ·unfold jH at aK;split at aK
  ·cases aK
  ·omega
def jD(l:List Var)(n:Int)(s:Scope):Int×Int:=match declared l n s with | none=>(0,8) | some (v,k)=>if v.over≠0 then (0,9) else (k,0)
def wK(a:Act)(s:Scope):Int:=match declared s.vars a.to s with | none=>8 | some (v,k)=>if v.over=0 then 9 else if asked a.index (1+v.over) s≠0 then asked a.index (1+v.over) s else asked a.value k s
def jG(a:Act)(s:Scope)(comm:Bool):Int :=
 if a.kind<1∨5<a.kind then 3
 else if a.kind=2 then wK a s
 else if a.kind=1∨a.kind=3 then (if (jD (if a.kind=3 then s.locals else s.vars) a.to s).2≠0 then (jD (if a.kind=3 then s.locals else s.vars) a.to s).2 else asked a.value (jD (if a.kind=3 then s.locals else s.vars) a.to s).1 s)
 else if comm=true then 7
 else match channel a.to s with
  | none=>8
  | some k=>if a.kind=4 then asked a.value k s else if (jD s.locals a.loc s).2≠0 then (jD s.locals a.loc s).2 else if (jD s.locals a.loc s).1≠k then 9 else 0
theorem aek(a:Act)(s:Scope)(comm:Bool):jG a s comm=if gi a&&comm then 7 else kC a s:=by
 by_cases aj:a.kind<1∨5<a.kind
 ·have aK:gi a=false:=by unfold gi;rw[decide_eq_false_iff_not];omega
  unfold jG kC;rw[if_pos aj,aK,if_neg (by omega:¬(a.kind=1∨a.kind=2∨a.kind=3)),if_neg (by omega:¬(a.kind=4∨a.kind=5))];simp
 by_cases U:a.kind=2
 ·have aK:gi a=false:=by unfold gi;rw[decide_eq_false_iff_not];omega
  unfold jG kC;rw[if_neg aj,if_pos U,aK,if_pos (by omega:a.kind=1∨a.kind=2∨a.kind=3)];simp only[Bool.false_and,Bool.false_eq_true,if_false];rw[if_neg (by omega:¬a.kind=3)];unfold wK;cases bs:declared s.vars a.to s with
  | none=>rfl
  | some q =>
   obtain⟨v,k⟩:=q;simp only[U,true_and];by_cases aU:v.over=0
   ·simp[aU]
   ·simp[aU]
 by_cases h1:a.kind=1∨a.kind=3
 ·have aK:gi a=false:=by unfold gi;rw[decide_eq_false_iff_not];omega
  unfold jG kC;rw[if_neg aj,if_neg U,if_pos h1,aK,if_pos (by omega:a.kind=1∨a.kind=2∨a.kind=3)];simp only[Bool.false_and,Bool.false_eq_true,if_false];unfold jD;cases bs:declared (if a.kind=3 then s.locals else s.vars) a.to s with
  | none=>simp
  | some q =>
   obtain⟨v,k⟩:=q;simp only[U,false_and,if_false];by_cases aU:v.over=0
   ·simp[aU]
   ·simp[aU]
 ·have Y1:a.kind=4∨a.kind=5:=by omega
  have aK:gi a=true:=by unfold gi;rw[decide_eq_true_eq];omega
  unfold jG kC;rw[if_neg aj,if_neg U,if_neg h1,aK,if_neg (by omega:¬(a.kind=1∨a.kind=2∨a.kind=3)),if_pos Y1];simp only[Bool.true_and];cases comm with
  | true=>simp
  | false =>
   simp only[Bool.false_eq_true,if_false];cases av:channel a.to s with
   | none=>rfl
   | some k =>
    simp only;by_cases aL:a.kind=4
    ·rw[if_pos aL,if_neg (by omega:¬a.kind=5)]
    ·rw[if_neg aL,if_pos (by omega:a.kind=5)];unfold jD C5;cases bs:declared s.locals a.loc s with
     | none=>simp
     | some q =>
      obtain⟨v,k'⟩:=q;simp only;by_cases aU:v.over=0
      ·simp[aU]
      ·simp[aU]
end o
end
section
set_option linter.unusedSimpArgs false
namespace Go.Proofs.R
open Go Go.RowKit bt
theorem Ut(op:Int)(w:World):bq Tryz.prog F.y8 #[.int .i64 op] w fun v w'=>v = .int .i64 (o.e9 op)∧w'=w:=by
 have key:∀n:Int,(if op=3 then (1:Int) else if 1≤op∧op≤8 then 0 else if op=9∨op=10 then 1 else if 11≤op∧op≤19 then 2 else -1)=n→o.e9 op=n:=fun _ h=>h;refine bI E.y8 ?_;refine bF ?_
 (repeat' (refine aG ?_;first | (refine K.cond (fun _=>?_) (fun _=>?_)<;>try (exfalso;omega)) | refine K.cX (fun _=>?_) (fun _=>?_)))<;>try refine aG ?_
 all_goals
  refine⟨?_,bu⟩;congr 1;refine(key _ ?_).symm
  (repeat' split)<;>first | rfl | (exfalso;omega)
theorem FV{x:Int}(h:o.e9 x=0):1≤x∧x≤8∧x≠3∧o.gn x=none:=by
 have h1:1≤x∧x≤8∧x≠3:=by unfold o.e9 at h; (repeat' split at h)<;>omega
 exact⟨h1.1,h1.2.1,h1.2.2,o.S3 (by simp[o.yU];omega)⟩
theorem SU{x:Int}(h:o.e9 x=1):x=3∨x=9∨x=10:=by unfold o.e9 at h; (repeat' split at h)<;>omega
theorem FW{x:Int}(h:o.e9 x=2):11≤x∧x≤19:=by unfold o.e9 at h; (repeat' split at h)<;>omega
theorem S4{x:Int}(h:9≤x∧x≤19):∃aq,o.gn x=some aq∧aq.parts=o.e9 x:=by
 cases a8:o.gn x with
 | some aq=>exact⟨aq,rfl,(o.CP a8).1⟩
 | none =>
  exfalso;unfold o.gn at a8
  (repeat' split at a8)
  all_goals first | (cases a8;done) | omega
theorem HG{st:List Int}(h:1≤st.length):st.drop (st.length - 1)=[st[st.length - 1]]:=by
 rw[List.drop_eq_getElem_cons (by omega),List.drop_eq_nil_of_le (by omega)]
theorem Pc{st:List Int}(h:2≤st.length):st.drop (st.length - 2)=[st[st.length - 2],st[st.length - 1]]:=by
 rw[List.drop_eq_getElem_cons (by omega)];have e:st.length - 2+1=st.length - 1:=by omega
 congr 1;rw[e];exact HG (by omega)
theorem pj:∀y,∀u∈encI y,u.oneCell'=true:=fun y u h=>by simp[encI] at h;subst h;rfl
end Go.Proofs.R
end
section
set_option linter.unusedSimpArgs false
namespace Go.Proofs.R
open Go Go.RowKit bt
theorem KF(n:Int)(cs:List Value)(s:o.Scope)(w:World)(h:o.e2 w cs s) :
  bq Tryz.prog F.wS #[.int .i64 n,.agg cs.toArray] w fun v w'=>v = .bool (o.gI n s).2∧Ext w w':=by
 obtain⟨a0,bN,dy,c1,a2,c2,a3,bK,a4,bQ,rfl,aj,h1,U,ai,aL,eG,dt,dB,dT,er⟩:=h.form;refine bI E.wS ?_;refine bF ?_;refine aG ?_;refine K.new fun w1 b aD az al=>?_
 (repeat' (refine aG ?_;first | (refine K.cond (fun _=>?_) (fun _=>?_)<;>try (exfalso;omega)) | refine K.cX (fun _=>?_) (fun _=>?_)))<;>try refine aG ?_
 all_goals
  refine⟨?_,fc⟩;congr 1;unfold o.gI
  (repeat' split)<;>first | rfl | (exfalso;omega) | (simp;omega)
def kindOf(n:Int):Int:=if n=0 then 0 else 1+n
theorem FI(n:Int)(w:World)(h:0≤n∧n≤4611686018427387904):bq Tryz.prog F.qx #[.int .i64 n] w fun v w'=>v = .int .i64 (kindOf n)∧w'=w:=by
 refine bI E.qx ?_;refine bF ?_
 (repeat' (refine aG ?_;first | (refine K.cond (fun _=>?_) (fun _=>?_)<;>try (exfalso;omega)) | refine K.cX (fun _=>?_) (fun _=>?_)))<;>try refine aG ?_
 all_goals
  refine⟨?_,bu⟩;congr 1;unfold kindOf;split<;>first | rfl | (exfalso;omega)
theorem Sd{n:Int}{s:o.Scope}(h:(o.gI n s).2=true):0≤n∧n≤s.scalars.length∧(o.gI n s).1=kindOf n:=by
 unfold o.gI kindOf at *
 (repeat' split at h) <;> (repeat' split)<;>first | (cases h;done) | (refine⟨by omega,by omega,?_⟩;first | rfl | omega) | (exfalso;omega)
theorem C9(v:Value)(l:List o.Var)(n:Int)(cs:List Value)(s:o.Scope)(w:World)(aQ:o.gF w v l)(h:o.e2 w cs s) :
  bq Tryz.prog F.uT #[v,.int .i64 n,.agg cs.toArray] w fun v w' =>
   (∃x:o.Var,v = .tuple #[.agg x.enc.toArray,.bool (o.fj l n s).2.2]∧((o.fj l n s).2.2=true→o.nth l n=some x))∧Ext w w':=by
 obtain⟨a0,bN,dy,c1,a2,c2,a3,bK,a4,bQ,rfl,_⟩:=h.form;obtain⟨bh,cap,rfl,hlen⟩:=aQ.form;refine bI E.uT ?_;refine bF ?_;refine aG ?_;refine K.new fun w1 b aD az al=>?_;refine aG ?_;refine K.new fun aR b4 dw aA aI=>?_;have he:=az.trans aA;have dS:=aA.obj al;refine aG ?_;apply K.cond<;>intro g1
 ·have hk:(o.fj l n s).2.2=false:=by rw[o.fj,o.gK (.inl g1)]
  refine aG ?_;intro ba au;refine aG ?_;refine K.cA (cs:=(⟨⟨#[]⟩,0,0,0,0,0⟩:o.Var).enc) (by simp[ey,o.Var.enc]) ?_;refine aG ?_;refine K.kW (cs:=(⟨⟨#[]⟩,0,0,0,0,0⟩:o.Var).enc.toArray) (au.obj aI) rfl rfl (by simp[o.Var.enc,Value.oneCell']) fun bo ed bJ=>?_;refine aG ?_;refine K.gg (c:=o.Var.enc _) bJ (Ext.refl _) rfl ?_;refine aG ?_;exact⟨⟨_,by rw[hk],by rw[hk];intro h;cases h⟩,ed.ext (he.trans au) (by have:=az.size;omega)⟩
 refine aG ?_;apply K.cond<;>intro g2
 ·have hk:(o.fj l n s).2.2=false:=by rw[o.fj,o.gK (.inr (by omega))]
  refine aG ?_;intro ba au;refine aG ?_;refine K.cA (cs:=(⟨⟨#[]⟩,0,0,0,0,0⟩:o.Var).enc) (by simp[ey,o.Var.enc]) ?_;refine aG ?_;refine K.kW (cs:=(⟨⟨#[]⟩,0,0,0,0,0⟩:o.Var).enc.toArray) (au.obj aI) rfl rfl (by simp[o.Var.enc,Value.oneCell']) fun bo ed bJ=>?_;refine aG ?_;refine K.gg (c:=o.Var.enc _) bJ (Ext.refl _) rfl ?_;refine aG ?_;exact⟨⟨_,by rw[hk],by rw[hk];intro h;cases h⟩,ed.ext (he.trans au) (by have:=az.size;omega)⟩
 obtain⟨i,rfl⟩:=Int.eq_ofNat_of_zero_le (show 0≤n by omega);have ad:i<l.length:=by omega
 have aN:o.nth l (i:Int)=some l[i]:=by rw[o.h0 (by omega) (by omega)];simp only[Int.toNat_natCast]
 obtain⟨a,rfl⟩:=aQ.addr (by omega);refine aG ?_;refine K.gg (c:=[_,_,_,_,_,_]) dS (Ext.refl _) rfl ?_;refine aG ?_;refine K.fX _ (fun w' e=>KF _ _ s w' (h.ext (he.trans e))) ?_;refine aG ?_;refine K.cX (fun g3=>?_) (fun g3=>?_);rotate_left
 ·have hk:(o.fj l i s).2.2=false:=by rw[o.fj,aN];simp only[g3,Bool.false_and]
  refine aG ?_;intro ba au;refine aG ?_;refine K.cA (cs:=(⟨⟨#[]⟩,0,0,0,0,0⟩:o.Var).enc) (by simp[ey,o.Var.enc]) ?_;refine aG ?_;refine K.kW (cs:=(⟨⟨#[]⟩,0,0,0,0,0⟩:o.Var).enc.toArray) (au.obj aI) rfl rfl (by simp[o.Var.enc,Value.oneCell']) fun bo ed bJ=>?_;refine aG ?_;refine K.gg (c:=o.Var.enc _) bJ (Ext.refl _) rfl ?_;refine aG ?_;exact⟨⟨_,by rw[hk],by rw[hk];intro h;cases h⟩,ed.ext (he.trans au) (by have:=az.size;omega)⟩
 refine aG ?_;refine K.gg (c:=[_,_,_,_,_,_]) dS (Ext.refl _) rfl ?_;refine aG ?_;refine K.fX _ (fun w' e=>KF _ _ s w' (h.ext (he.trans e))) ?_;refine aG ?_;cases g4:(o.gI l[i].over s).2 with
 | false =>
  have hk:(o.fj l i s).2.2=false:=by rw[o.fj,aN];simp only[g4,Bool.and_false]
  refine aG ?_;intro ba au;refine aG ?_;refine K.cA (cs:=(⟨⟨#[]⟩,0,0,0,0,0⟩:o.Var).enc) (by simp[ey,o.Var.enc]) ?_;refine aG ?_;refine K.kW (cs:=(⟨⟨#[]⟩,0,0,0,0,0⟩:o.Var).enc.toArray) (au.obj aI) rfl rfl (by simp[o.Var.enc,Value.oneCell']) fun bo ed bJ=>?_;refine aG ?_;refine K.gg (c:=o.Var.enc _) bJ (Ext.refl _) rfl ?_;refine aG ?_;exact⟨⟨_,by rw[hk],by rw[hk];intro h;cases h⟩,ed.ext (he.trans au) (by have:=az.size;omega)⟩
 | true =>
  have hk:(o.fj l i s).2.2=true:=by rw[o.fj,aN];simp only[g3,g4,Bool.and_true]
  refine aG ?_;intro ba au;refine aG ?_;refine K.kW (cs:=l[i].enc.toArray) (au.obj aI) rfl rfl (by simp[o.Var.enc,Value.oneCell']) fun bo ed bJ=>?_;refine aG ?_;refine K.gg (c:=o.Var.enc _) bJ (Ext.refl _) rfl ?_;refine aG ?_;exact⟨⟨_,by rw[hk],fun _=>aN⟩,ed.ext (he.trans au) (by have:=az.size;omega)⟩
theorem Ts(n:Int)(cs:List Value)(s:o.Scope)(w:World)(h:o.e2 w cs s) :
  bq Tryz.prog F.y6 #[.int .i64 n,.agg cs.toArray] w fun v w' =>
   (∃x:o.c4,v = .tuple #[.agg x.enc.toArray,.bool (decide ((o.iE n s).2=0))]∧((o.iE n s).2=0→o.nth s.aH n=some x))∧Ext w w':=by
 obtain⟨a0,bN,dy,c1,a2,c2,a3,bK,a4,bQ,rfl,aj,h1,U,ai,aL,eG,dt,dB,dT,er⟩:=h.form;refine bI E.y6 ?_;refine bF ?_;refine aG ?_;refine K.new fun w1 b aD az al=>?_;refine aG ?_;refine K.new fun aR b4 dw aA aI=>?_;have he:=az.trans aA;have dS:=aA.obj al;refine aG ?_;apply K.cond<;>intro g1
 ·have hk:(o.iE n s).2=8:=by rw[o.iE,o.gK (.inl g1)]
  refine aG ?_;intro ba au;refine aG ?_;refine K.cA (cs:=(⟨⟨#[]⟩,0,0,0,0,false⟩:o.c4).enc) (by simp[ey,o.c4.enc]) ?_;refine aG ?_;refine K.kW (cs:=(⟨⟨#[]⟩,0,0,0,0,false⟩:o.c4).enc.toArray) (au.obj aI) rfl rfl (by simp[o.c4.enc,Value.oneCell']) fun bo ed bJ=>?_;refine aG ?_;refine K.gg (c:=o.c4.enc _) bJ (Ext.refl _) rfl ?_;refine aG ?_;exact⟨⟨_,by rw[hk];rfl,by rw[hk];intro h;cases h⟩,ed.ext (he.trans au) (by have:=az.size;omega)⟩
 refine aG ?_;apply K.cond<;>intro g2
 ·have hk:(o.iE n s).2=8:=by rw[o.iE,o.gK (.inr (by omega))]
  refine aG ?_;intro ba au;refine aG ?_;refine K.cA (cs:=(⟨⟨#[]⟩,0,0,0,0,false⟩:o.c4).enc) (by simp[ey,o.c4.enc]) ?_;refine aG ?_;refine K.kW (cs:=(⟨⟨#[]⟩,0,0,0,0,false⟩:o.c4).enc.toArray) (au.obj aI) rfl rfl (by simp[o.c4.enc,Value.oneCell']) fun bo ed bJ=>?_;refine aG ?_;refine K.gg (c:=o.c4.enc _) bJ (Ext.refl _) rfl ?_;refine aG ?_;exact⟨⟨_,by rw[hk];rfl,by rw[hk];intro h;cases h⟩,ed.ext (he.trans au) (by have:=az.size;omega)⟩
 obtain⟨i,rfl⟩:=Int.eq_ofNat_of_zero_le (show 0≤n by omega);have ad:i<s.aH.length:=by omega
 have aN:o.nth s.aH (i:Int)=some s.aH[i]:=by rw[o.h0 (by omega) (by omega)];simp only[Int.toNat_natCast]
 obtain⟨a,rfl⟩:=U.addr (by omega);refine aG ?_;refine K.gg (c:=[_,_,_,_,_,_]) dS (Ext.refl _) rfl ?_;refine aG ?_;refine K.fX _ (fun w' e=>KF _ _ s w' (h.ext (he.trans e))) ?_;refine aG ?_;cases g4:(o.gI s.aH[i].scalar s).2 with
 | false =>
  have hk:(o.iE i s).2=8:=by rw[o.iE,aN];simp only[g4,Bool.false_eq_true,if_false]
  refine aG ?_;intro ba au;refine aG ?_;refine K.cA (cs:=(⟨⟨#[]⟩,0,0,0,0,false⟩:o.c4).enc) (by simp[ey,o.c4.enc]) ?_;refine aG ?_;refine K.kW (cs:=(⟨⟨#[]⟩,0,0,0,0,false⟩:o.c4).enc.toArray) (au.obj aI) rfl rfl (by simp[o.c4.enc,Value.oneCell']) fun bo ed bJ=>?_;refine aG ?_;refine K.gg (c:=o.c4.enc _) bJ (Ext.refl _) rfl ?_;refine aG ?_;exact⟨⟨_,by rw[hk];rfl,by rw[hk];intro h;cases h⟩,ed.ext (he.trans au) (by have:=az.size;omega)⟩
 | true =>
  have hk:(o.iE i s).2=0:=by rw[o.iE,aN];simp only[g4,if_true]
  refine aG ?_;intro ba au;refine aG ?_;refine K.kW (cs:=s.aH[i].enc.toArray) (au.obj aI) rfl rfl (by simp[o.c4.enc,Value.oneCell']) fun bo ed bJ=>?_;refine aG ?_;refine K.gg (c:=o.c4.enc _) bJ (Ext.refl _) rfl ?_;refine aG ?_;exact⟨⟨_,by rw[hk];rfl,fun _=>aN⟩,ed.ext (he.trans au) (by have:=az.size;omega)⟩
end Go.Proofs.R
end
section
set_option linter.unusedSimpArgs false
namespace Go.Proofs.R
open Go Go.RowKit bt
theorem JP{l:List o.Var}{n:Int}{s:o.Scope}{x:o.Var}(h:(o.fj l n s).2.2=true)(aw:o.nth l n=some x) :
  (o.fj l n s).1=kindOf x.scalar∧(o.fj l n s).2.1=kindOf x.over∧0≤x.scalar∧x.scalar≤s.scalars.length∧0≤x.over∧x.over≤s.scalars.length:=by
 unfold o.fj at h ⊢;rw[aw] at h ⊢;simp only[Bool.and_eq_true] at h ⊢;obtain⟨dy,a2,a3⟩:=Sd h.1;obtain⟨bz,b4,bZ⟩:=Sd h.2;exact⟨a3,bZ,dy,a2,bz,b4⟩
theorem aeP(x:o.Node)(cs:List Value)(s:o.Scope)(w:World)(aw:x.ok)(h:o.e2 w cs s)(ko:1≤x.op∧x.op≤8)(ai:x.op≠3)(t:Int) :
  bq Tryz.prog F.B7 #[.agg x.enc.toArray,.agg cs.toArray] w fun v w'=>v = .tuple #[.int .i64 (o.iq x s t).1,.int .i64 (o.iq x s t).2]∧Ext w w':=by
 obtain⟨a0,bN,dy,c1,a2,c2,a3,bK,a4,bQ,rfl,qI,eb,dY,eg,gr,eG,dt,dB,dT,er⟩:=h.form;refine bI E.B7 ?_;refine bF ?_;refine aG ?_;refine K.new fun w1 bz cK az al=>?_;refine aG ?_;refine K.new fun aR b4 dw aA aI=>?_;have he:=az.trans aA;have eO:aR.heap[bz]? = some (.cells #[.int .i64 x.op,.int .i64 x.n] T.k):=aA.obj al;clear al;refine aG ?_;apply K.cond<;>intro g1
 ·have hk:o.iq x s t=if o.within x.n then (0,0) else (0,10):=by rw[o.iq,if_pos g1]
  (repeat' (refine aG ?_;first | (refine K.cond (fun _=>?_) (fun _=>?_)<;>try (exfalso;omega)) | refine K.cX (fun _=>?_) (fun _=>?_)))<;>try refine aG ?_
  all_goals
   refine⟨?_,fc⟩;rw[hk];unfold o.within;split<;>first | rfl | (rename_i df;simp at df;exfalso;omega)
 by_cases aU:x.op=2∨x.op=4
 ·have hk:o.iq x s t=(let q:=o.fj (if x.op=4 then s.locals else s.vars) x.n s;if q.2.2=false then (0,8) else if (x.op=3∧(q.2.1=0∨t≠q.2.1))∨(x.op≠3∧q.2.1≠0) then (0,9) else (q.1,0)):=by
   rw[o.iq,if_neg g1,if_pos (by omega)]
  by_cases g4:x.op=4
  ·rw[if_pos g4] at hk;rw[hk];refine aG ?_;refine K.gg (c:=[_,_,_,_,_,_]) aI (Ext.refl _) rfl ?_;refine aG ?_;refine K.call (C9 _ s.locals x.n _ s aR (gr.ext he) (h.ext he)) ?_;rintro _ ba ⟨⟨y,rfl,cB⟩,au⟩;have dd:(o.fj s.locals x.n s).2.2=true→_:=fun g=>JP g (cB g);clear cB hk;generalize o.fj s.locals x.n s=q at dd ⊢;obtain⟨zp,xd,Kn⟩:=q;refine aG ?_;refine K.rE (vs:=y.enc) (fun _=>by simp -dsimp only[cI,cu,Nat.reduceAdd,Nat.reduceEqDiff,reduceIte,reduceCtorEq,cS]) rfl rfl (by simp[o.Var.enc,Value.oneCell']) fun bo cE fh aP bJ=>?_;have mz:bo.heap[cE]? = some (.cells #[.string y.name,.int .i64 y.scalar,.int .i64 y.over,.int .i64 y.aZ,.int .i64 y.ad,.int .i64 y.init] T.f):=bJ;clear bJ;refine aG ?_;refine K.cX (fun g5=>?_) (fun g5=>?_);rotate_left
   ·refine aG ?_;simp only[g5,if_true];exact cd
   obtain⟨fy,z2,z3,z4,z5,Dz⟩:=dd g5;have uB:kindOf y.over=0↔y.over=0:=by unfold kindOf;split<;>omega
   have xu:zp=kindOf y.scalar:=fy;have xv:xd=kindOf y.over:=z2;refine aG ?_;apply K.cond<;>intro g6
   ·refine aG ?_;refine K.call (FI y.scalar bo (by omega)) ?_;rintro _ _ ⟨rfl,rfl⟩;refine aG ?_;simp only[g5,Bool.true_eq_false,if_false,xu,xv];rw[if_neg (by rw[ne_eq,uB];omega)];exact cd
   ·refine aG ?_;simp only[g5,Bool.true_eq_false,if_false,xu,xv];rw[if_pos (.inr ⟨ai,by rw[ne_eq,uB];exact g6⟩)];exact cd
  ·rw[if_neg g4] at hk;rw[hk];refine aG ?_;refine K.gg (c:=[_,_,_,_,_,_]) aI (Ext.refl _) rfl ?_;refine aG ?_;refine K.call (C9 _ s.vars x.n _ s aR (eb.ext he) (h.ext he)) ?_;rintro _ ba ⟨⟨y,rfl,cB⟩,au⟩;have dd:(o.fj s.vars x.n s).2.2=true→_:=fun g=>JP g (cB g);clear cB hk;generalize o.fj s.vars x.n s=q at dd ⊢;obtain⟨zp,xd,Kn⟩:=q;refine aG ?_;refine K.rE (vs:=y.enc) (fun _=>by simp -dsimp only[cI,cu,Nat.reduceAdd,Nat.reduceEqDiff,reduceIte,reduceCtorEq,cS]) rfl rfl (by simp[o.Var.enc,Value.oneCell']) fun bo cE fh aP bJ=>?_;have mz:bo.heap[cE]? = some (.cells #[.string y.name,.int .i64 y.scalar,.int .i64 y.over,.int .i64 y.aZ,.int .i64 y.ad,.int .i64 y.init] T.f):=bJ;clear bJ;refine aG ?_;refine K.cX (fun g5=>?_) (fun g5=>?_);rotate_left
   ·refine aG ?_;simp only[g5,if_true];exact cd
   obtain⟨fy,z2,z3,z4,z5,Dz⟩:=dd g5;have uB:kindOf y.over=0↔y.over=0:=by unfold kindOf;split<;>omega
   have xu:zp=kindOf y.scalar:=fy;have xv:xd=kindOf y.over:=z2;refine aG ?_;apply K.cond<;>intro g6
   ·refine aG ?_;refine K.call (FI y.scalar bo (by omega)) ?_;rintro _ _ ⟨rfl,rfl⟩;refine aG ?_;simp only[g5,Bool.true_eq_false,if_false,xu,xv];rw[if_neg (by rw[ne_eq,uB];omega)];exact cd
   ·refine aG ?_;simp only[g5,Bool.true_eq_false,if_false,xu,xv];rw[if_pos (.inr ⟨ai,by rw[ne_eq,uB];exact g6⟩)];exact cd
 have hk:o.iq x s t=o.kT x s:=by rw[o.iq,if_neg g1,if_neg (by omega)]
 rw[hk];clear hk;refine aG ?_;apply K.cond<;>intro g5
 ·(repeat' (refine aG ?_;first | (refine K.cond (fun _=>?_) (fun _=>?_)<;>try (exfalso;omega)) | refine K.cX (fun _=>?_) (fun _=>?_)))<;>try refine aG ?_
  all_goals
   refine⟨?_,fc⟩;rw[o.kT,if_pos g5];split<;>first | rfl | (exfalso;omega)
 refine aG ?_;apply K.cond<;>intro g6
 ·have hk:o.kT x s=o.iE x.n s:=by rw[o.kT,if_neg g5,if_pos g6]
  rw[hk];have I5:(o.iE x.n s).1=0∧((o.iE x.n s).2=0∨(o.iE x.n s).2=8):=by
   unfold o.iE; (repeat' split)<;>simp
  refine aG ?_;refine K.gg (c:=[_,_,_,_,_,_]) aI (Ext.refl _) rfl ?_;refine aG ?_;refine K.call (Ts x.n _ s aR (h.ext he)) ?_;rintro _ ba ⟨⟨y,rfl,cB⟩,au⟩;generalize o.iE x.n s=q at *;obtain⟨eb,dY⟩:=q;obtain⟨rfl,aF⟩:=I5;refine aG ?_;refine K.rE (vs:=y.enc) (fun _=>by simp -dsimp only[cI,cu,Nat.reduceAdd,Nat.reduceEqDiff,reduceIte,reduceCtorEq,cS]) rfl rfl (by simp[o.c4.enc,Value.oneCell']) fun bo cE fh aP bJ=>?_;refine aG ?_;apply K.cond<;>intro g7
  ·refine aG ?_;have g8:dY=0:=g7;rw[g8];exact cd
  ·refine aG ?_
   have:dY=8:=aF.resolve_left g7
   rw[this];exact cd
 refine aG ?_;apply K.cond<;>intro g7
 ·have hk:o.kT x s=o.yY x.n s:=by rw[o.kT,if_neg g5,if_neg g6,if_pos g7]
  rw[hk,o.yY];refine aG ?_;apply K.cond<;>intro g1
  ·refine aG ?_;intro ba au;refine aG ?_;rw[if_neg (by omega)];exact cd
  rw[if_pos (by omega)];obtain⟨i,ad⟩:=Int.eq_ofNat_of_zero_le (show 0≤x.n by omega);obtain⟨_,hK⟩:=aw.n;rw[ad] at hK;have aF:x.n.tdiv 16=((i / 16:Nat):Int):=by rw[ad];rfl
  have hm:x.n.tmod 16=((i % 16:Nat):Int):=by rw[ad];rfl
  refine aG ?_;refine K.quo (by omega) ?_;rw[aF];refine aG ?_;apply K.cond<;>intro g2
  ·refine aG ?_;intro ba au;refine aG ?_;rw[o.gK (.inr (by omega))];exact cd
  have aT:i / 16<s.procs.length:=by omega
  rw[o.h0 (by omega) (by omega)];simp only[Int.toNat_natCast];refine aG ?_;refine K.rem (by omega) ?_;refine aG ?_;refine K.quo (by omega) ?_;rw[aF];obtain⟨a,rfl⟩:=eg.addr (by omega);obtain⟨_,cr,dL,Bi,_⟩:=eg.at (i / 16) aT;have IF:w.cell? ((a.add (i / 16*5)).add 2)=some (.int .i64 s.procs[i / 16].cz):=Bi 2 _ rfl;refine aG ?_;refine K.ld ((az.trans aA).cell IF) ?_;refine aG ?_;rw[hm];intro ba au;refine aG ?_;apply K.cond<;>intro g3
  all_goals
   refine aG ?_;refine⟨?_,fc⟩
   first | rw[if_pos (by omega)] | rw[if_neg (by omega)]
 (repeat' (refine aG ?_;first | (refine K.cond (fun _=>?_) (fun _=>?_)<;>try (exfalso;omega)) | refine K.cX (fun _=>?_) (fun _=>?_)))<;>try refine aG ?_
 all_goals
  refine⟨?_,fc⟩;rw[o.kT,if_neg g5,if_neg g6,if_neg g7,if_pos (by omega)];split<;>first | rfl | (exfalso;omega)
end Go.Proofs.R
end
section
set_option linter.unusedSimpArgs false
namespace Go.Proofs.R
open Go Go.RowKit bt
theorem Sj(aq:o.om)(k:Int):o.l2 aq [k]=if aq.h4 = -1∨k=aq.h4 then (aq.makes,0) else (0,9):=by
 simp[o.l2]
theorem ab4(aq:o.om)(a b:Int):o.l2 aq [a,b]=if (aq.h4 = -1∨a=aq.h4)∧a=b then (aq.makes,0) else (0,9):=by
 simp only[o.l2,List.all_cons,List.all_nil,List.headD_cons,Bool.and_true,decide_true];by_cases h:a=b
 ·subst h;simp
 ·have bA:¬b=a:=fun e=>h e.symm;simp[h,bA]
def rF(x:o.Node)(k:Int)(s:o.Scope):Int×Int:=match o.gn x.op with | some aq=>o.l2 aq [k] | none=>o.iq x s k
theorem aeU(x:o.Node)(k:Int)(cs:List Value)(s:o.Scope)(w:World)(h:o.e2 w cs s)(ko:x.op=3∨x.op=9∨x.op=10) :
  bq Tryz.prog F.B8 #[.agg x.enc.toArray,.int .i64 k,.agg cs.toArray] w fun v w'=>v = .tuple #[.int .i64 (rF x k s).1,.int .i64 (rF x k s).2]∧Ext w w':=by
 obtain⟨a0,bN,dy,c1,a2,c2,a3,bK,a4,bQ,rfl,qI,eb,dY,eg,gr,eG,dt,dB,dT,er⟩:=h.form;refine bI E.B8 ?_;refine bF ?_;refine aG ?_;refine K.new fun w1 bz cK az al=>?_;refine aG ?_;refine K.new fun aR b4 dw aA aI=>?_;have he:=az.trans aA;have eO:aR.heap[bz]? = some (.cells #[.int .i64 x.op,.int .i64 x.n] T.k):=aA.obj al;clear al;refine aG ?_;apply K.cond<;>intro g1
 ·have a8:o.gn x.op=none:=by rw[g1];rfl
  have hk:rF x k s=(let q:=o.fj s.vars x.n s;if q.2.2=false then (0,8) else if (x.op=3∧(q.2.1=0∨k≠q.2.1))∨(x.op≠3∧q.2.1≠0) then (0,9) else (q.1,0)):=by
   rw[rF,a8];simp only;rw[o.iq,if_neg (by omega),if_pos (by omega)];simp only[show ¬x.op=4 from by omega,if_false]
  rw[hk];refine aG ?_;refine K.gg (c:=[_,_,_,_,_,_]) aI (Ext.refl _) rfl ?_;refine aG ?_;refine K.call (C9 _ s.vars x.n _ s aR (eb.ext he) (h.ext he)) ?_;rintro _ ba ⟨⟨y,rfl,cB⟩,au⟩;have dd:(o.fj s.vars x.n s).2.2=true→_:=fun g=>JP g (cB g);clear cB hk;generalize o.fj s.vars x.n s=q at dd ⊢;obtain⟨zp,xd,Kn⟩:=q;refine aG ?_;refine K.rE (vs:=y.enc) (fun _=>by simp -dsimp only[cI,cu,Nat.reduceAdd,Nat.reduceEqDiff,reduceIte,reduceCtorEq,cS]) rfl rfl (by simp[o.Var.enc,Value.oneCell']) fun bo cE fh aP bJ=>?_;have mz:bo.heap[cE]? = some (.cells #[.string y.name,.int .i64 y.scalar,.int .i64 y.over,.int .i64 y.aZ,.int .i64 y.ad,.int .i64 y.init] T.f):=bJ;clear bJ;refine aG ?_;refine K.cX (fun g5=>?_) (fun g5=>?_);rotate_left
  ·refine aG ?_;simp only[g5,if_true];exact cd
  obtain⟨fy,z2,z3,z4,z5,Dz⟩:=dd g5;have xu:zp=kindOf y.scalar:=fy;have xv:xd=kindOf y.over:=z2;have uB:xd=if y.over=0 then 0 else 1+y.over:=xv
  refine aG ?_;apply K.cond<;>intro g6
  ·refine aG ?_;simp only[g5,Bool.true_eq_false,if_false];rw[if_pos (.inl ⟨g1,.inl (by rw[uB,if_pos g6])⟩)];exact cd
  rw[if_neg g6] at uB;refine aG ?_;apply K.cond<;>intro g7;rotate_left
  ·refine aG ?_;simp only[g5,Bool.true_eq_false,if_false];rw[if_pos (.inl ⟨g1,.inr (by omega)⟩)];exact cd
  refine aG ?_;refine K.call (FI y.scalar bo (by omega)) ?_;rintro _ _ ⟨rfl,rfl⟩;refine aG ?_;simp only[g5,Bool.true_eq_false,if_false,xu];rw[if_neg (by omega)];exact cd
 have hI:x.op=9→rF x k s=if k=1 then (1,0) else (0,9):=by
  intro e;rw[rF,e];show o.l2 _ [k]=_;rw[Sj];simp
 have iQ:x.op=10→rF x k s=if k=0 then (0,0) else (0,9):=by
  intro e;rw[rF,e];show o.l2 _ [k]=_;rw[Sj];simp
 (repeat' (refine aG ?_;first | (refine K.cond (fun _=>?_) (fun _=>?_)<;>try (exfalso;omega)) | refine K.cX (fun _=>?_) (fun _=>?_)))<;>try refine aG ?_
 all_goals
  refine⟨?_,fc⟩;rcases ko with e | e | e
  ·exact absurd e g1
  ·rw[hI e];split<;>first | rfl | (exfalso;omega)
  ·rw[iQ e];split<;>first | rfl | (exfalso;omega)
def Dr(op a b:Int):Int×Int:=match o.gn op with | some aq=>o.l2 aq [a,b] | none=>(0,9)
theorem ae1(op a b:Int)(w:World)(ko:11≤op∧op≤19) :
  bq Tryz.prog F.B9 #[.int .i64 op,.int .i64 a,.int .i64 b] w fun v w'=>v = .tuple #[.int .i64 (Dr op a b).1,.int .i64 (Dr op a b).2]∧w'=w:=by
 have key:Dr op a b=if a≠b then (0,9) else if op=14∨op=15 then (1,0) else if op=18∨op=19 then (if a=1 then (1,0) else (0,9)) else if op=16∨op=17 then (if a=0 then (1,0) else (0,9)) else (if a=0 then (0,0) else (0,9)):=by
  have av:op=11∨op=12∨op=13∨op=14∨op=15∨op=16∨op=17∨op=18∨op=19:=by omega
  rcases av with e | e | e | e | e | e | e | e | e<;>subst e <;> (show o.l2 _ [a,b]=_)<;>rw[ab4]<;>by_cases A6:a=b<;>simp[A6,o.xf]
 refine bI E.B9 ?_;refine bF ?_
 (repeat' (refine aG ?_;first | (refine K.cond (fun _=>?_) (fun _=>?_)<;>try (exfalso;omega)) | refine K.cX (fun _=>?_) (fun _=>?_)))<;>try refine aG ?_
 all_goals
  refine⟨?_,bu⟩;rw[key]
  (repeat' split)<;>first | rfl | (exfalso;omega)
end Go.Proofs.R
end
section
set_option linter.unusedSimpArgs false
namespace Go.Proofs.R
open Go Go.RowKit bt
theorem Yj{s:o.Scope}{x:o.Node}{st:List Int}(h:o.e9 x.op=0):o.fP s x st=o.iq x s (st.getLastD 0):=by
 unfold o.fP;rw[(FV h).2.2.2]
theorem Yk{s:o.Scope}{x:o.Node}{st:List Int}(h:o.e9 x.op=1)(aQ:1≤st.length):o.fP s x st=rF x st[st.length - 1] s:=by
 unfold o.fP rF;cases a8:o.gn x.op with
 | none=>simp only;rw[H7 st (by omega)]
 | some aq =>
  have:=(o.CP a8).1
  simp only;rw[show aq.parts.toNat=1 from by omega,HG aQ]
theorem Yl{s:o.Scope}{x:o.Node}{st:List Int}(h:o.e9 x.op=2)(aQ:2≤st.length):o.fP s x st=Dr x.op st[st.length - 2] st[st.length - 1]:=by
 unfold o.fP Dr;obtain⟨aq,a8,aO⟩:=S4 (show 9≤x.op∧x.op≤19 by have:=FW h;omega);rw[a8];simp only;rw[show aq.parts.toNat=2 from by omega,Pc aQ]
theorem Tx(hg:Value)(e:List o.Node)(cs:List Value)(s:o.Scope)(w:World)(he:o.fA w hg e)(h:o.e2 w cs s) :
  bq Tryz.prog F.y7 #[hg,.agg cs.toArray] w fun v w'=>v = .tuple #[.int .i64 (o.kind e s).1,.int .i64 (o.kind e s).2]∧Ext w w':=by
 obtain⟨v0,v1,v2,v3,v4,rfl,_⟩:=h.ex;obtain⟨bh,cap,rfl,hlen⟩:=he.form;refine bI E.y7 ?_;refine bF ?_;refine aG ?_;refine K.new fun w1 c6 uI az al=>?_;refine aG ?_;apply K.cond<;>intro g1
 ·refine aG ?_;rw[o.kind,o.lx,if_pos (by omega)];exact cd
 refine aG ?_;apply K.cond<;>intro g2
 ·refine aG ?_;rw[o.kind,o.lx,if_neg (by omega),if_pos (by omega)];exact cd
 refine aG ?_;refine K.yn 7 e.length (fun k S w' => ∃v st,S 6=v∧kZ w1.heap.size w' v st∧o.gh (o.fP s) (e.take k) []=(0,st)∧(0<k→1≤st.length)∧st.length≤12∧Ext w1 w')
  (by simp -dsimp only[cI,cu,Nat.reduceAdd,Nat.reduceEqDiff,reduceIte,reduceCtorEq,cS]) ⟨.slice none 0 0,[],by simp -dsimp only[cI,cu,Nat.reduceAdd,Nat.reduceEqDiff,reduceIte,reduceCtorEq,cS],bp.nil _ _ _ _ _,by simp[o.gh],by simp,by simp,Ext.refl _⟩ ?_
 rintro k S aR ch hk b7 ⟨v6,st,bL,fB,gz,A2,po,aA⟩;have aj:=ch 0 rfl;have ai:=ch 3 rfl;simp only[cb,Nat.reduceAdd,Nat.reduceEqDiff,reduceIte,ij,k7] at aj ai;clear ch;obtain⟨qF,pf,rfl,dm,qp⟩:=fB.form;have ad:Ints aR _ st:=bp.o0 (enc:=encI) (sz:=1) (fun _=>rfl) fB;unfold maxLen at qp;refine cV (And.intro aj (And.intro ai (And.intro bL b7))) ?_;apply K.cond<;>intro g3;rotate_left
 ·have bb:k=e.length:=by omega
  subst bb;rw[List.take_length] at gz;have h1:=A2 (by omega);obtain⟨a,rfl⟩:=ad.addr h1;have e0:o.kind e s=if st.length > 1 then (0,5) else (st.headD 0,0):=by
   rw[o.kind,o.lx,if_neg (by omega),if_neg (by omega),gz,if_neg (by simp)]
  rw[e0];clear e0;refine cV (And.intro aj (And.intro ai (And.intro bL b7))) ?_;apply K.cond<;>intro g4
  ·refine aG ?_;rw[if_pos (by omega)];exact cd
  ·refine cV (And.intro aj (And.intro ai (And.intro bL b7))) ?_;refine K.dr 0 rfl (by omega) ?_;refine aG ?_;rw[if_neg (by omega)]
   have:st.headD 0=st[0]:=by
    cases st with
    | nil=>simp at h1
    | cons z st=>rfl
   rw[this];exact cd
 have bb:k<e.length:=by omega
 obtain⟨a,rfl⟩:=he.addr (by omega);have rv:=(he.at k bb).ok;have iX:=fun aj=>o.KG (f:=o.fP s) (e:=e) (by omega) bb gz aj;have rp:=o.C7 bb gz;have A0:=az.trans aA;have dS:=aA.obj al;refine cV (And.intro aj (And.intro ai (And.intro bL b7))) ?_;refine K.call (Ut e[k].op aR) ?_;rintro _ _ ⟨rfl,rfl⟩;generalize aN:o.e9 e[k].op=n at *;have jt : -1≤n∧n≤2:=by rw[←aN];unfold o.e9; (repeat' split)<;>omega
 refine cV (And.intro aj (And.intro ai (And.intro bL b7))) ?_;apply K.cond<;>intro g4
 ·have ay:o.stepG (o.fP s) e[k] st=(3,st):=by unfold o.stepG;rw[aN,if_pos g4]
  rw[ay] at iX;refine aG ?_;rw[o.kind,iX (by simp)];exact cd
 refine cV (And.intro aj (And.intro ai (And.intro bL b7))) ?_;apply K.cond<;>intro g5
 ·have ay:o.stepG (o.fP s) e[k] st=(4,st):=by unfold o.stepG;rw[aN,if_neg g4,if_pos g5]
  rw[ay] at iX;refine aG ?_;rw[o.kind,iX (by simp)];exact cd
 obtain⟨p,rfl⟩:=Int.eq_ofNat_of_zero_le (show 0≤n by omega);have ea:o.stepG (o.fP s) e[k] st=if (o.fP s e[k] st).2≠0 then ((o.fP s e[k] st).2,st) else if (st.take (st.length - p)++[(o.fP s e[k] st).1]).length > 12 then (12,st) else (0,st.take (st.length - p)++[(o.fP s e[k] st).1]):=by
  unfold o.stepG;rw[aN,if_neg g4,if_neg g5];simp only[Int.toNat_natCast]
 have gV:(st.take (st.length - p)++[(o.fP s e[k] st).1]).length=st.length - p+1:=by simp[List.length_take]
 rw[gV] at ea;have fin:p=0∨p=1∨p=2:=by omega
 rcases fin with wz | wz | wz
 ·have aJ:=Yj (s:=s) (st:=st) (x:=e[k]) (by omega);obtain⟨fy,z2,z3,z4⟩:=FV (x:=e[k].op) (by omega);refine cV (And.intro aj (And.intro ai (And.intro bL b7))) ?_;refine K.gg (c:=[_,_,_,_,_,_]) dS (Ext.refl _) rfl ?_;refine cV (And.intro aj (And.intro ai (And.intro bL b7))) ?_;refine K.fX _ (fun w' e'=>aeP e[k] _ s w' rv (h.ext (A0.trans e')) ⟨fy,z2⟩ z3 (st.getLastD 0)) ?_;rw[←aJ];refine cV (And.intro aj (And.intro ai (And.intro bL b7))) ?_;intro ba au;refine cV (And.intro aj (And.intro ai (And.intro bL b7))) ?_;apply K.cond<;>intro g6;rotate_left
  ·rw[if_pos g6] at ea;refine aG ?_;rw[o.kind,iX (by rw[ea];exact g6),ea];exact cd
  rw[if_neg (by simpa using g6)] at ea;have eM:=fB.ext au;refine cV (And.intro aj (And.intro ai (And.intro bL b7))) ?_;refine K.kg (cs:=[]) (by simp[List.range,List.range.loop,ey]) fun bo cE fh aP bJ=>?_;have z12:=aA.size;have z23:=au.size;have zP:=aP.size;have qh:kZ w1.heap.size bo (.slice (some ⟨cE,0,none⟩) 0 0) []:=bp.empty (by omega) bJ;have ev:=eM.ext aP;have ek:kZ w1.heap.size bo (.slice _ (st.length - p) _) (st.take (st.length - p)):=bp.head (enc:=encI) (sz:=1) (xs:=st) (fun _=>rfl) ev (st.length - p) (Nat.sub_le _ _);have ck:(st.take (st.length - p)).length=st.length - p:=by simp[List.length_take]
  refine cV (And.intro aj (And.intro ai (And.intro bL b7))) ?_;refine K.rK (st.length - p) (by refine b2 bL ?_;first | rfl | (congr 1;omega)) (by omega) ?_;refine aG ?_;refine K.xS (xs:=[]) (ys:=st.take (st.length - p)) qh ek (fun _=>rfl) pj (by rw[ck];simp only[List.length_nil];omega) (by rw[ck];simp only[List.length_nil,maxLen];omega) (by omega) fun v5 bR lY iC=>?_;have lX:Ext ba bR:=aP.grown iC fun q aF=>by simp[Value.ownBlock] at aF;omega
  rw[List.nil_append] at lY;have z35:=lX.size;refine aG ?_;refine K.kg (cs:=[(o.fP s e[k] st).1].flatMap encI) (by simp[List.range,List.range.loop,ey,lay,fr,cb,Value.cells,encI]) fun bW ie gG bc dm=>?_;have xw:=bc.size;have dn:=lY.ext bc;refine aG ?_;refine K.qZ (xs:=st.take (st.length - p)) (ys:=[(o.fP s e[k] st).1]) dn (fun _=>rfl) (fZ dm) rfl pj (by rw[ck];simp only[List.length_cons,List.length_nil];omega) (by rw[ck];simp only[List.length_cons,List.length_nil,maxLen];omega) (by omega) fun zK cj dX iV=>?_;have bP:Ext w1 cj:=Ext.grown (((aA.trans au).trans lX).trans bc) iV fun q aF=>(dn.lt q aF).1;obtain⟨CO,vG,rfl,_⟩:=dX.form;rw[gV] at dX ⊢;by_cases g7:12<st.length - p+1
  ·rw[if_pos (by omega)] at ea
   first
    | (exfalso;omega)
    | (refine aG ?_
       rw[o.kind,iX (by rw[ea];simp),ea];exact⟨bu,az.trans bP⟩)
  rw[if_neg (by omega)] at ea;refine cV b7 ?_;refine⟨bb,bu,_,_,rfl,dX,by rw[rp,ea],fun _=>by rw[gV];omega,by rw[gV];omega,bP⟩
 ·have aJ:=Yk (s:=s) (st:=st) (x:=e[k]) (by omega) (by omega);obtain⟨k1,rfl⟩:=ad.addr (by omega);refine cV (And.intro aj (And.intro ai (And.intro bL b7))) ?_;refine K.dr (st.length - 1) (by omega) (by omega) ?_;refine cV (And.intro aj (And.intro ai (And.intro bL b7))) ?_;refine K.gg (c:=[_,_,_,_,_,_]) dS (Ext.refl _) rfl ?_;refine cV (And.intro aj (And.intro ai (And.intro bL b7))) ?_;refine K.fX _ (fun w' e'=>aeU e[k] _ _ s w' (h.ext (A0.trans e')) (SU (by omega))) ?_;rw[←aJ];refine cV (And.intro aj (And.intro ai (And.intro bL b7))) ?_;intro ba au;refine cV (And.intro aj (And.intro ai (And.intro bL b7))) ?_;apply K.cond<;>intro g6;rotate_left
  ·rw[if_pos g6] at ea;refine aG ?_;rw[o.kind,iX (by rw[ea];exact g6),ea];exact cd
  rw[if_neg (by simpa using g6)] at ea;have eM:=fB.ext au;refine cV (And.intro aj (And.intro ai (And.intro bL b7))) ?_;refine K.kg (cs:=[]) (by simp[List.range,List.range.loop,ey]) fun bo cE fh aP bJ=>?_;have z12:=aA.size;have z23:=au.size;have zP:=aP.size;have qh:kZ w1.heap.size bo (.slice (some ⟨cE,0,none⟩) 0 0) []:=bp.empty (by omega) bJ;have ev:=eM.ext aP;have ek:kZ w1.heap.size bo (.slice _ (st.length - p) _) (st.take (st.length - p)):=bp.head (enc:=encI) (sz:=1) (xs:=st) (fun _=>rfl) ev (st.length - p) (Nat.sub_le _ _);have ck:(st.take (st.length - p)).length=st.length - p:=by simp[List.length_take]
  refine cV (And.intro aj (And.intro ai (And.intro bL b7))) ?_;refine K.rK (st.length - p) (by refine b2 bL ?_;first | rfl | (congr 1;omega)) (by omega) ?_;refine aG ?_;refine K.xS (xs:=[]) (ys:=st.take (st.length - p)) qh ek (fun _=>rfl) pj (by rw[ck];simp only[List.length_nil];omega) (by rw[ck];simp only[List.length_nil,maxLen];omega) (by omega) fun v5 bR lY iC=>?_;have lX:Ext ba bR:=aP.grown iC fun q aF=>by simp[Value.ownBlock] at aF;omega
  rw[List.nil_append] at lY;have z35:=lX.size;refine aG ?_;refine K.kg (cs:=[(o.fP s e[k] st).1].flatMap encI) (by simp[List.range,List.range.loop,ey,lay,fr,cb,Value.cells,encI]) fun bW ie gG bc dm=>?_;have xw:=bc.size;have dn:=lY.ext bc;refine aG ?_;refine K.qZ (xs:=st.take (st.length - p)) (ys:=[(o.fP s e[k] st).1]) dn (fun _=>rfl) (fZ dm) rfl pj (by rw[ck];simp only[List.length_cons,List.length_nil];omega) (by rw[ck];simp only[List.length_cons,List.length_nil,maxLen];omega) (by omega) fun zK cj dX iV=>?_;have bP:Ext w1 cj:=Ext.grown (((aA.trans au).trans lX).trans bc) iV fun q aF=>(dn.lt q aF).1;obtain⟨CO,vG,rfl,_⟩:=dX.form;rw[gV] at dX ⊢;by_cases g7:12<st.length - p+1
  ·rw[if_pos (by omega)] at ea
   first
    | (exfalso;omega)
    | (refine aG ?_
       rw[o.kind,iX (by rw[ea];simp),ea];exact⟨bu,az.trans bP⟩)
  rw[if_neg (by omega)] at ea;refine cV b7 ?_;refine⟨bb,bu,_,_,rfl,dX,by rw[rp,ea],fun _=>by rw[gV];omega,by rw[gV];omega,bP⟩
 ·have aJ:=Yl (s:=s) (st:=st) (x:=e[k]) (by omega) (by omega);obtain⟨k1,rfl⟩:=ad.addr (by omega);refine cV (And.intro aj (And.intro ai (And.intro bL b7))) ?_;refine K.dr (st.length - 2) (by omega) (by omega) ?_;refine cV (And.intro aj (And.intro ai (And.intro bL b7))) ?_;refine K.dr (st.length - 1) (by omega) (by omega) ?_;refine cV (And.intro aj (And.intro ai (And.intro bL b7))) ?_;refine K.fX _ (fun w' e'=>(ae1 e[k].op _ _ w' (FW (by omega))).mono fun v bY h=>⟨h.1,h.2 ▸ Ext.refl _⟩) ?_;rw[←aJ];refine cV (And.intro aj (And.intro ai (And.intro bL b7))) ?_;intro ba au;refine cV (And.intro aj (And.intro ai (And.intro bL b7))) ?_;apply K.cond<;>intro g6;rotate_left
  ·rw[if_pos g6] at ea;refine aG ?_;rw[o.kind,iX (by rw[ea];exact g6),ea];exact cd
  rw[if_neg (by simpa using g6)] at ea;have eM:=fB.ext au;refine cV (And.intro aj (And.intro ai (And.intro bL b7))) ?_;refine K.kg (cs:=[]) (by simp[List.range,List.range.loop,ey]) fun bo cE fh aP bJ=>?_;have z12:=aA.size;have z23:=au.size;have zP:=aP.size;have qh:kZ w1.heap.size bo (.slice (some ⟨cE,0,none⟩) 0 0) []:=bp.empty (by omega) bJ;have ev:=eM.ext aP;have ek:kZ w1.heap.size bo (.slice _ (st.length - p) _) (st.take (st.length - p)):=bp.head (enc:=encI) (sz:=1) (xs:=st) (fun _=>rfl) ev (st.length - p) (Nat.sub_le _ _);have ck:(st.take (st.length - p)).length=st.length - p:=by simp[List.length_take]
  refine cV (And.intro aj (And.intro ai (And.intro bL b7))) ?_;refine K.rK (st.length - p) (by refine b2 bL ?_;first | rfl | (congr 1;omega)) (by omega) ?_;refine aG ?_;refine K.xS (xs:=[]) (ys:=st.take (st.length - p)) qh ek (fun _=>rfl) pj (by rw[ck];simp only[List.length_nil];omega) (by rw[ck];simp only[List.length_nil,maxLen];omega) (by omega) fun v5 bR lY iC=>?_;have lX:Ext ba bR:=aP.grown iC fun q aF=>by simp[Value.ownBlock] at aF;omega
  rw[List.nil_append] at lY;have z35:=lX.size;refine aG ?_;refine K.kg (cs:=[(o.fP s e[k] st).1].flatMap encI) (by simp[List.range,List.range.loop,ey,lay,fr,cb,Value.cells,encI]) fun bW ie gG bc dm=>?_;have xw:=bc.size;have dn:=lY.ext bc;refine aG ?_;refine K.qZ (xs:=st.take (st.length - p)) (ys:=[(o.fP s e[k] st).1]) dn (fun _=>rfl) (fZ dm) rfl pj (by rw[ck];simp only[List.length_cons,List.length_nil];omega) (by rw[ck];simp only[List.length_cons,List.length_nil,maxLen];omega) (by omega) fun zK cj dX iV=>?_;have bP:Ext w1 cj:=Ext.grown (((aA.trans au).trans lX).trans bc) iV fun q aF=>(dn.lt q aF).1;obtain⟨CO,vG,rfl,_⟩:=dX.form;rw[gV] at dX ⊢;by_cases g7:12<st.length - p+1
  ·rw[if_pos (by omega)] at ea
   first
    | (exfalso;omega)
    | (refine aG ?_
       rw[o.kind,iX (by rw[ea];simp),ea];exact⟨bu,az.trans bP⟩)
  rw[if_neg (by omega)] at ea;refine cV b7 ?_;refine⟨bb,bu,_,_,rfl,dX,by rw[rp,ea],fun _=>by rw[gV];omega,by rw[gV];omega,bP⟩
end Go.Proofs.R
end