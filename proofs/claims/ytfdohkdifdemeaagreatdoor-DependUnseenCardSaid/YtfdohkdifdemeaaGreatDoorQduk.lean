/- Parts. -/
import Derived.Test.YtfdohkdifdemeaaGreatDoorQduj
set_option linter.all false
set_option maxRecDepth 8000
set_option maxHeartbeats 4000000
section
namespace Go.Proofs.R
open Go Go.RowKit bt
theorem aku(f:o.Node->List Int->Int×Int)(two:o.pz->List Int->Int×Int)(leaf:o.Node->List Int->Int×Int)(aK:Ob f two leaf)(cQ:Int->Prop)
  (b:Nat)(w0 w:World)(HR:Ext w0 w)(sL:w0.heap.size<=b)(ht l2 v2:Value)(e:List o.Node)(he:o.fW w0 ht e)(aC:w.heap[b]? = some (.cells #[.slice none 0 0,.map none] T.zo))
  (Dm:∀x st,x.ok->(∀z∈st,cQ z)->0<=o.e0 x.op->o.e0 x.op<=st.length->(f x st).2=0->cQ (f x st).1)
  (LV:∀x st base m w',x.ok->Mod (fun k=>k=b) w w'->ru base b w' m st->(∀z∈st,cQ z)->0<=o.e0 x.op->o.e0 x.op<=st.length->o.gI x.op=none->∀av da t,Ext w' av ->
   (∀b2,Ext av b2->da (.tuple #[.int .i64 (leaf x st).1,.int .i64 (leaf x st).2]) b2)->w7 Tryz.prog l2 [.agg x.enc.toArray] av da t)
  (Mj:∀al e1 ga l w' da t,Mod (fun k=>k=b) w w'->BP w' al e1->(∃x,o.gI x=some al)->al.parts=l.length->Ints w' ga l ->
   (∀b2,Ext w' b2->da (.tuple #[.int .i64 (two al l).1,.int .i64 (two al l).2]) b2)->vf Tryz.prog v2 [e1,ga] w' da t) :
  bu Tryz.prog F.Cx #[.pointer (some ⟨b,0,none⟩),ht,l2,v2] w fun v w' =>
   v = .tuple #[.int .i64 (o.ko f e).1,.int .i64 (o.ko f e).2]/\Mod (fun k=>k=b) w w':=by
 obtain⟨bl,cap,rfl,hlen⟩:=he.form;refine bL E.Cx ?_;refine bG ?_;refine aQ ?_;apply K.cond<;>intro g1
 .refine aQ ?_;rw[o.ko,if_pos (by omega)];exact⟨rfl,Mod.refl _ _⟩
 refine aQ ?_;apply K.cond<;>intro g2
 .refine aQ ?_;rw[o.ko,if_neg (by omega),if_pos (by omega)];exact⟨rfl,Mod.refl _ _⟩
 refine aQ ?_;refine K.call (aiQ w) ?_;rintro m av ⟨DE,aB⟩;refine aQ ?_;refine K.st1 (aB.obj aC) (by decide) (by obtain⟨r,_,_,_,e,_⟩:=DE;rw[e];rfl) fun aU s0 aP=>?_;have Da:aU.heap[b]? = some (.cells #[.slice none 0 0,m] T.zo):=aP;clear aP;have afE:pA aU m:=DE.mod (A:=fun k=>k=b) (s0.mod rfl) fun k al h1 U hk=>by
  subst hk;rw[aB.obj aC] at h1;injection h1 with h1
  rcases U with ⟨es,c,U⟩ | ⟨cs,U⟩
  .rw[U] at h1;cases h1
  .rw[U] at h1;injection h1 with _ h1
   cases h1
 have US:Mod (fun k=>k=b) w aU:=aB.mod.trans (s0.mod rfl);have cw:b<aU.heap.size:=cH Da;refine aQ ?_;refine K.zX 27 e.length (fun k S w'=>Mod (fun k=>k=b) aU w'/\∃st,o.eS f (e.take k) []=(0,st)/\ru aU.heap.size b w' m st/\(0<k->1<=st.length)/\st.length<=12/\∀z∈st,cQ z)
  (by simp -dsimp only[c4,cF,Nat.reduceAdd,Nat.reduceEqDiff,reduceIte,reduceCtorEq,db]) ⟨Mod.refl _ _,[],by simp[o.eS],⟨⟨_,Da,bs.nil _ _ _ _ _⟩,cw,Nat.le_refl _⟩,by simp,by simp,by simp⟩ ?_
 rintro k S bb cg hk nH ⟨uu,st,hn,Dz,CT,qH,wb⟩;have ak:=cg 0 rfl;have h1:=cg 1 rfl;have U:=cg 2 rfl;have ag:=cg 3 rfl;have sJ:=cg 25 rfl;have mh:=cg 26 rfl;simp only[cu,Nat.reduceAdd,Nat.reduceEqDiff,reduceIte,jg,me] at ak h1 U ag sJ mh;clear cg;have HE:Mod (fun k=>k=b) w bb:=US.trans uu;refine dq (zI ak (zI h1 (zI U (zI ag (zI sJ (zI mh nH)))))) ?_;apply K.cond<;>intro g3
 .have br:k<e.length:=by omega
  have anC:Ext w0 bb:=HE.ext HR fun q aG e=>by omega
  obtain⟨a,rfl⟩:=he.addr (by omega);have s5:=(he.at k br).ok;have jW:=fun ak=>o.NT (f:=f) (e:=e) (by omega) br hn ak;have sY:=o.wT br hn;have afF:pA bb m:=afE.mod (A:=fun k=>k=b) uu fun k al h1 U hk=>by
   subst hk;rw[Da] at h1;injection h1 with h1
   rcases U with ⟨es,c,U⟩ | ⟨cs,U⟩
   .rw[U] at h1;cases h1
   .rw[U] at h1;injection h1 with _ h1
    cases h1
  refine dq (zI ak (zI h1 (zI U (zI ag (zI sJ (zI mh nH)))))) ?_;generalize au:e[k]=x at *;refine K.tf (vs:=x.enc) (fun _=>by simp -dsimp only[c4,cF,Nat.reduceAdd,Nat.reduceEqDiff,reduceIte,reduceCtorEq,db]) rfl rfl (by simp[o.Node.enc,Value.oneCell']) fun bp cM fM aN bA=>?_;refine dq (zI ak (zI h1 (zI U (zI ag (zI sJ (zI mh nH)))))) ?_;refine K.gS (c:=x.enc) bA (Ext.refl _) rfl ?_;refine dq (zI ak (zI h1 (zI U (zI ag (zI sJ (zI mh nH)))))) ?_;have LY:Mod (fun k=>k=b) w bp:=HE.trans aN.mod;refine K.call (alx f two leaf aK x aU.heap.size b bp m l2 v2 st (Dz.ext aN) (afF.ext aN) (by omega)
   (fun dH dM eh w' da t DP hk=>LV x st _ m bp s5 LY (Dz.ext aN) wb dH dM eh w' da t DP hk)
   (fun al e1 ga w' da t DP dH dM eh hc hk=>Mj al e1 ga _ w' da t (LY.trans DP.mod) dM ⟨_,dH⟩ (by have:=WT dH;simp[List.length_drop];omega) hc hk)) ?_
  rintro _ bR ⟨rfl,lr,Vm⟩;have afr:Mod (fun k=>k=b) w bR:=LY.then lr fun i ad h=>by
   rcases h with h | h
   .exact h
   .have:=US.size;omega
  refine dq (zI ak (zI h1 (zI U (zI ag (zI sJ (zI mh nH)))))) ?_;apply K.cond<;>intro g4;rotate_left
  .refine dq (zI ak (zI h1 (zI U (zI ag (zI sJ (zI mh nH)))))) ?_;rw[jW g4];exact⟨bk,afr⟩
  have Dw:=o.alw g4;have ae7:∀z∈(o.stepG f x st).2,cQ z:=by
   have aZ:=Dm x st s5 wb;clear jW sY Dw Vm;unfold o.stepG at g4 ⊢;by_cases dH:o.e0 x.op<0
   .rw[if_pos dH] at g4;cases g4
   by_cases dM:(st.length:Int)<o.e0 x.op
   .rw[if_neg dH,if_pos dM] at g4;cases g4
   by_cases eh:(f x st).2≠0
   .rw[if_neg dH,if_neg dM,if_pos eh] at g4;exact absurd g4 eh
   by_cases hc:(st.take (st.length - (o.e0 x.op).toNat)++[(f x st).1]).length > 12
   .rw[if_neg dH,if_neg dM,if_neg eh,if_pos hc] at g4;cases g4
   rw[if_neg dH,if_neg dM,if_neg eh,if_neg hc];intro z bQ;rcases List.mem_append.1 bQ with bQ | bQ
   .exact wb z (List.mem_of_mem_take bQ)
   .simp at bQ;subst bQ;exact aZ (by omega) (by omega) (by simpa using eh)
  refine dq (zI ak (zI h1 (zI U (zI ag (zI sJ (zI mh nH)))))) ?_;refine⟨br,bk,?_,(o.stepG f x st).2,?_,Vm g4,fun _=>Dw.1,Dw.2,ae7⟩
  .refine(uu.trans aN.mod).then lr fun i ad h=>?_;rcases h with h | h
   .exact h
   .omega
  .rw[sY];exact Prod.ext g4 rfl
 .have br:k=e.length:=by omega
  subst br;rw[List.take_length] at hn;obtain⟨yQ,dm,gj⟩:=Dz.ex;obtain⟨jH,oZ,rfl,De,ik⟩:=gj.form;have ad:Ints bb _ st:=bs.pq (enc:=encI) (sz:=1) (fun _=>rfl) gj;have h1:=CT (by omega);obtain⟨a,rfl⟩:=ad.addr h1;have fF:o.ko f e=if st.length > 1 then (0,5) else (st.headD 0,0):=by
   rw[o.ko,if_neg (by omega),if_neg (by omega),hn,if_neg (by simp)]
  rw[fF];clear fF;refine dq (zI ak (zI h1 (zI U (zI ag (zI sJ (zI mh nH)))))) ?_;apply K.cond<;>intro g4
  .refine aQ ?_;rw[if_pos (by omega)];exact⟨rfl,HE⟩
  .refine dq (zI ak (zI h1 (zI U (zI ag (zI sJ (zI mh nH)))))) ?_;refine K.dp 0 rfl (by omega) ?_;refine aQ ?_;rw[if_neg (by omega)]
   have:st.headD 0=st[0]:=by
    cases st with
    | nil=>simp at h1
    | cons z st=>rfl
   rw[this];exact⟨bk,HE⟩
theorem ahg(al:o.pz)(u ga:Value)(l:List Int)(w:World)(aS:Ints w ga l) :
  bu Tryz.prog F.el #[.agg #[.int .i64 al.parts,.int .i64 al.iX,.int .i64 al.makes,u],ga] w fun v w'=>v = .tuple #[.int .i64 (o.nd al l).1,.int .i64 (o.nd al l).2]/\Ext w w':=by
 obtain⟨bl,cap,rfl,hlen⟩:=aS.form;refine bL E.el ?_;refine bG ?_;refine aQ ?_;refine K.new fun av b aC aB ao=>?_;refine aQ ?_;refine K.zX 10 l.length (fun k S w'=>w'=av/\(l.take k).all (fun k=>(decide (al.iX = -1)||decide (k=al.iX))&&decide (k=l.headD 0))=true) (by simp -dsimp only[c4,cF,Nat.reduceAdd,Nat.reduceEqDiff,reduceIte,reduceCtorEq,db]) ⟨rfl,by simp⟩ ?_;rintro k S aU cg hk jS ⟨rfl,dF⟩;have h1:=cg 1 rfl;have U:=cg 2 rfl;have dE:=cg 8 rfl;have iC:=cg 9 rfl;simp only[cu,Nat.reduceAdd,Nat.reduceEqDiff,reduceIte,jg,me] at h1 U dE iC;clear cg;refine dq (zI h1 (zI U (zI dE (zI iC jS)))) ?_;apply K.cond<;>intro g1;rotate_left
 .rw[List.take_of_length_le (by omega)] at dF;refine dq (zI h1 (zI U (zI dE (zI iC jS)))) ?_;rw[o.nd,if_pos dF];exact cC
 have br:k<l.length:=by omega
 obtain⟨a,rfl⟩:=aS.addr (by omega);have wu:l.take (k+1)=l.take k++[l[k]]:=List.take_succ_eq_append_getElem br;have K4:=List.all_append (xs:=l.take (k+1)) (ys:=l.drop (k+1)) (f:=fun k=>(decide (al.iX = -1)||decide (k=al.iX))&&decide (k=l.headD 0));rw[List.take_append_drop,wu,List.all_append] at K4;have ak:l.headD 0=l[0]:=by
  cases l with
  | nil=>simp at br
  | cons z l=>rfl
 have Hb:((decide (al.iX = -1)||decide (l[k]=al.iX))&&decide (l[k]=l.headD 0))=false->o.nd al l=(0,9):=by
  intro h;rw[o.nd,if_neg (by rw[K4];simp only[List.all_cons,List.all_nil,h];simp)]
 have Dm:((decide (al.iX = -1)||decide (l[k]=al.iX))&&decide (l[k]=l.headD 0))=true->(l.take (k+1)).all (fun k=>(decide (al.iX = -1)||decide (k=al.iX))&&decide (k=l.headD 0))=true:=by
  intro h;rw[wu,List.all_append,dF];simp only[List.all_cons,List.all_nil,h];rfl
 rw[ak] at Hb;clear K4;have aO:0<l.length:=by omega
 have pd:Ints aU (.slice (some a) l.length cap) l:=aS.ext aB;have Hx:=Dm;rw[ak] at Dm dF
 (repeat' first
 | (refine K.cond (fun _=>?_) (fun _=>?_)<;>try (exfalso;omega))
 | (refine K.du (fun _=>?_) (fun _=>?_))
 | assumption
 | exact Ext.refl _
 | refine Ext.trans ?_ (by assumption)
 | refine K.wrap (by omega) ?_
 | refine K.ta (by assumption) ?_ rfl ?_
 | refine K.q0 (by assumption) ?_ rfl ?_
 | refine K.uM (by assumption) ?_ (by omega) rfl ?_
 | refine K.uN (by assumption) ?_ (by omega) rfl ?_
 | refine K.uL (by assumption) ?_ (by omega) rfl ?_
 | refine K.uD (by omega) ?_
 | refine K.sy (by first | assumption | omega) ?_
 | refine K.tO (by first | assumption | omega) ?_
 | refine K.qC (by assumption) ?_
 | refine K.rI (by assumption) ?_
 | simp -dsimp only[c4,cF,Nat.reduceAdd,Nat.reduceEqDiff,reduceIte,reduceCtorEq,db,h1,U,dE,iC,jS])
 all_goals first
  | (have dm:=Hb (by simp;omega);rw[dm];refine⟨bk,aB⟩)
  | (refine⟨by omega,bk,trivial,?_⟩;rw[ak];exact Dm (by simp;omega))
theorem ag6(x:o.Node)(cs:List Value)(s:o.Scope)(base b pm dy:Nat)(w:World)(m:Value)(st:List Int)(alI:TypeId)(au:x.ok)(h:o.fC w cs s)(hm:ru base b w m st)(ag:x.op=3->0<st.length)
  (Va:w.heap[pm]? = some (.cells #[.pointer (some ⟨b,0,none⟩)] alI))(wm:w.heap[dy]? = some (.cells cs.toArray T.e)) :
  bu Tryz.prog F.pN #[.agg x.enc.toArray,.pointer (some ⟨pm,0,none⟩),.pointer (some ⟨dy,0,none⟩)] w fun v w' =>
   v = .tuple #[.int .i64 (o.il x s (st.getLastD 0)).1,.int .i64 (o.il x s (st.getLastD 0)).2]/\Ext w w':=by
 obtain⟨v0,v1,v2,v3,v4,rfl,_⟩:=h.ex;refine bL E.pN ?_;refine bG ?_;refine aQ ?_;refine K.new fun av bC cR aB ao=>?_;have dc:av.heap[bC]? = some (.cells x.enc.toArray T.f):=ao;refine aQ ?_;refine K.gS (c:=x.enc) dc (Ext.refl _) rfl ?_;refine aQ ?_;refine K.gS wm aB rfl ?_;refine aQ ?_;refine K.call (ag9 x _ s base b av m st au (h.ext aB) (hm.ext aB) ag) ?_;rintro _ aU ⟨rfl,aA⟩;refine aQ ?_;exact cC
theorem acU(s:o.Scope):Ob (o.e5 s) o.nd fun x st=>o.il x s (st.getLastD 0):=fun _ _=>rfl
theorem V4(ht:Value)(e:List o.Node)(cs:List Value)(s:o.Scope)(w:World)(he:o.fW w ht e)(h:o.fC w cs s) :
  bu Tryz.prog F.zB #[ht,.agg cs.toArray] w fun v w'=>v = .tuple #[.int .i64 (o.kind e s).1,.int .i64 (o.kind e s).2]/\Ext w w':=by
 obtain⟨v0,v1,v2,v3,v4,rfl,_⟩:=h.ex;refine bL E.zB ?_;refine bG ?_;refine aQ ?_;refine K.new fun av dy wm aB ao=>?_;refine aQ ?_;refine K.cY (cs:=[.slice none 0 0,.map none]) (by simp[eQ]) ?_;refine aQ ?_;refine K.new fun aU b aC aA aP=>?_;refine aQ ?_;refine K.new fun bb pm Va ax bz=>?_;refine aQ ?_;refine K.tp bz (by decide) rfl fun bp ey bA=>?_;have aet:bp.heap[pm]? = some (.cells #[.pointer (some ⟨b,0,none⟩)] T.a3):=bA;have aN:Ext aU bp:=ey.ext ax Va;have Ve:=cH aP;have afS:=cH ao;have LC:Ext w bp:=(aB.trans aA).trans aN;clear bA ey ax bz;have fM:=aN.obj aP;have kW:=aN.obj (aA.obj ao);have gh:=aB.size;refine aQ ?_;refine K.call (aku (o.e5 s) o.nd (fun x st=>o.il x s (st.getLastD 0)) (acU s) (fun _=>True) b w bp LC (by omega) ht _ _ e he fM (fun _ _ _ _ _ _ _=>trivial) ?_ ?_) ?_
 .intro x st base m w' au hm Dz _ dH dM eh amo da t na hk;refine K.mS (first:=[]) (cap:=[.pointer (some ⟨pm,0,none⟩),.pointer (some ⟨dy,0,none⟩)]) (by kernel_rfl)
   (ag6 x _ s base b pm dy amo m st _ au (h.ext ((hm.ext LC (by intro k hk e;omega)).trans na)) (Dz.ext na) ?_ (na.obj (hm.obj (by omega) aet)) (na.obj (hm.obj (by omega) kW))) fun v b2 ⟨h1,U⟩=>by subst h1;exact hk b2 U
  intro ag
  have:o.e0 x.op=1:=by rw[ag];rfl
  omega
 .rintro al e1 ga l w' da t hm ⟨u,rfl,bw⟩ _ aS ad hk;exact K.JS (first:=[]) (cap:=[]) (by kernel_rfl) (ahg al u ga l w' ad) fun v b2 ⟨h1,U⟩=>by subst h1;exact hk b2 U
 rintro _ bR ⟨rfl,lr⟩;have aW:Ext w bR:=lr.ext LC (by intro k hk e;omega);refine aQ ?_;exact cC
end Go.Proofs.R
end
section
namespace o
open Go Go.RowKit bt
def Pq(v:Value):Option (Var×Int)->Prop
 | some q=>v = .tuple #[.agg q.1.enc.toArray,.int .i64 q.2,.bool true]
 | none => ∃(x:Var) (k:Int),v = .tuple #[.agg x.enc.toArray,.int .i64 k,.bool false]
end o
namespace Go.Proofs.R
open Go Go.RowKit bt
theorem Sh(a b:Int)(cs:List Value)(s:o.Scope)(w:World)(h:o.fC w cs s) :
  bu Tryz.prog F.fv #[.int .i64 a,.int .i64 b,.agg cs.toArray] w fun v w'=>v = .tuple #[.int .i64 (o.kH a b s).1,.bool (o.kH a b s).2]/\Ext w w':=by
 obtain⟨a0,bS,dD,c1,a2,c2,a3,bP,a4,bX,rfl,ak,h1,U,ag,aJ,eI,ej,eo,dX,ep⟩:=h.form;refine bL E.fv ?_;refine bG ?_;refine aa ?_;intro av b aC aB ao;refine aa ?_
 (repeat' (refine aQ ?_;first | (refine K.cond (fun _=>?_) (fun _=>?_)<;>try (exfalso;omega)) | refine K.du (fun _=>?_) (fun _=>?_)))<;>try refine aQ ?_
 all_goals
  refine⟨?_,fL⟩;unfold o.kH
  (repeat' split)<;>first | rfl | (exfalso;omega)
theorem Sm(v:Value)(l:List o.Var)(n:Int)(cs:List Value)(s:o.Scope)(w:World)(aS:o.hh w v l)(h:o.fC w cs s) :
  bu Tryz.prog F.a4 #[v,.int .i64 n,.agg cs.toArray] w fun v w'=>o.Pq v (o.declared l n s)/\Ext w w':=by
 obtain⟨v0,v1,v2,v3,v4,rfl,_⟩:=h.ex;obtain⟨bl,cap,rfl,hlen⟩:=aS.form;refine bL E.a4 ?_;refine bG ?_;refine aa ?_;intro av bC cR aB ao;refine aa ?_;intro aU cr dQ aA aP;have he:=aB.trans aA;refine aa ?_;apply K.cond<;>intro g1
 .refine aa ?_;intro bb fR bz;refine aa ?_;rw[o.declared,o.hL (.inl g1)];exact⟨⟨(⟨⟨#[]⟩,0,0,0,0,0⟩:o.Var),0,rfl⟩,fR.ext he (by have:=aB.size;omega)⟩
 refine aa ?_;apply K.cond<;>intro g2
 .refine aa ?_;intro bb fR bz;refine aa ?_;rw[o.declared,o.hL (.inr (by omega))];exact⟨⟨(⟨⟨#[]⟩,0,0,0,0,0⟩:o.Var),0,rfl⟩,fR.ext he (by have:=aB.size;omega)⟩
 obtain⟨i,rfl⟩:=Int.eq_ofNat_of_zero_le (show 0<=n by omega);have ad:i<l.length:=by omega
 rw[o.declared,o.iT (by omega) (by omega)];simp only[Int.toNat_natCast];obtain⟨a,rfl⟩:=aS.addr (by omega);refine aa ?_;refine K.gB _ (fun w' e=>Sh _ _ _ s w' (h.ext (he.trans e))) ?_;refine aa ?_;intro bb ax;have aP:=ax.obj aP;refine aa ?_;intro bp ey bA;refine aa ?_;refine⟨?_,ey.ext (he.trans ax) (by have:=aB.size;omega)⟩;by_cases aC:(o.kH l[i].scalar l[i].over s).2=true
 .rw[if_pos aC,aC];rfl
 .rw[if_neg aC,Bool.eq_false_iff.2 aC];exact⟨_,_,rfl⟩
theorem abc(n:Int)(cs:List Value)(s:o.Scope)(w:World)(h:o.fC w cs s) :
  bu Tryz.prog F.ci #[.int .i64 n,.agg cs.toArray] w fun v w'=>v = .tuple #[.int .i64 ((o.channel n s).getD 0),.bool (o.channel n s).isSome]/\Ext w w':=by
 obtain⟨a0,bS,dD,c1,a2,c2,a3,bP,a4,bX,rfl,ak,h1,U,ag,aJ,eI,ej,eo,dX,ep⟩:=h.form;refine bL E.ci ?_;refine bG ?_;refine aa ?_;intro av bC cR aB ao;refine aa ?_;apply K.cond<;>intro g1
 .refine aa ?_;rw[o.channel,o.hL (.inl g1)];exact cC
 refine aa ?_;apply K.cond<;>intro g2
 .refine aa ?_;rw[o.channel,o.hL (.inr (by omega))];exact cC
 obtain⟨i,rfl⟩:=Int.eq_ofNat_of_zero_le (show 0<=n by omega);have ad:i<s.aM.length:=by omega
 rw[o.channel,o.iT (by omega) (by omega)];simp only[Int.toNat_natCast];obtain⟨a,rfl⟩:=U.addr (by omega);refine aa ?_;refine K.gB _ (fun w' e=>Sh _ _ _ s w' (h.ext (aB.trans e))) ?_;refine aa ?_;intro aU aA;refine aa ?_;refine⟨?_,fL⟩;by_cases aC:(o.kH s.aM[i].scalar 0 s).2=true
 .rw[if_pos aC,aC];rfl
 .rw[if_neg aC,Bool.eq_false_iff.2 aC];rw[o.alG (Bool.eq_false_iff.2 aC)];rfl
theorem JI(ht:Value)(e:List o.Node)(k:Int)(cs:List Value)(s:o.Scope)(w:World)(aD:o.fW w ht e)(h:o.fC w cs s) :
  bu Tryz.prog F.a0 #[ht,.int .i64 k,.agg cs.toArray] w fun v w'=>v = .int .i64 (o.asked e k s)/\Ext w w':=by
 obtain⟨v0,v1,v2,v3,v4,rfl,_⟩:=h.ex;refine bL E.a0 ?_;refine bG ?_;refine aa ?_;intro av bC cR aB ao;refine aa ?_;refine K.call (V4 ht e _ s av (aD.ext aB) (h.ext aB)) ?_;rintro _ aU ⟨rfl,aA⟩;refine aa ?_;rw[o.asked];apply K.cond<;>intro g1
 .rw[if_neg (by simpa using g1)];refine aa ?_;apply K.cond<;>intro g2
  .refine aa ?_;rw[if_neg (by simpa using g2)];exact cC
  refine aa ?_;rw[if_pos g2];exact cC
 refine aa ?_;rw[if_pos g1];exact cC
theorem Yw(a:o.Act)(cy cE:Value)(w:World):bu Tryz.prog F.sw #[.agg (a.enc cy cE).toArray] w fun v w'=>v = .bool (o.gK a)/\Ext w w':=by
 refine bL E.sw ?_;refine bG ?_;refine aa ?_;intro av bC cR aB ao;refine aa ?_;rw[o.gK];apply K.cond<;>intro g1
 .refine aa ?_;refine⟨?_,fL⟩;congr 1;simp[g1]
 refine aa ?_;refine⟨?_,fL⟩;congr 1;simp[g1]
theorem ajP(a:o.Act)(cy cE:Value)(k:Int)(cs:List Value)(s:o.Scope)(w:World)(h:o.fC w cs s) :
  bu Tryz.prog F.tW #[.agg (a.enc cy cE).toArray,.int .i64 k,.agg cs.toArray] w fun v w'=>v = .int .i64 (o.E3 a k s)/\Ext w w':=by
 obtain⟨v0,v1,v2,v3,v4,rfl,ak,h1,U,ag,aJ,_⟩:=h.ex;refine bL E.tW ?_;refine bG ?_;refine aa ?_;intro av bC cR aB ao;refine aa ?_;intro aU cr dQ aA aP;have he:=aB.trans aA;refine aa ?_;refine K.call (Sm v4 s.locals a.loc _ s aU (aJ.ext he) (h.ext he)) ?_;rintro q bb ⟨aG,ax⟩;rw[o.E3];cases bw:o.declared s.locals a.loc s with
 | none =>
  rw[bw] at aG;obtain⟨x,k',rfl⟩:=aG;refine aa ?_;intro bp cM fM aN bA;refine aa ?_;exact cC
 | some q =>
  obtain⟨x,k'⟩:=q;rw[bw] at aG;subst aG;refine aa ?_;intro bp cM fM aN bA;refine aa ?_;apply K.cond<;>intro g1
  .refine aa ?_;apply K.cond<;>intro g2
   .refine aa ?_;simp only[g1,g2,ne_eq,not_true_eq_false,or_self,if_false];exact cC
   refine aa ?_;simp only[g2,ne_eq,not_false_eq_true,or_true,if_true];exact cC
  refine aa ?_;simp only[g1,ne_eq,not_false_eq_true,true_or,if_true];exact cC
end Go.Proofs.R
end
section
namespace o
open Go Go.RowKit bt
theorem JE{s:Scope}{l:List Act}{k:Nat}{t:Bool}(h:k<l.length) :
  j6 s (l.drop k) k t=if gK l[k]&&t then (2+(k:Int),7) else if jN l[k] s≠0 then (2+(k:Int),jN l[k] s) else j6 s (l.drop (k+1)) (k+1) (t||gK l[k]):=by
 rw[List.drop_eq_getElem_cons h];rfl
end o
namespace Go.Proofs.R
open Go Go.RowKit bt
theorem JC(k:Int)(a:o.Act)(cy cE:Value)(cs:List Value)(s:o.Scope)(w:World)(bC cr:Nat)(cR:w.heap[bC]? = some (.cells (a.enc cy cE).toArray T.q))(dQ:w.heap[cr]? = some (.cells cs.toArray T.e))
  (aT:o.fW w cE a.value)(h:o.fC w cs s) :
  bu Tryz.prog F.iA #[.int .i64 k,.pointer (some ⟨bC,0,none⟩),.pointer (some ⟨cr,0,none⟩)] w fun v w'=>v = .int .i64 (o.asked a.value k s)/\Ext w w':=by
 obtain⟨v0,v1,v2,v3,v4,rfl,_⟩:=h.ex;refine bL E.iA ?_;refine bG ?_;refine aa ?_;refine K.call (JI cE a.value k _ s w aT h) ?_;rintro _ aU ⟨rfl,aA⟩;refine aa ?_;exact cC
theorem ZO(a:o.Act)(cy cE:Value)(cs:List Value)(s:o.Scope)(w:World)(ad:o.fW w cy a.index)(aT:o.fW w cE a.value)(h:o.fC w cs s) :
  bu Tryz.prog F.CF #[.agg (a.enc cy cE).toArray,.agg cs.toArray] w fun v w'=>v = .int .i64 (o.jN a s)/\Ext w w':=by
 obtain⟨v0,v1,v2,v3,v4,rfl,ak,h1,U,ag,aJ,eI⟩:=h.ex;refine bL E.CF ?_;refine bG ?_;refine aa ?_;intro av bC cR aB ao;refine aa ?_;intro aU cr dQ aA aP;have he:=aB.trans aA;have ao:=aA.obj ao;by_cases q:a.kind=1\/a.kind=2\/a.kind=3
 .rw[o.jN,if_pos q];generalize c7:(if a.kind=3 then s.locals else s.vars)=L;have T3:∀l2 n,l2=(if a.kind=3 then v4 else v1)->bu Tryz.prog F.a4 #[l2,.int .i64 n,.agg #[v0,v1,v2,v3,v4,.int .i64 s.self]] aU fun v w'=>o.Pq v (o.declared L n s)/\Ext aU w':=by
   rintro l2 n rfl;refine Sm _ L n _ s aU ?_ (h.ext he);rw[<-c7];split
   .exact aJ.ext he
   .exact h1.ext he
  by_cases qd:a.kind=2
  .refine aa ?_;refine K.call (T3 _ _ (by simp[qd])) ?_;rintro u bb ⟨aG,ax⟩;have ao:=ax.obj ao;have aP:=ax.obj aP;have uh:=he.trans ax;cases bw:o.declared L a.to s with
   | none =>
    rw[bw] at aG;obtain⟨x,k',rfl⟩:=aG;refine aa ?_;intro bp cM fM aN bA;refine aa ?_;exact cC
   | some u =>
    obtain⟨x,k'⟩:=u;rw[bw] at aG;subst aG;have afH:=o.abK bw;simp only at afH;refine aa ?_;intro bp cM fM aN bA;have ao:=aN.obj ao;have aP:=aN.obj aP;have o5:=uh.trans aN;refine aa ?_;refine K.WL (by kernel_rfl) ?_;refine aa ?_;by_cases dM:x.over=0
    .refine K.qC (by simp[qd,dM]) ?_;refine aa ?_;exact⟨by simp[qd,dM],fL⟩
    refine K.rI (by simp[qd,dM]) ?_;refine aa ?_;refine K.call (JI cy a.index _ _ s bp (ad.ext o5) (h.ext o5)) ?_;rintro _ bR ⟨rfl,aW⟩;have ao:=aW.obj ao;have aP:=aW.obj aP;have Hp:=o5.trans aW;refine aa ?_;refine K.cond (fun eh=>?_) (fun eh=>?_)
    .refine aa ?_;refine K.mS (first:=[]) (cap:=[_,_]) (by kernel_rfl) (JC k' a cy cE _ s bR bC cr ao aP (aT.ext Hp) (h.ext Hp)) ?_;rintro _ bY ⟨rfl,a8⟩;refine aa ?_;exact⟨by simp[qd,dM,eh],fL⟩
    .refine aa ?_;exact⟨by simp[qd,dM,eh],fL⟩
  have sa:a.kind=1\/a.kind=3:=by omega
  clear q;rcases sa with q | q
  all_goals
   refine aa ?_;refine K.call (T3 _ _ (by simp[q])) ?_;rintro u bb ⟨aG,ax⟩;have ao:=ax.obj ao;have aP:=ax.obj aP;have uh:=he.trans ax;cases bw:o.declared L a.to s with
   | none =>
    rw[bw] at aG;obtain⟨x,k',rfl⟩:=aG;refine aa ?_;intro bp cM fM aN bA;refine aa ?_;exact cC
   | some u =>
    obtain⟨x,k'⟩:=u;rw[bw] at aG;subst aG;refine aa ?_;intro bp cM fM aN bA;have ao:=aN.obj ao;have aP:=aN.obj aP;have o5:=uh.trans aN;refine aa ?_;refine K.WL (by kernel_rfl) ?_;refine aa ?_;by_cases dM:x.over=0
    .refine K.rI (by simp[q,dM]) ?_;refine aa ?_;refine K.mS (first:=[]) (cap:=[_,_]) (by kernel_rfl) (JC k' a cy cE _ s bp bC cr ao aP (aT.ext o5) (h.ext o5)) ?_;rintro _ bY ⟨rfl,a8⟩;refine aa ?_;exact⟨by simp[q,dM],fL⟩
    .refine K.qC (by simp[q,dM]) ?_;refine aa ?_;exact⟨by simp[q,dM],fL⟩
 by_cases hc:a.kind=4\/a.kind=5
 .rw[o.jN,if_neg q,if_pos hc];have Nr:a.kind≠3:=by omega
  have A8:a.kind≠1:=by omega
  have Ns:a.kind≠2:=by omega
  have step:∀(w':World),Ext aU w'->bu Tryz.prog F.ci #[.int .i64 a.to,.agg #[v0,v1,v2,v3,v4,.int .i64 s.self]] w' fun v b2=>v = .tuple #[.int .i64 ((o.channel a.to s).getD 0),.bool (o.channel a.to s).isSome]/\Ext w' b2 :=
   fun w' e=>abc a.to _ s w' (h.ext (he.trans e))
  rcases hc with hc | hc
  .refine aa ?_;refine K.call (step aU (Ext.refl _)) ?_;rintro _ bb ⟨rfl,ax⟩;have ao:=ax.obj ao;have aP:=ax.obj aP;have uh:=he.trans ax;cases bw:o.channel a.to s with
   | none =>
    simp only[Option.isSome_none,Option.getD_none];refine aa ?_;exact cC
   | some k =>
    simp only[Option.isSome_some,Option.getD_some];refine aa ?_;refine K.mS (first:=[]) (cap:=[_,_]) (by kernel_rfl) (JC k a cy cE _ s bb bC cr ao aP (aT.ext uh) (h.ext uh)) ?_;rintro _ bY ⟨rfl,a8⟩;refine aa ?_;exact⟨by simp[hc],fL⟩
  .refine aa ?_;refine K.call (step aU (Ext.refl _)) ?_;rintro _ bb ⟨rfl,ax⟩;have ao:=ax.obj ao;have aP:=ax.obj aP;have uh:=he.trans ax;cases bw:o.channel a.to s with
   | none =>
    simp only[Option.isSome_none,Option.getD_none];refine aa ?_;exact cC
   | some k =>
    simp only[Option.isSome_some,Option.getD_some];refine aa ?_;refine K.call (ajP a cy cE k _ s bb (h.ext uh)) ?_;rintro _ bY ⟨rfl,a8⟩;refine aa ?_;exact⟨by simp[hc],fL⟩
 rw[o.jN,if_neg q,if_neg hc];have Nr:a.kind≠3:=by omega
 have A8:a.kind≠1:=by omega
 have Ns:a.kind≠2:=by omega
 have Xi:a.kind≠4:=by omega
 have apw:a.kind≠5:=by omega
 refine aa ?_;exact cC
end Go.Proofs.R
end
section
namespace o
open Go
theorem aeV{c:dI}{n:Int}(h:head c n=0):isName c.name=true/\0<=c.from_/\c.from_<n/\0<=c.to/\c.to<n/\c.cb.length<=6:=by
 unfold head at h;by_cases h1:isName c.name=false
 .rw[if_pos h1] at h;cases h
 rw[if_neg h1] at h;by_cases U:c.from_<0\/n<=c.from_\/c.to<0\/n<=c.to
 .rw[if_pos U] at h;cases h
 rw[if_neg U] at h;by_cases ag:c.cb.length > 6
 .rw[if_pos ag] at h;cases h
 exact⟨by simpa using h1,by omega,by omega,by omega,by omega,by omega⟩
end o
end
section
namespace o
open Go Go.RowKit bt
theorem abB{l:List Act}{k:Nat}(h:k<l.length):comm (l.drop k)=if gK l[k] then (l[k].kind,l[k].to) else comm (l.drop (k+1)):=by
 rw[List.drop_eq_getElem_cons h];rfl
end o
namespace Go.Proofs.R
open Go Go.RowKit bt
theorem Us(n:Int)(p:o.dz)(oG qa:Value)(w:World)(b:Nat)(aC:w.heap[b]? = some (.cells (p.enc oG qa).toArray T.i)) :
  bu Tryz.prog F.iz #[.int .i64 n,.pointer (some ⟨b,0,none⟩)] w fun v w'=>v = .bool (decide (n<0\/p.cx<=n))/\w'=w:=by
 refine bL E.iz ?_;refine bG ?_;refine aa ?_;apply K.cond<;>intro g1
 .refine aa ?_;exact⟨by simp[g1],bk⟩
 refine aa ?_;exact⟨by simp[g1],bk⟩
theorem aeW(c:o.dI)(fB ee:Value)(p:o.dz)(oG qa:Value)(w:World)(bc:hv w)(aD:o.hR c.name)(bo:o.nt w ee c.cb) :
  bu Tryz.prog F.nF #[.agg (c.enc fB ee).toArray,.agg (p.enc oG qa).toArray] w fun v w'=>v = .int .i64 (o.head c p.cx)/\Ext w w':=by
 obtain⟨bl,cap,rfl,hlen⟩:=bo.form;refine bL E.nF ?_;refine bG ?_;refine aa ?_;intro av bC cR aB ao;refine aa ?_;intro aU cr dQ aA aP;have he:=aB.trans aA;have ao:=aA.obj ao;refine aa ?_;refine K.call (Ii c.name aU (bc.ext he) aD) ?_;rintro _ bb ⟨rfl,ax⟩;have ao:=ax.obj ao;have aP:=ax.obj aP;have uh:=he.trans ax;rw[o.head];refine aa ?_;refine K.du (fun g1=>?_) (fun g1=>?_);rotate_left
 .refine aa ?_;exact⟨by simp[g1],fL⟩
 refine aa ?_;refine K.mS (first:=[]) (cap:=[_]) (by kernel_rfl) (Us c.from_ p oG qa bb cr aP) ?_;rintro _ _ ⟨rfl,rfl⟩;refine aa ?_;apply K.cond<;>intro g2
 .refine aa ?_;refine⟨?_,fL⟩;rw[if_neg (by simp[g1]),if_pos (by omega)]
 refine aa ?_;refine K.mS (first:=[]) (cap:=[_]) (by kernel_rfl) (Us c.to p oG qa _ cr aP) ?_;rintro _ _ ⟨rfl,rfl⟩;refine aa ?_;apply K.cond<;>intro g3
 .refine aa ?_;refine⟨?_,fL⟩;rw[if_neg (by simp[g1]),if_pos (by omega)]
 refine aa ?_;apply K.cond<;>intro g4
 .refine aa ?_;refine⟨?_,fL⟩;rw[if_neg (by simp[g1]),if_neg (by omega),if_pos (by omega)]
 .refine aa ?_;refine⟨?_,fL⟩;rw[if_neg (by simp[g1]),if_neg (by omega),if_neg (by omega)]
theorem abn(c:o.dI)(fB ee:Value)(p:o.dz)(oG qa:Value)(cs:List Value)(s:o.Scope)(w:World)(bc:hv w)(aD:o.hR c.name)(aZ:o.fW w fB c.guard)(bo:o.nt w ee c.cb)
  (aT:o.hh w oG p.vars)(aw:o.oO w qa p.cI)(h:o.fC w cs s) :
  bu Tryz.prog F.Cu #[.agg (c.enc fB ee).toArray,.agg (p.enc oG qa).toArray,.agg cs.toArray] w fun v w' =>
   v = .tuple #[.int .i64 (o.ix c p.cx s).1,.int .i64 (o.ix c p.cx s).2]/\Ext w w':=by
 obtain⟨a0,bS,dD,c1,a2,c2,a3,bP,a4,bX,rfl,_⟩:=h.form;obtain⟨bl,cap,rfl,hlen⟩:=bo.form;obtain⟨hM,aaP,rfl,afn⟩:=aZ.form;obtain⟨_,_,rfl,_⟩:=aT.form;obtain⟨_,_,rfl,_⟩:=aw.form;refine bL E.Cu ?_;refine bG ?_;refine aa ?_;intro av bC cR aB ao;refine aa ?_;intro aU cr dQ aA aP;refine aa ?_;intro bb b5 fo ax bz;have he:=(aB.trans aA).trans ax;have ao:=(aA.trans ax).obj ao;have aP:=ax.obj aP;refine aa ?_;refine K.call (aeW c _ _ p _ _ bb (bc.ext he) aD (bo.ext he)) ?_;rintro _ bp ⟨rfl,aN⟩;have ao:=aN.obj ao;have bz:=aN.obj bz;have o5:=he.trans aN;rw[o.ix];refine aa ?_;apply K.cond<;>intro g1;rotate_left
 .refine aa ?_;exact⟨by simp[g1],fL⟩
 rw[if_neg (by simpa using g1)];have bO:=(o.aeV g1).2.2.2.2.2;refine ef ?_;refine K.gU [3,4,5] (fun _=>[]) (fun(_:Unit) w'=>Ext bp w'/\¬(c.guard.length > 0/\o.asked c.guard 1 s≠0)) ?_ ?_
 .refine aa ?_;apply K.cond<;>intro g2
  .refine aa ?_;refine K.call (JI _ c.guard 1 _ s bp (aZ.ext o5) (h.ext o5)) ?_;rintro _ bR ⟨rfl,aW⟩;refine aa ?_;apply K.cond<;>intro g3
   .refine aa ?_;exact⟨(),trivial,fL,fun dm=>dm.2 g3⟩
   .refine aa ?_;rw[if_pos ⟨by omega,g3⟩];exact cC
  .refine aa ?_;exact⟨(),trivial,fL,fun dm=>g2 (by omega)⟩
 rintro _ S bR ⟨aW,wb⟩;have ao:=aW.obj ao;have bz:=aW.obj bz;have Hp:=o5.trans aW;rw[if_neg wb];refine aa ?_;refine K.dj 34 c.cb.length [3,4,5,32,33] (fun b=>[(10,.bool b)]) false (fun k b w'=>Ext bR w'/\o.j6 s c.cb 0 false=o.j6 s (c.cb.drop k) k b) bx bx ⟨Ext.refl _,by simp⟩ ?_;rintro k b S bY hk ⟨a8,bB⟩;have ui:=Hp.trans a8;refine aa ?_;apply K.cond<;>intro g1
 .have br:k<c.cb.length:=by omega
  obtain⟨a,rfl⟩:=bo.addr (by omega);obtain⟨cy,cE,h0,fy,qX⟩:=bo.at k br;obtain⟨_,_,rfl,_⟩:=fy.form;obtain⟨_,_,rfl,_⟩:=qX.form;rw[o.JE br] at bB;refine aa ?_;intro cd lh jw bJ cS;refine ef ?_;intro dg iG cK;have uk:=iG.ext bJ jw;have Hr:=ui.trans uk;have bz:=(a8.trans uk).obj bz;refine ef ?_;refine K.gU [3,5,10,11,12,32,33,34] (fun _=>[]) (fun(_:Unit) w'=>Ext dg w'/\¬(o.gK c.cb[k]&&b)=true) ?_ ?_
  .refine aa ?_;refine K.call (Yw c.cb[k] _ _ dg) ?_;rintro _ ea ⟨rfl,b1⟩;refine aa ?_;refine K.du (fun g2=>?_) (fun g2=>?_)
   .refine aa ?_;refine K.du (fun g3=>?_) (fun g3=>?_)
    .refine aa ?_;rw[bB,if_pos (by simp[g2,g3])];exact cC
    .refine aa ?_;exact⟨(),trivial,fL,by simp[g3]⟩
   .refine aa ?_;exact⟨(),trivial,fL,by simp[g2]⟩
  rintro _ S ea ⟨b1,g2⟩;rw[if_neg g2] at bB;have cK:=b1.obj cK;have bz:=b1.obj bz;refine ef ?_;refine K.gU [3,5,11,12,32,33,34] (fun u=>[(10,.bool u)]) (fun u w'=>Ext ea w'/\u=(b||o.gK c.cb[k])) ?_ ?_
  .refine aa ?_;refine K.du (fun g3=>?_) (fun g3=>?_)
   .refine aa ?_;exact⟨true,bx,fL,by simp[g3]⟩
   .refine aa ?_;refine K.call (Yw c.cb[k] _ _ ea) ?_;rintro _ e3 ⟨rfl,cv⟩;refine aa ?_;exact⟨o.gK c.cb[k],bx,fL,by simp[g3]⟩
  rintro _ S e3 ⟨cv,rfl⟩;have cK:=cv.obj cK;have bz:=cv.obj bz;have Ly:=(Hr.trans b1).trans cv;have aoe:=((a8.trans uk).trans b1).trans cv;refine aa ?_;refine K.call (ZO c.cb[k] _ _ _ s e3 (fy.ext Ly) (qX.ext Ly) (h.ext Ly)) ?_;rintro _ gg ⟨rfl,fH⟩;refine aa ?_;apply K.cond<;>intro g3
  .refine aa ?_;rw[if_neg (by simpa using g3)] at bB;exact⟨br,bk,_,bx,fL,bB⟩
  .refine aa ?_;rw[bB,if_pos g3];exact cC
 .refine aa ?_;rw[bB,List.drop_eq_nil_of_le (by omega)];exact cC
end Go.Proofs.R
end
section
namespace o
theorem Ww{s:Scope}{l:List Var}{k:Nat}(h:k<l.length):pk s (l.drop k) k=if l[k].over≠0 then ((k:Int),9) else if s.vars.any (fun x=>decide (x.name=l[k].name)) then ((k:Int),7) else pk s (l.drop (k+1)) (k+1):=by
 rw[List.drop_eq_getElem_cons h];rfl
theorem R6{own:Scope}{cx:Int}{all l:List dI}{k:Nat}(h:k<l.length):kO own cx all (l.drop k) k=if (ix l[k] cx own).2≠0 then (2+(k:Int),(ix l[k] cx own).1,(ix l[k] cx own).2)
  else if (all.take k).any (fun x=>decide (x.name=l[k].name)) then (2+(k:Int),0,7) else kO own cx all (l.drop (k+1)) (k+1):=by
 rw[List.drop_eq_getElem_cons h];rfl
end o
namespace Go.Proofs.R
open Go Go.RowKit bt
theorem amr(p:o.dz)(cp cA:Option Addr)(pn bP bX:Nat)(cs:List Value)(s:o.Scope)(w:World)(bc:hv w)(aD:o.hR p.name)(h:o.fC w cs s) :
  bu Tryz.prog F.Cs #[.agg (p.enc (.slice cp pn bP) (.slice cA p.cI.length bX)).toArray,.agg cs.toArray] w fun v w'=>v = .int .i64 (o.whole p s)/\Ext w w':=by
 obtain⟨a0,bS,dD,c1,a2,c2,a3,d3,a4,d4,rfl,ak,h1,U,ag,aJ,eI,ej,eo,dX,ep⟩:=h.form;refine bL E.Cs ?_;refine bG ?_;refine aa ?_;intro av bC cR aB ao;refine aa ?_;intro aU cr dQ aA aP;have c9:∀{w'},Ext aU w'->Ext w w':=fun e=>(aB.trans aA).trans e;have ao:=aA.obj ao;refine aa ?_;refine K.call (Ii p.name aU (bc.ext (c9 (Ext.refl _))) aD) ?_;rintro _ bb ⟨rfl,ax⟩;have ao:=ax.obj ao;have aP:=ax.obj aP;rw[o.whole];refine aa ?_;refine K.du (fun g1=>?_) (fun g1=>?_);rotate_left
 .refine aa ?_;exact⟨by rw[if_pos g1],c9 ax⟩
 rw[if_neg (by simp[g1])];refine aa ?_;apply K.cond<;>intro g2
 .refine aa ?_;exact⟨by rw[if_pos (.inl g2)],c9 ax⟩
 refine aa ?_;apply K.cond<;>intro g3
 .refine aa ?_;exact⟨by rw[if_pos (.inr (by omega))],c9 ax⟩
 rw[if_neg (by omega)];refine aa ?_;apply K.cond<;>intro g4
 .refine aa ?_;exact⟨by rw[if_pos (.inl g4)],c9 ax⟩
 refine aa ?_;apply K.cond<;>intro g5
 .refine aa ?_;exact⟨by rw[if_pos (.inr (by omega))],c9 ax⟩
 rw[if_neg (by omega)];refine aa ?_;apply K.cond<;>intro g6
 .refine aa ?_;exact⟨by rw[if_pos (by omega)],c9 ax⟩
 refine aa ?_;exact⟨by rw[if_neg (by omega)],c9 ax⟩
theorem ahN(x v:o.Var)(b:Nat)(w:World)(aw:w.heap[b]? = some (.cells v.enc.toArray T.j)) :
  bu Tryz.prog F.gF #[.agg x.enc.toArray,.pointer (some ⟨b,0,none⟩)] w fun u w'=>u = .bool (decide (x.name=v.name))/\Ext w w':=by
 refine bL E.gF ?_;refine bG ?_;refine aa ?_;intro av bC cR aB ao;refine aa ?_;exact cC
theorem abm(x c:o.dI)(b9 cn cp cA:Option Addr)(lD jY pn r4 c1 c2 bP bX:Nat)(b:Nat)(w:World)(aw:w.heap[b]? = some (.cells (c.enc (.slice cp pn bP) (.slice cA r4 bX)).toArray T.h)) :
  bu Tryz.prog F.lh #[.agg (x.enc (.slice b9 lD c1) (.slice cn jY c2)).toArray,.pointer (some ⟨b,0,none⟩)] w fun u w'=>u = .bool (decide (x.name=c.name))/\Ext w w':=by
 refine bL E.lh ?_;refine bG ?_;refine aa ?_;intro av bC cR aB ao;refine aa ?_;exact cC
theorem ahO(p:o.dz)(cp cA:Option Addr)(bP r4 bX:Nat)(cs:List Value)(s:o.Scope)(w:World)(bc:hv w)(aT:o.hh w (.slice cp p.vars.length bP) p.vars)(h:o.fC w cs s) :
  bu Tryz.prog F.Ct #[.agg (p.enc (.slice cp p.vars.length bP) (.slice cA r4 bX)).toArray,.agg cs.toArray] w fun v w'=>v = .tuple #[.int .i64 (o.kE p s).1,.int .i64 (o.kE p s).2]/\Ext w w':=by
 obtain⟨a0,bS,dD,c1,a2,c2,a3,d3,a4,d4,rfl,ak,h1,U,ag,aJ,eI,ej,eo,dX,ep⟩:=h.form;have ga:p.vars.length<=9223372036854775807:=by have:=(bF.len aT).2;unfold maxLen at this;omega
 refine bL E.Ct ?_;refine bG ?_;refine aa ?_;intro av bC cR aB ao;refine aa ?_;intro aU cr dQ aA aP;have c9:∀{w'},Ext aU w'->Ext w w':=fun e=>(aB.trans aA).trans e;have ao:=aA.obj ao;refine aa ?_;refine K.call (YN _ _ p.vars s.scalars 4 aU (bc.ext (c9 (Ext.refl _))) (aT.ext (c9 (Ext.refl _))) (ak.ext (c9 (Ext.refl _)))) ?_;rintro _ bb ⟨rfl,ax⟩;have ao:=ax.obj ao;have aP:=ax.obj aP;rw[o.kE];refine aa ?_;apply K.cond<;>intro g1;rotate_left
 .refine aa ?_;exact⟨by rw[if_pos g1],c9 ax⟩
 rw[if_neg (by simpa using g1)];have fj:∀{w'},Ext bb w'->Ext w w':=fun e=>c9 (ax.trans e);refine aa ?_;refine K.dj 25 p.vars.length [3,23,24] (fun _=>[]) () (fun k _ w'=>Ext bb w'/\o.pk s p.vars 0=o.pk s (p.vars.drop k) k) bx bx ⟨Ext.refl _,by simp⟩ ?_;rintro k _ S bp hk ⟨aN,bB⟩;refine aa ?_;apply K.cond<;>intro g2
 .have br:k<p.vars.length:=by omega
  obtain⟨a,rfl⟩:=aT.addr (by omega);replace aT:=aT.ext (fj (Ext.refl _));rw[o.Ww br] at bB;refine aa ?_;intro Bw hi lp ml pU;refine aa ?_;intro bR eZ cD;have aW:=eZ.ext ml lp;refine aa ?_;apply K.cond<;>intro g3;rotate_left
  .refine aa ?_;exact⟨by rw[bB,if_pos g3],fj (aN.trans aW)⟩
  rw[if_neg (by simpa using g3)] at bB;refine aa ?_;refine K.call (Sf mn E.GP E.fn _ s.vars bR (h1.ext (fj (aN.trans aW))) F.gF (by kernel_rfl) [] [_] (fun x=>decide (x.name=p.vars[k].name)) ?_) ?_
  .rintro i ad iy w' e ⟨rfl,_⟩;exact ahN _ _ hi w' (e.obj cD)
  rintro _ bY ⟨rfl,a8⟩;refine aa ?_;refine K.du (fun g4=>?_) (fun g4=>?_)
  .refine aa ?_;exact⟨by rw[bB,if_pos g4],fj ((aN.trans aW).trans a8)⟩
  .refine aa ?_;exact⟨br,bk,(),trivial,(aN.trans aW).trans a8,by rw[bB,if_neg (by simp[g4])]⟩
 .refine aa ?_;exact⟨by rw[bB,List.drop_eq_nil_of_le (by omega)];rfl,fj aN⟩
theorem ai6(p:o.dz)(ES cs:List Value)(s:o.Scope)(w:World)(bc:hv w)(aO:o.vp w ES p)(h:o.fC w cs s)(aZ:s.cQ)(nO:p.cQ) :
  bu Tryz.prog F.Cp #[.agg ES.toArray,.agg cs.toArray] w fun v w'=>v = .tuple #[.int .i64 (o.ho p s).1,.int .i64 (o.ho p s).2.1,.int .i64 (o.ho p s).2.2]/\Ext w w':=by
 obtain⟨a0,bS,dD,c1,a2,c2,a3,d3,a4,d4,rfl,ak,h1,U,ag,aJ,eI,ej,eo,dX,ep⟩:=h.form;obtain⟨aD,oG,qa,rfl,aT,ot⟩:=aO;obtain⟨cp,bP,rfl,ga⟩:=aT.form;obtain⟨cA,bX,rfl,lc⟩:=ot.form;have nJ:p.cI.length<=140737488351232:=by have:=nO.cI;unfold o.dN at this;omega
 refine bL E.Cp ?_;refine bG ?_;refine aa ?_;intro av bC cR aB ao;refine aa ?_;intro aU cr dQ aA aP;have c9:∀{w'},Ext aU w'->Ext w w':=fun e=>(aB.trans aA).trans e;replace ao:=aA.obj ao;refine aa ?_;refine K.call (amr p _ _ _ _ _ _ s aU (bc.ext (c9 (Ext.refl _))) aD (h.ext (c9 (Ext.refl _)))) ?_;rintro _ bb ⟨rfl,ax⟩;replace ao:=ax.obj ao;replace aP:=ax.obj aP;have fj:∀{w'},Ext bb w'->Ext w w':=fun e=>c9 (ax.trans e);rw[o.ho];refine aa ?_;apply K.cond<;>intro g1;rotate_left
 .refine aa ?_;exact⟨by rw[if_pos g1],fj (Ext.refl _)⟩
 rw[if_neg (by simpa using g1)];refine aa ?_;refine K.call (ahO p _ _ _ _ _ _ s bb (bc.ext (fj (Ext.refl _))) (aT.ext (fj (Ext.refl _))) (h.ext (fj (Ext.refl _)))) ?_;rintro _ bp ⟨rfl,aN⟩;replace ao:=aN.obj ao;replace aP:=aN.obj aP;have et:∀{w'},Ext bp w'->Ext w w':=fun e=>fj (aN.trans e);refine aa ?_;apply K.cond<;>intro g2;rotate_left
 .refine aa ?_;exact⟨by rw[if_pos g2],et (Ext.refl _)⟩
 rw[if_neg (by simpa using g2)];refine aa ?_;refine K.call (VB p _ _ _ _ _ _ _ _ _ _ _ _ _ _ _ _ _ _ _ _ _ _ bp) ?_;rintro _ bR ⟨rfl,aW⟩;replace ao:=aW.obj ao;have hS:∀{w'},Ext bR w'->Ext w w':=fun e=>et (aW.trans e);refine aa ?_;intro bY Gi G7 a8 ct;replace ao:=a8.obj ao;have k6:∀{w'},Ext bY w'->Ext w w':=fun e=>hS (a8.trans e);have eU:∀w',Ext w w'->o.fC w' [.slice a0 s.scalars.length bS,.slice dD s.vars.length c1,.slice a2 s.aM.length c2,.slice a3 s.procs.length d3,.slice cp p.vars.length bP,.int .i64 p.over] (o.inner p s):=fun w' e =>
  ⟨(aZ.inner nO).qi.1,_,_,_,_,_,rfl,ak.ext e,h1.ext e,U.ext e,ag.ext e,aT.ext e,(aZ.inner nO).qi.2⟩
 refine aa ?_;refine K.dj 37 p.cI.length [2,10,35,36] (fun _=>[]) () (fun k _ w'=>Ext bY w'/\o.kO (o.inner p s) p.cx p.cI p.cI 0=o.kO (o.inner p s) p.cx p.cI (p.cI.drop k) k) bx bx ⟨Ext.refl _,by simp⟩ ?_;rintro k _ S cd hk ⟨bJ,bB⟩;replace ao:=bJ.obj ao;replace ct:=bJ.obj ct;refine aa ?_;apply K.cond<;>intro g3
 .have br:k<p.cI.length:=by omega
  obtain⟨a,rfl⟩:=ot.addr (by omega);obtain⟨ay,fB,ee,gu,wx,uB⟩:=ot.at k br;obtain⟨hM,gF,rfl,ahF⟩:=wx.form;obtain⟨bl,gO,rfl,oC⟩:=uB.form;rw[o.R6 br] at bB;replace gu:=gu.ext (k6 (Ext.refl _));refine aa ?_;intro Bw B5 sM ml pU;refine aa ?_;intro dg iG cK;have bV:=iG.ext ml sM;replace ao:=bV.obj ao;replace ct:=bV.obj ct;have kJ:∀{w'},Ext dg w'->Ext w w':=fun e=>k6 ((bJ.trans bV).trans e);clear pU ml;refine aa ?_;refine K.call (abn p.cI[k] _ _ p _ _ _ (o.inner p s) dg (bc.ext (kJ (Ext.refl _))) ay (wx.ext (kJ (Ext.refl _))) (uB.ext (kJ (Ext.refl _))) (aT.ext (kJ (Ext.refl _))) (ot.ext (kJ (Ext.refl _))) (eU _ (kJ (Ext.refl _)))) ?_;rintro _ ea ⟨rfl,b1⟩;replace ao:=b1.obj ao;replace cK:=b1.obj cK;have jM:∀{w'},Ext ea w'->Ext w w':=fun e=>kJ (b1.trans e);refine aa ?_;apply K.cond<;>intro g4;rotate_left
  .refine aa ?_;exact⟨by rw[bB,if_pos g4],jM (Ext.refl _)⟩
  rw[if_neg (by simpa using g4)] at bB;have hZ:=(bF.len ot).2.1;refine aa ?_;refine K.tm (k:=.i64) k (by rfl) (by omega) ?_;refine aa ?_;refine K.call (Sf mn E.tZ E.GQ _ (p.cI.take k) ea ((ot.head k (by omega)).ext o.xk.ext (jM (Ext.refl _))) F.lh (by kernel_rfl) [] [_] (fun x=>decide (x.name=p.cI[k].name)) ?_) ?_
  .rintro i ad iy w' e ⟨_,ap0,nr,rfl,agx,Mu⟩;obtain⟨_,_,rfl,_⟩:=agx.form;obtain⟨_,_,rfl,_⟩:=Mu.form;exact abm _ _ _ _ _ _ _ _ _ _ _ _ _ _ B5 w' (e.obj cK)
  rintro _ e3 ⟨rfl,cv⟩;refine aa ?_;refine K.du (fun g5=>?_) (fun g5=>?_)
  .refine aa ?_;exact⟨by rw[bB,if_pos g5],jM cv⟩
  .refine aa ?_;exact⟨br,bk,(),trivial,((bJ.trans bV).trans b1).trans cv,by rw[bB,if_neg (by simp[g5])]⟩
 .refine aa ?_;exact⟨by rw[bB,List.drop_eq_nil_of_le (by omega)];rfl,k6 bJ⟩
end Go.Proofs.R
end
section
namespace bt
open Go Go.RowKit
theorem bF.Ca{α:Type}{R:World->Addr->α->Prop}{C:World->List Value->α->Prop}{sz:Nat}[Rel R C sz]{w:World}{b n:Nat}{e:TypeId}{cells:List Value}{xs:List α}(eY:List (oP sz))(aC:w.heap[b]? = some (.cells cells.toArray e))(aeF:cells=eY.flatMap sE)
  (aS:eY.length=xs.length)(aD:n=xs.length)(hm:xs.length<=maxLen)(aw:∀i (h1:i<eY.length) (U:i<xs.length),C w eY[i].1 xs[i]):bF sz R w (.slice (some ⟨b,0,none⟩) n n) xs:=by
 subst aeF;exact bF.M7 aS (bF.aV (enc:=sE) vQ aC (by omega) (by omega) fun _ _ _ h=>h) aw
end bt
namespace o
open Go
theorem ly{n:Int}(h : -1000<=n/\n<=1000):ez n:=by unfold ez;omega
theorem Br(a b:Int)(s:Scope):(kH a b s).2=((gR a s).2&&(gR b s).2)/\((kH a b s).2=true->(kH a b s).1=(if a=0 then 0 else 1+a)):=by
 unfold kH gR;constructor
 ·(repeat' split)<;>first | rfl | (exfalso;omega)
 .intro h
  (repeat' split)<;>first | rfl | (exfalso;omega) | simp_all
theorem Sl{l:List Var}{n:Int}{s:Scope}(h:(fP l n s).2.2=false):declared l n s=none:=by
 unfold declared;unfold fP at h;cases aD:nth l n with
 | none=>rfl
 | some v =>
  rw[aD] at h;simp only at h ⊢;rw[if_neg];rw[(Br _ _ _).1,h];simp
theorem Sn{l:List Var}{n:Int}{s:Scope}{x:Var}(h:(fP l n s).2.2=true)(au:nth l n=some x):declared l n s=some (x,if x.scalar=0 then 0 else 1+x.scalar)/\0<=x.scalar/\x.scalar<=s.scalars.length/\0<=x.over/\x.over<=s.scalars.length:=by
 unfold fP at h;rw[au] at h;simp only at h;have aL:(kH x.scalar x.over s).2=true:=by rw[(Br _ _ _).1];exact h
 refine⟨?_,?_⟩
 .unfold declared;rw[au];simp only;rw[if_pos aL,(Br _ _ _).2 aL]
 .unfold kH at aL;split at aL
  .cases aL
  .omega
theorem abb{n:Int}{s:Scope}(h:¬(jE n s).2=0):channel n s=none:=by
 unfold channel;unfold jE at h;cases aD:nth s.aM n with
 | none=>rfl
 | some c =>
  rw[aD] at h;simp only at h ⊢;rw[if_neg];intro aL;rw[(Br _ _ _).1] at aL;simp only[Bool.and_eq_true] at aL;rw[if_pos aL.1] at h;exact h rfl
theorem abd{n:Int}{s:Scope}{c:dv}(h:(jE n s).2=0)(au:nth s.aM n=some c):channel n s=some (if c.scalar=0 then 0 else 1+c.scalar)/\0<=c.scalar/\c.scalar<=s.scalars.length:=by
 unfold jE at h;rw[au] at h;simp only at h;have h1:(gR c.scalar s).2=true:=by
  cases hk:(gR c.scalar s).2 with
  | true=>rfl
  | false=>rw[hk] at h;simp at h
 have aL:(kH c.scalar 0 s).2=true:=by rw[(Br _ _ _).1,h1];simp[gR]
 refine⟨?_,?_⟩
 .unfold channel;rw[au];simp only;rw[if_pos aL,(Br _ _ _).2 aL]
 .unfold kH at aL;split at aL
  .cases aL
  .omega
def kD(l:List Var)(n:Int)(s:Scope):Int×Int:=match declared l n s with | none=>(0,8) | some (v,k)=>if v.over≠0 then (0,9) else (k,0)
def yn(a:Act)(s:Scope):Int:=match declared s.vars a.to s with | none=>8 | some (v,k)=>if v.over=0 then 9 else if asked a.index (1+v.over) s≠0 then asked a.index (1+v.over) s else asked a.value k s
def kF(a:Act)(s:Scope)(comm:Bool):Int :=
 if a.kind<1\/5<a.kind then 3
 else if a.kind=2 then yn a s
 else if a.kind=1\/a.kind=3 then (if (kD (if a.kind=3 then s.locals else s.vars) a.to s).2≠0 then (kD (if a.kind=3 then s.locals else s.vars) a.to s).2 else asked a.value (kD (if a.kind=3 then s.locals else s.vars) a.to s).1 s)
 else if comm=true then 7
 else match channel a.to s with
  | none=>8
  | some k=>if a.kind=4 then asked a.value k s else if (kD s.locals a.loc s).2≠0 then (kD s.locals a.loc s).2 else if (kD s.locals a.loc s).1≠k then 9 else 0
theorem ajG(a:Act)(s:Scope)(comm:Bool):kF a s comm=if gK a&&comm then 7 else jN a s:=by
 by_cases ak:a.kind<1\/5<a.kind
 .have aL:gK a=false:=by unfold gK;rw[decide_eq_false_iff_not];omega
  unfold kF jN;rw[if_pos ak,aL,if_neg (by omega:¬(a.kind=1\/a.kind=2\/a.kind=3)),if_neg (by omega:¬(a.kind=4\/a.kind=5))];simp
 by_cases U:a.kind=2
 .have aL:gK a=false:=by unfold gK;rw[decide_eq_false_iff_not];omega
  unfold kF jN;rw[if_neg ak,if_pos U,aL,if_pos (by omega:a.kind=1\/a.kind=2\/a.kind=3)];simp only[Bool.false_and,Bool.false_eq_true,if_false];rw[if_neg (by omega:¬a.kind=3)];unfold yn;cases bw:declared s.vars a.to s with
  | none=>rfl
  | some q =>
   obtain⟨v,k⟩:=q;simp only[U,true_and];by_cases aT:v.over=0
   .simp[aT]
   .simp[aT]
 by_cases h1:a.kind=1\/a.kind=3
 .have aL:gK a=false:=by unfold gK;rw[decide_eq_false_iff_not];omega
  unfold kF jN;rw[if_neg ak,if_neg U,if_pos h1,aL,if_pos (by omega:a.kind=1\/a.kind=2\/a.kind=3)];simp only[Bool.false_and,Bool.false_eq_true,if_false];unfold kD;cases bw:declared (if a.kind=3 then s.locals else s.vars) a.to s with
  | none=>simp
  | some q =>
   obtain⟨v,k⟩:=q;simp only[U,false_and,if_false];by_cases aT:v.over=0
   .simp[aT]
   .simp[aT]
 .have adD:a.kind=4\/a.kind=5:=by omega
  have aL:gK a=true:=by unfold gK;rw[decide_eq_true_eq];omega
  unfold kF jN;rw[if_neg ak,if_neg U,if_neg h1,aL,if_neg (by omega:¬(a.kind=1\/a.kind=2\/a.kind=3)),if_pos adD];simp only[Bool.true_and];cases comm with
  | true=>simp
  | false =>
   simp only[Bool.false_eq_true,if_false];cases aw:channel a.to s with
   | none=>rfl
   | some k =>
    simp only;by_cases aJ:a.kind=4
    .rw[if_pos aJ,if_neg (by omega:¬a.kind=5)]
    .rw[if_neg aJ,if_pos (by omega:a.kind=5)];unfold kD E3;cases bw:declared s.locals a.loc s with
     | none=>simp
     | some q =>
      obtain⟨v,k'⟩:=q;simp only;by_cases aT:v.over=0
      .simp[aT]
      .simp[aT]
end o
end
section
namespace Go.Proofs.R
open Go Go.RowKit bt
theorem Yv(op:Int)(w:World):bu Tryz.prog F.AJ #[.int .i64 op] w fun v w'=>v = .int .i64 (o.e0 op)/\w'=w:=by
 have key:∀n:Int,(if op=3 then (1:Int) else if 1<=op/\op<=8 then 0 else if op=9\/op=10 then 1 else if 11<=op/\op<=19 then 2 else -1)=n->o.e0 op=n:=fun _ h=>h;refine bL E.AJ ?_;refine bG ?_
 (repeat' (refine aQ ?_;first | (refine K.cond (fun _=>?_) (fun _=>?_)<;>try (exfalso;omega)) | refine K.du (fun _=>?_) (fun _=>?_)))<;>try refine aQ ?_
 all_goals
  refine⟨?_,bk⟩;congr 1;refine(key _ ?_).symm
  (repeat' split)<;>first | rfl | (exfalso;omega)
theorem Im{x:Int}(h:o.e0 x=0):1<=x/\x<=8/\x≠3/\o.gI x=none:=by
 have h1:1<=x/\x<=8/\x≠3:=by unfold o.e0 at h; (repeat' split at h)<;>omega
 exact⟨h1.1,h1.2.1,h1.2.2,o.M9 (by simp[o.wA];omega)⟩
theorem WS{x:Int}(h:o.e0 x=1):x=3\/x=9\/x=10:=by unfold o.e0 at h; (repeat' split at h)<;>omega
theorem Io{x:Int}(h:o.e0 x=2):11<=x/\x<=19:=by unfold o.e0 at h; (repeat' split at h)<;>omega
theorem WZ{x:Int}(h:9<=x/\x<=19):∃al,o.gI x=some al/\al.parts=o.e0 x:=by
 cases bc:o.gI x with
 | some al=>exact⟨al,rfl,(o.ER bc).1⟩
 | none =>
  exfalso;unfold o.gI at bc
  (repeat' split at bc)
  all_goals first | (cases bc;done) | omega
theorem Ki{st:List Int}(h:1<=st.length):st.drop (st.length - 1)=[st[st.length - 1]]:=by
 rw[List.drop_eq_getElem_cons (by omega),List.drop_eq_nil_of_le (by omega)]
theorem Ss{st:List Int}(h:2<=st.length):st.drop (st.length - 2)=[st[st.length - 2],st[st.length - 1]]:=by
 rw[List.drop_eq_getElem_cons (by omega)];have e:st.length - 2+1=st.length - 1:=by omega
 congr 1;rw[e];exact Ki (by omega)
theorem qE:∀y,∀u∈encI y,u.oneCell'=true:=fun y u h=>by simp[encI] at h;subst h;rfl
end Go.Proofs.R
end
section
namespace Go.Proofs.R
open Go Go.RowKit bt
theorem NR(n:Int)(cs:List Value)(s:o.Scope)(w:World)(h:o.fC w cs s) :
  bu Tryz.prog F.yv #[.int .i64 n,.agg cs.toArray] w fun v w'=>v = .bool (o.gR n s).2/\Ext w w':=by
 obtain⟨a0,bS,dD,c1,a2,c2,a3,bP,a4,bX,rfl,ak,h1,U,ag,aJ,eI,ej,eo,dX,ep⟩:=h.form;refine bL E.yv ?_;refine bG ?_;refine aQ ?_;refine K.new fun av b aC aB ao=>?_
 (repeat' (refine aQ ?_;first | (refine K.cond (fun _=>?_) (fun _=>?_)<;>try (exfalso;omega)) | refine K.du (fun _=>?_) (fun _=>?_)))<;>try refine aQ ?_
 all_goals
  refine⟨?_,fL⟩;congr 1;unfold o.gR
  (repeat' split)<;>first | rfl | (exfalso;omega) | (simp;omega)
def kindOf(n:Int):Int:=if n=0 then 0 else 1+n
theorem H4(n:Int)(w:World)(h:0<=n/\n<=4611686018427387904):bu Tryz.prog F.rX #[.int .i64 n] w fun v w'=>v = .int .i64 (kindOf n)/\w'=w:=by
 refine bL E.rX ?_;refine bG ?_
 (repeat' (refine aQ ?_;first | (refine K.cond (fun _=>?_) (fun _=>?_)<;>try (exfalso;omega)) | refine K.du (fun _=>?_) (fun _=>?_)))<;>try refine aQ ?_
 all_goals
  refine⟨?_,bk⟩;congr 1;unfold kindOf;split<;>first | rfl | (exfalso;omega)
theorem V6{n:Int}{s:o.Scope}(h:(o.gR n s).2=true):0<=n/\n<=s.scalars.length/\(o.gR n s).1=kindOf n:=by
 unfold o.gR kindOf at *
 (repeat' split at h) <;> (repeat' split)<;>first | (cases h;done) | (refine⟨by omega,by omega,?_⟩;first | rfl | omega) | (exfalso;omega)
theorem E8(v:Value)(l:List o.Var)(n:Int)(cs:List Value)(s:o.Scope)(w:World)(aS:o.hh w v l)(h:o.fC w cs s) :
  bu Tryz.prog F.wE #[v,.int .i64 n,.agg cs.toArray] w fun v w' =>
   (∃x:o.Var,v = .tuple #[.agg x.enc.toArray,.bool (o.fP l n s).2.2]/\((o.fP l n s).2.2=true->o.nth l n=some x))/\Ext w w':=by
 obtain⟨a0,bS,dD,c1,a2,c2,a3,bP,a4,bX,rfl,_⟩:=h.form;obtain⟨bl,cap,rfl,hlen⟩:=aS.form;refine bL E.wE ?_;refine bG ?_;refine aQ ?_;refine K.new fun av b aC aB ao=>?_;refine aQ ?_;refine K.new fun aU cr dQ aA aP=>?_;have he:=aB.trans aA;have eC:=aA.obj ao;refine aQ ?_;apply K.cond<;>intro g1
 .have hk:(o.fP l n s).2.2=false:=by rw[o.fP,o.hL (.inl g1)]
  refine aQ ?_;intro bb ax;refine aQ ?_;refine K.cY (cs:=(⟨⟨#[]⟩,0,0,0,0,0⟩:o.Var).enc) (by simp[eQ,o.Var.enc]) ?_;refine aQ ?_;refine K.h6 (cs:=(⟨⟨#[]⟩,0,0,0,0,0⟩:o.Var).enc.toArray) (ax.obj aP) rfl rfl (by simp[o.Var.enc,Value.oneCell']) fun bp ey bA=>?_;refine aQ ?_;refine K.gS (c:=o.Var.enc _) bA (Ext.refl _) rfl ?_;refine aQ ?_;exact⟨⟨_,by rw[hk],by rw[hk];intro h;cases h⟩,ey.ext (he.trans ax) (by have:=aB.size;omega)⟩
 refine aQ ?_;apply K.cond<;>intro g2
 .have hk:(o.fP l n s).2.2=false:=by rw[o.fP,o.hL (.inr (by omega))]
  refine aQ ?_;intro bb ax;refine aQ ?_;refine K.cY (cs:=(⟨⟨#[]⟩,0,0,0,0,0⟩:o.Var).enc) (by simp[eQ,o.Var.enc]) ?_;refine aQ ?_;refine K.h6 (cs:=(⟨⟨#[]⟩,0,0,0,0,0⟩:o.Var).enc.toArray) (ax.obj aP) rfl rfl (by simp[o.Var.enc,Value.oneCell']) fun bp ey bA=>?_;refine aQ ?_;refine K.gS (c:=o.Var.enc _) bA (Ext.refl _) rfl ?_;refine aQ ?_;exact⟨⟨_,by rw[hk],by rw[hk];intro h;cases h⟩,ey.ext (he.trans ax) (by have:=aB.size;omega)⟩
 obtain⟨i,rfl⟩:=Int.eq_ofNat_of_zero_le (show 0<=n by omega);have ad:i<l.length:=by omega
 have aD:o.nth l (i:Int)=some l[i]:=by rw[o.iT (by omega) (by omega)];simp only[Int.toNat_natCast]
 obtain⟨a,rfl⟩:=aS.addr (by omega);refine aQ ?_;refine K.gS (c:=[_,_,_,_,_,_]) eC (Ext.refl _) rfl ?_;refine aQ ?_;refine K.gB _ (fun w' e=>NR _ _ s w' (h.ext (he.trans e))) ?_;refine aQ ?_;refine K.du (fun g3=>?_) (fun g3=>?_);rotate_left
 .have hk:(o.fP l i s).2.2=false:=by rw[o.fP,aD];simp only[g3,Bool.false_and]
  refine aQ ?_;intro bb ax;refine aQ ?_;refine K.cY (cs:=(⟨⟨#[]⟩,0,0,0,0,0⟩:o.Var).enc) (by simp[eQ,o.Var.enc]) ?_;refine aQ ?_;refine K.h6 (cs:=(⟨⟨#[]⟩,0,0,0,0,0⟩:o.Var).enc.toArray) (ax.obj aP) rfl rfl (by simp[o.Var.enc,Value.oneCell']) fun bp ey bA=>?_;refine aQ ?_;refine K.gS (c:=o.Var.enc _) bA (Ext.refl _) rfl ?_;refine aQ ?_;exact⟨⟨_,by rw[hk],by rw[hk];intro h;cases h⟩,ey.ext (he.trans ax) (by have:=aB.size;omega)⟩
 refine aQ ?_;refine K.gS (c:=[_,_,_,_,_,_]) eC (Ext.refl _) rfl ?_;refine aQ ?_;refine K.gB _ (fun w' e=>NR _ _ s w' (h.ext (he.trans e))) ?_;refine aQ ?_;cases g4:(o.gR l[i].over s).2 with
 | false =>
  have hk:(o.fP l i s).2.2=false:=by rw[o.fP,aD];simp only[g4,Bool.and_false]
  refine aQ ?_;intro bb ax;refine aQ ?_;refine K.cY (cs:=(⟨⟨#[]⟩,0,0,0,0,0⟩:o.Var).enc) (by simp[eQ,o.Var.enc]) ?_;refine aQ ?_;refine K.h6 (cs:=(⟨⟨#[]⟩,0,0,0,0,0⟩:o.Var).enc.toArray) (ax.obj aP) rfl rfl (by simp[o.Var.enc,Value.oneCell']) fun bp ey bA=>?_;refine aQ ?_;refine K.gS (c:=o.Var.enc _) bA (Ext.refl _) rfl ?_;refine aQ ?_;exact⟨⟨_,by rw[hk],by rw[hk];intro h;cases h⟩,ey.ext (he.trans ax) (by have:=aB.size;omega)⟩
 | true =>
  have hk:(o.fP l i s).2.2=true:=by rw[o.fP,aD];simp only[g3,g4,Bool.and_true]
  refine aQ ?_;intro bb ax;refine aQ ?_;refine K.h6 (cs:=l[i].enc.toArray) (ax.obj aP) rfl rfl (by simp[o.Var.enc,Value.oneCell']) fun bp ey bA=>?_;refine aQ ?_;refine K.gS (c:=o.Var.enc _) bA (Ext.refl _) rfl ?_;refine aQ ?_;exact⟨⟨_,by rw[hk],fun _=>aD⟩,ey.ext (he.trans ax) (by have:=aB.size;omega)⟩
theorem Xt(n:Int)(cs:List Value)(s:o.Scope)(w:World)(h:o.fC w cs s) :
  bu Tryz.prog F.AH #[.int .i64 n,.agg cs.toArray] w fun v w' =>
   (∃x:o.dv,v = .tuple #[.agg x.enc.toArray,.bool (decide ((o.jE n s).2=0))]/\((o.jE n s).2=0->o.nth s.aM n=some x))/\Ext w w':=by
 obtain⟨a0,bS,dD,c1,a2,c2,a3,bP,a4,bX,rfl,ak,h1,U,ag,aJ,eI,ej,eo,dX,ep⟩:=h.form;refine bL E.AH ?_;refine bG ?_;refine aQ ?_;refine K.new fun av b aC aB ao=>?_;refine aQ ?_;refine K.new fun aU cr dQ aA aP=>?_;have he:=aB.trans aA;have eC:=aA.obj ao;refine aQ ?_;apply K.cond<;>intro g1
 .have hk:(o.jE n s).2=8:=by rw[o.jE,o.hL (.inl g1)]
  refine aQ ?_;intro bb ax;refine aQ ?_;refine K.cY (cs:=(⟨⟨#[]⟩,0,0,0,0,false⟩:o.dv).enc) (by simp[eQ,o.dv.enc]) ?_;refine aQ ?_;refine K.h6 (cs:=(⟨⟨#[]⟩,0,0,0,0,false⟩:o.dv).enc.toArray) (ax.obj aP) rfl rfl (by simp[o.dv.enc,Value.oneCell']) fun bp ey bA=>?_;refine aQ ?_;refine K.gS (c:=o.dv.enc _) bA (Ext.refl _) rfl ?_;refine aQ ?_;exact⟨⟨_,by rw[hk];rfl,by rw[hk];intro h;cases h⟩,ey.ext (he.trans ax) (by have:=aB.size;omega)⟩
 refine aQ ?_;apply K.cond<;>intro g2
 .have hk:(o.jE n s).2=8:=by rw[o.jE,o.hL (.inr (by omega))]
  refine aQ ?_;intro bb ax;refine aQ ?_;refine K.cY (cs:=(⟨⟨#[]⟩,0,0,0,0,false⟩:o.dv).enc) (by simp[eQ,o.dv.enc]) ?_;refine aQ ?_;refine K.h6 (cs:=(⟨⟨#[]⟩,0,0,0,0,false⟩:o.dv).enc.toArray) (ax.obj aP) rfl rfl (by simp[o.dv.enc,Value.oneCell']) fun bp ey bA=>?_;refine aQ ?_;refine K.gS (c:=o.dv.enc _) bA (Ext.refl _) rfl ?_;refine aQ ?_;exact⟨⟨_,by rw[hk];rfl,by rw[hk];intro h;cases h⟩,ey.ext (he.trans ax) (by have:=aB.size;omega)⟩
 obtain⟨i,rfl⟩:=Int.eq_ofNat_of_zero_le (show 0<=n by omega);have ad:i<s.aM.length:=by omega
 have aD:o.nth s.aM (i:Int)=some s.aM[i]:=by rw[o.iT (by omega) (by omega)];simp only[Int.toNat_natCast]
 obtain⟨a,rfl⟩:=U.addr (by omega);refine aQ ?_;refine K.gS (c:=[_,_,_,_,_,_]) eC (Ext.refl _) rfl ?_;refine aQ ?_;refine K.gB _ (fun w' e=>NR _ _ s w' (h.ext (he.trans e))) ?_;refine aQ ?_;cases g4:(o.gR s.aM[i].scalar s).2 with
 | false =>
  have hk:(o.jE i s).2=8:=by rw[o.jE,aD];simp only[g4,Bool.false_eq_true,if_false]
  refine aQ ?_;intro bb ax;refine aQ ?_;refine K.cY (cs:=(⟨⟨#[]⟩,0,0,0,0,false⟩:o.dv).enc) (by simp[eQ,o.dv.enc]) ?_;refine aQ ?_;refine K.h6 (cs:=(⟨⟨#[]⟩,0,0,0,0,false⟩:o.dv).enc.toArray) (ax.obj aP) rfl rfl (by simp[o.dv.enc,Value.oneCell']) fun bp ey bA=>?_;refine aQ ?_;refine K.gS (c:=o.dv.enc _) bA (Ext.refl _) rfl ?_;refine aQ ?_;exact⟨⟨_,by rw[hk];rfl,by rw[hk];intro h;cases h⟩,ey.ext (he.trans ax) (by have:=aB.size;omega)⟩
 | true =>
  have hk:(o.jE i s).2=0:=by rw[o.jE,aD];simp only[g4,if_true]
  refine aQ ?_;intro bb ax;refine aQ ?_;refine K.h6 (cs:=s.aM[i].enc.toArray) (ax.obj aP) rfl rfl (by simp[o.dv.enc,Value.oneCell']) fun bp ey bA=>?_;refine aQ ?_;refine K.gS (c:=o.dv.enc _) bA (Ext.refl _) rfl ?_;refine aQ ?_;exact⟨⟨_,by rw[hk];rfl,fun _=>aD⟩,ey.ext (he.trans ax) (by have:=aB.size;omega)⟩
end Go.Proofs.R
end
section
namespace Go.Proofs.R
open Go Go.RowKit bt
theorem MJ{l:List o.Var}{n:Int}{s:o.Scope}{x:o.Var}(h:(o.fP l n s).2.2=true)(au:o.nth l n=some x) :
  (o.fP l n s).1=kindOf x.scalar/\(o.fP l n s).2.1=kindOf x.over/\0<=x.scalar/\x.scalar<=s.scalars.length/\0<=x.over/\x.over<=s.scalars.length:=by
 unfold o.fP at h ⊢;rw[au] at h ⊢;simp only[Bool.and_eq_true] at h ⊢;obtain⟨dD,a2,a3⟩:=V6 h.1;obtain⟨bC,cr,b5⟩:=V6 h.2;exact⟨a3,b5,dD,a2,bC,cr⟩
theorem aka(x:o.Node)(cs:List Value)(s:o.Scope)(w:World)(au:x.ok)(h:o.fC w cs s)(lv:1<=x.op/\x.op<=8)(ag:x.op≠3)(t:Int) :
  bu Tryz.prog F.Ea #[.agg x.enc.toArray,.agg cs.toArray] w fun v w'=>v = .tuple #[.int .i64 (o.il x s t).1,.int .i64 (o.il x s t).2]/\Ext w w':=by
 obtain⟨a0,bS,dD,c1,a2,c2,a3,bP,a4,bX,rfl,qc,dH,dM,eh,hc,eI,ej,eo,dX,ep⟩:=h.form;refine bL E.Ea ?_;refine bG ?_;refine aQ ?_;refine K.new fun av bC cR aB ao=>?_;refine aQ ?_;refine K.new fun aU cr dQ aA aP=>?_;have he:=aB.trans aA;have dc:aU.heap[bC]? = some (.cells #[.int .i64 x.op,.int .i64 x.n] T.f):=aA.obj ao;clear ao;refine aQ ?_;apply K.cond<;>intro g1
 .have hk:o.il x s t=if o.within x.n then (0,0) else (0,10):=by rw[o.il,if_pos g1]
  (repeat' (refine aQ ?_;first | (refine K.cond (fun _=>?_) (fun _=>?_)<;>try (exfalso;omega)) | refine K.du (fun _=>?_) (fun _=>?_)))<;>try refine aQ ?_
  all_goals
   refine⟨?_,fL⟩;rw[hk];unfold o.within;split<;>first | rfl | (rename_i dm;simp at dm;exfalso;omega)
 by_cases aT:x.op=2\/x.op=4
 .have hk:o.il x s t=(let q:=o.fP (if x.op=4 then s.locals else s.vars) x.n s;if q.2.2=false then (0,8) else if (x.op=3/\(q.2.1=0\/t≠q.2.1))\/(x.op≠3/\q.2.1≠0) then (0,9) else (q.1,0)):=by
   rw[o.il,if_neg g1,if_pos (by omega)]
  by_cases g4:x.op=4
  .rw[if_pos g4] at hk;rw[hk];refine aQ ?_;refine K.gS (c:=[_,_,_,_,_,_]) aP (Ext.refl _) rfl ?_;refine aQ ?_;refine K.call (E8 _ s.locals x.n _ s aU (hc.ext he) (h.ext he)) ?_;rintro _ bb ⟨⟨y,rfl,b8⟩,ax⟩;have dt:(o.fP s.locals x.n s).2.2=true->_:=fun g=>MJ g (b8 g);clear b8 hk;generalize o.fP s.locals x.n s=q at dt ⊢;obtain⟨wO,yK,Nt⟩:=q;refine aQ ?_;refine K.tf (vs:=y.enc) (fun _=>by simp -dsimp only[c4,cF,Nat.reduceAdd,Nat.reduceEqDiff,reduceIte,reduceCtorEq,db]) rfl rfl (by simp[o.Var.enc,Value.oneCell']) fun bp cM fM aN bA=>?_;have iH:bp.heap[cM]? = some (.cells #[.string y.name,.int .i64 y.scalar,.int .i64 y.over,.int .i64 y.bf,.int .i64 y.ad,.int .i64 y.init] T.j):=bA;clear bA;refine aQ ?_;refine K.du (fun g5=>?_) (fun g5=>?_);rotate_left
   .refine aQ ?_;simp only[g5,if_true];exact cC
   obtain⟨gh,z2,z3,z4,z5,By⟩:=dt g5;have we:kindOf y.over=0↔y.over=0:=by unfold kindOf;split<;>omega
   have y1:wO=kindOf y.scalar:=gh;have y2:yK=kindOf y.over:=z2;refine aQ ?_;apply K.cond<;>intro g6
   .refine aQ ?_;refine K.call (H4 y.scalar bp (by omega)) ?_;rintro _ _ ⟨rfl,rfl⟩;refine aQ ?_;simp only[g5,Bool.true_eq_false,if_false,y1,y2];rw[if_neg (by rw[ne_eq,we];omega)];exact cC
   .refine aQ ?_;simp only[g5,Bool.true_eq_false,if_false,y1,y2];rw[if_pos (.inr ⟨ag,by rw[ne_eq,we];exact g6⟩)];exact cC
  .rw[if_neg g4] at hk;rw[hk];refine aQ ?_;refine K.gS (c:=[_,_,_,_,_,_]) aP (Ext.refl _) rfl ?_;refine aQ ?_;refine K.call (E8 _ s.vars x.n _ s aU (dH.ext he) (h.ext he)) ?_;rintro _ bb ⟨⟨y,rfl,b8⟩,ax⟩;have dt:(o.fP s.vars x.n s).2.2=true->_:=fun g=>MJ g (b8 g);clear b8 hk;generalize o.fP s.vars x.n s=q at dt ⊢;obtain⟨wO,yK,Nt⟩:=q;refine aQ ?_;refine K.tf (vs:=y.enc) (fun _=>by simp -dsimp only[c4,cF,Nat.reduceAdd,Nat.reduceEqDiff,reduceIte,reduceCtorEq,db]) rfl rfl (by simp[o.Var.enc,Value.oneCell']) fun bp cM fM aN bA=>?_;have iH:bp.heap[cM]? = some (.cells #[.string y.name,.int .i64 y.scalar,.int .i64 y.over,.int .i64 y.bf,.int .i64 y.ad,.int .i64 y.init] T.j):=bA;clear bA;refine aQ ?_;refine K.du (fun g5=>?_) (fun g5=>?_);rotate_left
   .refine aQ ?_;simp only[g5,if_true];exact cC
   obtain⟨gh,z2,z3,z4,z5,By⟩:=dt g5;have we:kindOf y.over=0↔y.over=0:=by unfold kindOf;split<;>omega
   have y1:wO=kindOf y.scalar:=gh;have y2:yK=kindOf y.over:=z2;refine aQ ?_;apply K.cond<;>intro g6
   .refine aQ ?_;refine K.call (H4 y.scalar bp (by omega)) ?_;rintro _ _ ⟨rfl,rfl⟩;refine aQ ?_;simp only[g5,Bool.true_eq_false,if_false,y1,y2];rw[if_neg (by rw[ne_eq,we];omega)];exact cC
   .refine aQ ?_;simp only[g5,Bool.true_eq_false,if_false,y1,y2];rw[if_pos (.inr ⟨ag,by rw[ne_eq,we];exact g6⟩)];exact cC
 have hk:o.il x s t=o.lC x s:=by rw[o.il,if_neg g1,if_neg (by omega)]
 rw[hk];clear hk;refine aQ ?_;apply K.cond<;>intro g5
 ·(repeat' (refine aQ ?_;first | (refine K.cond (fun _=>?_) (fun _=>?_)<;>try (exfalso;omega)) | refine K.du (fun _=>?_) (fun _=>?_)))<;>try refine aQ ?_
  all_goals
   refine⟨?_,fL⟩;rw[o.lC,if_pos g5];split<;>first | rfl | (exfalso;omega)
 refine aQ ?_;apply K.cond<;>intro g6
 .have hk:o.lC x s=o.jE x.n s:=by rw[o.lC,if_neg g5,if_pos g6]
  rw[hk];have yd:(o.jE x.n s).1=0/\((o.jE x.n s).2=0\/(o.jE x.n s).2=8):=by
   unfold o.jE; (repeat' split)<;>simp
  refine aQ ?_;refine K.gS (c:=[_,_,_,_,_,_]) aP (Ext.refl _) rfl ?_;refine aQ ?_;refine K.call (Xt x.n _ s aU (h.ext he)) ?_;rintro _ bb ⟨⟨y,rfl,b8⟩,ax⟩;generalize o.jE x.n s=q at *;obtain⟨dH,dM⟩:=q;obtain⟨rfl,aG⟩:=yd;refine aQ ?_;refine K.tf (vs:=y.enc) (fun _=>by simp -dsimp only[c4,cF,Nat.reduceAdd,Nat.reduceEqDiff,reduceIte,reduceCtorEq,db]) rfl rfl (by simp[o.dv.enc,Value.oneCell']) fun bp cM fM aN bA=>?_;refine aQ ?_;apply K.cond<;>intro g7
  .refine aQ ?_;have g8:dM=0:=g7;rw[g8];exact cC
  .refine aQ ?_
   have:dM=8:=aG.resolve_left g7
   rw[this];exact cC
 refine aQ ?_;apply K.cond<;>intro g7
 .have hk:o.lC x s=o.AA x.n s:=by rw[o.lC,if_neg g5,if_neg g6,if_pos g7]
  rw[hk,o.AA];refine aQ ?_;apply K.cond<;>intro g1
  .refine aQ ?_;intro bb ax;refine aQ ?_;rw[if_neg (by omega)];exact cC
  rw[if_pos (by omega)];obtain⟨i,ad⟩:=Int.eq_ofNat_of_zero_le (show 0<=x.n by omega);obtain⟨_,hA⟩:=au.n;rw[ad] at hA;have aG:x.n.tdiv 16=((i / 16:Nat):Int):=by rw[ad];rfl
  have hm:x.n.tmod 16=((i % 16:Nat):Int):=by rw[ad];rfl
  refine aQ ?_;refine K.quo (by omega) ?_;rw[aG];refine aQ ?_;apply K.cond<;>intro g2
  .refine aQ ?_;intro bb ax;refine aQ ?_;rw[o.hL (.inr (by omega))];exact cC
  have aR:i / 16<s.procs.length:=by omega
  rw[o.iT (by omega) (by omega)];simp only[Int.toNat_natCast];refine aQ ?_;refine K.rem (by omega) ?_;refine aQ ?_;refine K.quo (by omega) ?_;rw[aG];obtain⟨a,rfl⟩:=eh.addr (by omega);obtain⟨_,cE,dT,De,_⟩:=eh.at (i / 16) aR;have Lq:w.cell? ((a.add (i / 16*5)).add 2)=some (.int .i64 s.procs[i / 16].cx):=De 2 _ rfl;refine aQ ?_;refine K.ld ((aB.trans aA).cell Lq) ?_;refine aQ ?_;rw[hm];intro bb ax;refine aQ ?_;apply K.cond<;>intro g3
  all_goals
   refine aQ ?_;refine⟨?_,fL⟩
   first | rw[if_pos (by omega)] | rw[if_neg (by omega)]
 (repeat' (refine aQ ?_;first | (refine K.cond (fun _=>?_) (fun _=>?_)<;>try (exfalso;omega)) | refine K.du (fun _=>?_) (fun _=>?_)))<;>try refine aQ ?_
 all_goals
  refine⟨?_,fL⟩;rw[o.lC,if_neg g5,if_neg g6,if_neg g7,if_pos (by omega)];split<;>first | rfl | (exfalso;omega)
end Go.Proofs.R
end
section
namespace Go.Proofs.R
open Go Go.RowKit bt
theorem Wc(al:o.pz)(k:Int):o.nd al [k]=if al.iX = -1\/k=al.iX then (al.makes,0) else (0,9):=by
 simp[o.nd]
theorem ahf(al:o.pz)(a b:Int):o.nd al [a,b]=if (al.iX = -1\/a=al.iX)/\a=b then (al.makes,0) else (0,9):=by
 simp only[o.nd,List.all_cons,List.all_nil,List.headD_cons,Bool.and_true,decide_true];by_cases h:a=b
 .subst h;simp
 .have bE:¬b=a:=fun e=>h e.symm;simp[h,bE]
def tg(x:o.Node)(k:Int)(s:o.Scope):Int×Int:=match o.gI x.op with | some al=>o.nd al [k] | none=>o.il x s k
theorem akg(x:o.Node)(k:Int)(cs:List Value)(s:o.Scope)(w:World)(h:o.fC w cs s)(lv:x.op=3\/x.op=9\/x.op=10) :
  bu Tryz.prog F.Eb #[.agg x.enc.toArray,.int .i64 k,.agg cs.toArray] w fun v w'=>v = .tuple #[.int .i64 (tg x k s).1,.int .i64 (tg x k s).2]/\Ext w w':=by
 obtain⟨a0,bS,dD,c1,a2,c2,a3,bP,a4,bX,rfl,qc,dH,dM,eh,hc,eI,ej,eo,dX,ep⟩:=h.form;refine bL E.Eb ?_;refine bG ?_;refine aQ ?_;refine K.new fun av bC cR aB ao=>?_;refine aQ ?_;refine K.new fun aU cr dQ aA aP=>?_;have he:=aB.trans aA;have dc:aU.heap[bC]? = some (.cells #[.int .i64 x.op,.int .i64 x.n] T.f):=aA.obj ao;clear ao;refine aQ ?_;apply K.cond<;>intro g1
 .have bc:o.gI x.op=none:=by rw[g1];rfl
  have hk:tg x k s=(let q:=o.fP s.vars x.n s;if q.2.2=false then (0,8) else if (x.op=3/\(q.2.1=0\/k≠q.2.1))\/(x.op≠3/\q.2.1≠0) then (0,9) else (q.1,0)):=by
   rw[tg,bc];simp only;rw[o.il,if_neg (by omega),if_pos (by omega)];simp only[show ¬x.op=4 from by omega,if_false]
  rw[hk];refine aQ ?_;refine K.gS (c:=[_,_,_,_,_,_]) aP (Ext.refl _) rfl ?_;refine aQ ?_;refine K.call (E8 _ s.vars x.n _ s aU (dH.ext he) (h.ext he)) ?_;rintro _ bb ⟨⟨y,rfl,b8⟩,ax⟩;have dt:(o.fP s.vars x.n s).2.2=true->_:=fun g=>MJ g (b8 g);clear b8 hk;generalize o.fP s.vars x.n s=q at dt ⊢;obtain⟨wO,yK,Nt⟩:=q;refine aQ ?_;refine K.tf (vs:=y.enc) (fun _=>by simp -dsimp only[c4,cF,Nat.reduceAdd,Nat.reduceEqDiff,reduceIte,reduceCtorEq,db]) rfl rfl (by simp[o.Var.enc,Value.oneCell']) fun bp cM fM aN bA=>?_;have iH:bp.heap[cM]? = some (.cells #[.string y.name,.int .i64 y.scalar,.int .i64 y.over,.int .i64 y.bf,.int .i64 y.ad,.int .i64 y.init] T.j):=bA;clear bA;refine aQ ?_;refine K.du (fun g5=>?_) (fun g5=>?_);rotate_left
  .refine aQ ?_;simp only[g5,if_true];exact cC
  obtain⟨gh,z2,z3,z4,z5,By⟩:=dt g5;have y1:wO=kindOf y.scalar:=gh;have y2:yK=kindOf y.over:=z2;have we:yK=if y.over=0 then 0 else 1+y.over:=y2
  refine aQ ?_;apply K.cond<;>intro g6
  .refine aQ ?_;simp only[g5,Bool.true_eq_false,if_false];rw[if_pos (.inl ⟨g1,.inl (by rw[we,if_pos g6])⟩)];exact cC
  rw[if_neg g6] at we;refine aQ ?_;apply K.cond<;>intro g7;rotate_left
  .refine aQ ?_;simp only[g5,Bool.true_eq_false,if_false];rw[if_pos (.inl ⟨g1,.inr (by omega)⟩)];exact cC
  refine aQ ?_;refine K.call (H4 y.scalar bp (by omega)) ?_;rintro _ _ ⟨rfl,rfl⟩;refine aQ ?_;simp only[g5,Bool.true_eq_false,if_false,y1];rw[if_neg (by omega)];exact cC
 have iC:x.op=9->tg x k s=if k=1 then (1,0) else (0,9):=by
  intro e;rw[tg,e];show o.nd _ [k]=_;rw[Wc];simp
 have jS:x.op=10->tg x k s=if k=0 then (0,0) else (0,9):=by
  intro e;rw[tg,e];show o.nd _ [k]=_;rw[Wc];simp
 (repeat' (refine aQ ?_;first | (refine K.cond (fun _=>?_) (fun _=>?_)<;>try (exfalso;omega)) | refine K.du (fun _=>?_) (fun _=>?_)))<;>try refine aQ ?_
 all_goals
  refine⟨?_,fL⟩;rcases lv with e | e | e
  .exact absurd e g1
  .rw[iC e];split<;>first | rfl | (exfalso;omega)
  .rw[jS e];split<;>first | rfl | (exfalso;omega)
def Fu(op a b:Int):Int×Int:=match o.gI op with | some al=>o.nd al [a,b] | none=>(0,9)
theorem akq(op a b:Int)(w:World)(lv:11<=op/\op<=19) :
  bu Tryz.prog F.Ec #[.int .i64 op,.int .i64 a,.int .i64 b] w fun v w'=>v = .tuple #[.int .i64 (Fu op a b).1,.int .i64 (Fu op a b).2]/\w'=w:=by
 have key:Fu op a b=if a≠b then (0,9) else if op=14\/op=15 then (1,0) else if op=18\/op=19 then (if a=1 then (1,0) else (0,9)) else if op=16\/op=17 then (if a=0 then (1,0) else (0,9)) else (if a=0 then (0,0) else (0,9)):=by
  have aw:op=11\/op=12\/op=13\/op=14\/op=15\/op=16\/op=17\/op=18\/op=19:=by omega
  rcases aw with e | e | e | e | e | e | e | e | e<;>subst e <;> (show o.nd _ [a,b]=_)<;>rw[ahf]<;>by_cases C0:a=b<;>simp[C0,o.yL]
 refine bL E.Ec ?_;refine bG ?_
 (repeat' (refine aQ ?_;first | (refine K.cond (fun _=>?_) (fun _=>?_)<;>try (exfalso;omega)) | refine K.du (fun _=>?_) (fun _=>?_)))<;>try refine aQ ?_
 all_goals
  refine⟨?_,bk⟩;rw[key]
  (repeat' split)<;>first | rfl | (exfalso;omega)
end Go.Proofs.R
end
section
namespace Go.Proofs.R
open Go Go.RowKit bt
theorem acR{s:o.Scope}{x:o.Node}{st:List Int}(h:o.e0 x.op=0):o.e5 s x st=o.il x s (st.getLastD 0):=by
 unfold o.e5;rw[(Im h).2.2.2]
theorem acS{s:o.Scope}{x:o.Node}{st:List Int}(h:o.e0 x.op=1)(aS:1<=st.length):o.e5 s x st=tg x st[st.length - 1] s:=by
 unfold o.e5 tg;cases bc:o.gI x.op with
 | none=>simp only;rw[KJ st (by omega)]
 | some al =>
  have:=(o.ER bc).1
  simp only;rw[show al.parts.toNat=1 from by omega,Ki aS]
theorem acT{s:o.Scope}{x:o.Node}{st:List Int}(h:o.e0 x.op=2)(aS:2<=st.length):o.e5 s x st=Fu x.op st[st.length - 2] st[st.length - 1]:=by
 unfold o.e5 Fu;obtain⟨al,bc,aO⟩:=WZ (show 9<=x.op/\x.op<=19 by have:=Io h;omega);rw[bc];simp only;rw[show al.parts.toNat=2 from by omega,Ss aS]
theorem Xy(ht:Value)(e:List o.Node)(cs:List Value)(s:o.Scope)(w:World)(he:o.fW w ht e)(h:o.fC w cs s) :
  bu Tryz.prog F.AI #[ht,.agg cs.toArray] w fun v w'=>v = .tuple #[.int .i64 (o.kind e s).1,.int .i64 (o.kind e s).2]/\Ext w w':=by
 obtain⟨v0,v1,v2,v3,v4,rfl,_⟩:=h.ex;obtain⟨bl,cap,rfl,hlen⟩:=he.form;refine bL E.AI ?_;refine bG ?_;refine aQ ?_;refine K.new fun av dy wm aB ao=>?_;refine aQ ?_;apply K.cond<;>intro g1
 .refine aQ ?_;rw[o.kind,o.ko,if_pos (by omega)];exact cC
 refine aQ ?_;apply K.cond<;>intro g2
 .refine aQ ?_;rw[o.kind,o.ko,if_neg (by omega),if_pos (by omega)];exact cC
 refine aQ ?_;refine K.zX 7 e.length (fun k S w' => ∃v st,S 6=v/\l4 av.heap.size w' v st/\o.eS (o.e5 s) (e.take k) []=(0,st)/\(0<k->1<=st.length)/\st.length<=12/\Ext av w')
  (by simp -dsimp only[c4,cF,Nat.reduceAdd,Nat.reduceEqDiff,reduceIte,reduceCtorEq,db]) ⟨.slice none 0 0,[],by simp -dsimp only[c4,cF,Nat.reduceAdd,Nat.reduceEqDiff,reduceIte,reduceCtorEq,db],bs.nil _ _ _ _ _,by simp[o.eS],by simp,by simp,Ext.refl _⟩ ?_
 rintro k S aU cg hk cj ⟨v6,st,bO,gj,hn,CT,qH,aA⟩;have ak:=cg 0 rfl;have ag:=cg 3 rfl;simp only[cu,Nat.reduceAdd,Nat.reduceEqDiff,reduceIte,jg,me] at ak ag;clear cg;obtain⟨wL,tI,rfl,ct,lU⟩:=gj.form;have ad:Ints aU _ st:=bs.pq (enc:=encI) (sz:=1) (fun _=>rfl) gj;unfold maxLen at lU;refine dq (zI ak (zI ag (zI bO cj))) ?_;apply K.cond<;>intro g3;rotate_left
 .have br:k=e.length:=by omega
  subst br;rw[List.take_length] at hn;have h1:=CT (by omega);obtain⟨a,rfl⟩:=ad.addr h1;have fF:o.kind e s=if st.length > 1 then (0,5) else (st.headD 0,0):=by
   rw[o.kind,o.ko,if_neg (by omega),if_neg (by omega),hn,if_neg (by simp)]
  rw[fF];clear fF;refine dq (zI ak (zI ag (zI bO cj))) ?_;apply K.cond<;>intro g4
  .refine aQ ?_;rw[if_pos (by omega)];exact cC
  .refine dq (zI ak (zI ag (zI bO cj))) ?_;refine K.dp 0 rfl (by omega) ?_;refine aQ ?_;rw[if_neg (by omega)]
   have:st.headD 0=st[0]:=by
    cases st with
    | nil=>simp at h1
    | cons z st=>rfl
   rw[this];exact cC
 have br:k<e.length:=by omega
 obtain⟨a,rfl⟩:=he.addr (by omega);have s5:=(he.at k br).ok;have jW:=fun ak=>o.NT (f:=o.e5 s) (e:=e) (by omega) br hn ak;have sY:=o.wT br hn;have CR:=aB.trans aA;have eC:=aA.obj ao;refine dq (zI ak (zI ag (zI bO cj))) ?_;refine K.call (Yv e[k].op aU) ?_;rintro _ _ ⟨rfl,rfl⟩;generalize aD:o.e0 e[k].op=n at *;have ki : -1<=n/\n<=2:=by rw[<-aD];unfold o.e0; (repeat' split)<;>omega
 refine dq (zI ak (zI ag (zI bO cj))) ?_;apply K.cond<;>intro g4
 .have ay:o.stepG (o.e5 s) e[k] st=(3,st):=by unfold o.stepG;rw[aD,if_pos g4]
  rw[ay] at jW;refine aQ ?_;rw[o.kind,jW (by simp)];exact cC
 refine dq (zI ak (zI ag (zI bO cj))) ?_;apply K.cond<;>intro g5
 .have ay:o.stepG (o.e5 s) e[k] st=(4,st):=by unfold o.stepG;rw[aD,if_neg g4,if_pos g5]
  rw[ay] at jW;refine aQ ?_;rw[o.kind,jW (by simp)];exact cC
 obtain⟨p,rfl⟩:=Int.eq_ofNat_of_zero_le (show 0<=n by omega);have eD:o.stepG (o.e5 s) e[k] st=if (o.e5 s e[k] st).2≠0 then ((o.e5 s e[k] st).2,st) else if (st.take (st.length - p)++[(o.e5 s e[k] st).1]).length > 12 then (12,st) else (0,st.take (st.length - p)++[(o.e5 s e[k] st).1]):=by
  unfold o.stepG;rw[aD,if_neg g4,if_neg g5];simp only[Int.toNat_natCast]
 have ik:(st.take (st.length - p)++[(o.e5 s e[k] st).1]).length=st.length - p+1:=by simp[List.length_take]
 rw[ik] at eD;have fin:p=0\/p=1\/p=2:=by omega
 rcases fin with yg | yg | yg
 .have aK:=acR (s:=s) (st:=st) (x:=e[k]) (by omega);obtain⟨gh,z2,z3,z4⟩:=Im (x:=e[k].op) (by omega);refine dq (zI ak (zI ag (zI bO cj))) ?_;refine K.gS (c:=[_,_,_,_,_,_]) eC (Ext.refl _) rfl ?_;refine dq (zI ak (zI ag (zI bO cj))) ?_;refine K.gB _ (fun w' e'=>aka e[k] _ s w' s5 (h.ext (CR.trans e')) ⟨gh,z2⟩ z3 (st.getLastD 0)) ?_;rw[<-aK];refine dq (zI ak (zI ag (zI bO cj))) ?_;intro bb ax;refine dq (zI ak (zI ag (zI bO cj))) ?_;apply K.cond<;>intro g6;rotate_left
  .rw[if_pos g6] at eD;refine aQ ?_;rw[o.kind,jW (by rw[eD];exact g6),eD];exact cC
  rw[if_neg (by simpa using g6)] at eD;have fO:=gj.ext ax;refine dq (zI ak (zI ag (zI bO cj))) ?_;refine K.lk (cs:=[]) (by simp[List.range,List.range.loop,eQ]) fun bp cM fM aN bA=>?_;have z12:=aA.size;have z23:=ax.size;have Bx:=aN.size;have pS:l4 av.heap.size bp (.slice (some ⟨cM,0,none⟩) 0 0) []:=bs.empty (by omega) bA;have fq:=fO.ext aN;have eG:l4 av.heap.size bp (.slice _ (st.length - p) _) (st.take (st.length - p)):=bs.head (enc:=encI) (sz:=1) (xs:=st) (fun _=>rfl) fq (st.length - p) (Nat.sub_le _ _);have cw:(st.take (st.length - p)).length=st.length - p:=by simp[List.length_take]
  refine dq (zI ak (zI ag (zI bO cj))) ?_;refine K.tm (st.length - p) (by refine ch bO ?_;first | rfl | (congr 1;omega)) (by omega) ?_;refine aQ ?_;refine K.zr (xs:=[]) (ys:=st.take (st.length - p)) pS eG (fun _=>rfl) qE (by rw[cw];simp only[List.length_nil];omega) (by rw[cw];simp only[List.length_nil,maxLen];omega) (by omega) fun v5 bR mZ kx=>?_;have mY:Ext bb bR:=aN.grown kx fun q aG=>by simp[Value.ownBlock] at aG;omega
  rw[List.nil_append] at mZ;have z35:=mY.size;refine aQ ?_;refine K.lk (cs:=[(o.e5 s e[k] st).1].flatMap encI) (by simp[List.range,List.range.loop,eQ,lay,ft,cu,Value.cells,encI]) fun bY ek e6 a8 ct=>?_;have y3:=a8.size;have dO:=mZ.ext a8;refine aQ ?_;refine K.su (xs:=st.take (st.length - p)) (ys:=[(o.e5 s e[k] st).1]) dO (fun _=>rfl) (hl ct) rfl qE (by rw[cw];simp only[List.length_cons,List.length_nil];omega) (by rw[cw];simp only[List.length_cons,List.length_nil,maxLen];omega) (by omega) fun Bs cd ew jV=>?_;have bJ:Ext av cd:=Ext.grown (((aA.trans ax).trans mY).trans a8) jV fun q aG=>(dO.lt q aG).1;obtain⟨EP,pK,rfl,_⟩:=ew.form;rw[ik] at ew ⊢;by_cases g7:12<st.length - p+1
  .rw[if_pos (by omega)] at eD
   first
    | (exfalso;omega)
    | (refine aQ ?_
       rw[o.kind,jW (by rw[eD];simp),eD];exact⟨bk,aB.trans bJ⟩)
  rw[if_neg (by omega)] at eD;refine dq cj ?_;refine⟨br,bk,_,_,rfl,ew,by rw[sY,eD],fun _=>by rw[ik];omega,by rw[ik];omega,bJ⟩
 .have aK:=acS (s:=s) (st:=st) (x:=e[k]) (by omega) (by omega);obtain⟨lb,rfl⟩:=ad.addr (by omega);refine dq (zI ak (zI ag (zI bO cj))) ?_;refine K.dp (st.length - 1) (by omega) (by omega) ?_;refine dq (zI ak (zI ag (zI bO cj))) ?_;refine K.gS (c:=[_,_,_,_,_,_]) eC (Ext.refl _) rfl ?_;refine dq (zI ak (zI ag (zI bO cj))) ?_;refine K.gB _ (fun w' e'=>akg e[k] _ _ s w' (h.ext (CR.trans e')) (WS (by omega))) ?_;rw[<-aK];refine dq (zI ak (zI ag (zI bO cj))) ?_;intro bb ax;refine dq (zI ak (zI ag (zI bO cj))) ?_;apply K.cond<;>intro g6;rotate_left
  .rw[if_pos g6] at eD;refine aQ ?_;rw[o.kind,jW (by rw[eD];exact g6),eD];exact cC
  rw[if_neg (by simpa using g6)] at eD;have fO:=gj.ext ax;refine dq (zI ak (zI ag (zI bO cj))) ?_;refine K.lk (cs:=[]) (by simp[List.range,List.range.loop,eQ]) fun bp cM fM aN bA=>?_;have z12:=aA.size;have z23:=ax.size;have Bx:=aN.size;have pS:l4 av.heap.size bp (.slice (some ⟨cM,0,none⟩) 0 0) []:=bs.empty (by omega) bA;have fq:=fO.ext aN;have eG:l4 av.heap.size bp (.slice _ (st.length - p) _) (st.take (st.length - p)):=bs.head (enc:=encI) (sz:=1) (xs:=st) (fun _=>rfl) fq (st.length - p) (Nat.sub_le _ _);have cw:(st.take (st.length - p)).length=st.length - p:=by simp[List.length_take]
  refine dq (zI ak (zI ag (zI bO cj))) ?_;refine K.tm (st.length - p) (by refine ch bO ?_;first | rfl | (congr 1;omega)) (by omega) ?_;refine aQ ?_;refine K.zr (xs:=[]) (ys:=st.take (st.length - p)) pS eG (fun _=>rfl) qE (by rw[cw];simp only[List.length_nil];omega) (by rw[cw];simp only[List.length_nil,maxLen];omega) (by omega) fun v5 bR mZ kx=>?_;have mY:Ext bb bR:=aN.grown kx fun q aG=>by simp[Value.ownBlock] at aG;omega
  rw[List.nil_append] at mZ;have z35:=mY.size;refine aQ ?_;refine K.lk (cs:=[(o.e5 s e[k] st).1].flatMap encI) (by simp[List.range,List.range.loop,eQ,lay,ft,cu,Value.cells,encI]) fun bY ek e6 a8 ct=>?_;have y3:=a8.size;have dO:=mZ.ext a8;refine aQ ?_;refine K.su (xs:=st.take (st.length - p)) (ys:=[(o.e5 s e[k] st).1]) dO (fun _=>rfl) (hl ct) rfl qE (by rw[cw];simp only[List.length_cons,List.length_nil];omega) (by rw[cw];simp only[List.length_cons,List.length_nil,maxLen];omega) (by omega) fun Bs cd ew jV=>?_;have bJ:Ext av cd:=Ext.grown (((aA.trans ax).trans mY).trans a8) jV fun q aG=>(dO.lt q aG).1;obtain⟨EP,pK,rfl,_⟩:=ew.form;rw[ik] at ew ⊢;by_cases g7:12<st.length - p+1
  .rw[if_pos (by omega)] at eD
   first
    | (exfalso;omega)
    | (refine aQ ?_
       rw[o.kind,jW (by rw[eD];simp),eD];exact⟨bk,aB.trans bJ⟩)
  rw[if_neg (by omega)] at eD;refine dq cj ?_;refine⟨br,bk,_,_,rfl,ew,by rw[sY,eD],fun _=>by rw[ik];omega,by rw[ik];omega,bJ⟩
 .have aK:=acT (s:=s) (st:=st) (x:=e[k]) (by omega) (by omega);obtain⟨lb,rfl⟩:=ad.addr (by omega);refine dq (zI ak (zI ag (zI bO cj))) ?_;refine K.dp (st.length - 2) (by omega) (by omega) ?_;refine dq (zI ak (zI ag (zI bO cj))) ?_;refine K.dp (st.length - 1) (by omega) (by omega) ?_;refine dq (zI ak (zI ag (zI bO cj))) ?_;refine K.gB _ (fun w' e'=>(akq e[k].op _ _ w' (Io (by omega))).mono fun v b2 h=>⟨h.1,h.2 ▸ Ext.refl _⟩) ?_;rw[<-aK];refine dq (zI ak (zI ag (zI bO cj))) ?_;intro bb ax;refine dq (zI ak (zI ag (zI bO cj))) ?_;apply K.cond<;>intro g6;rotate_left
  .rw[if_pos g6] at eD;refine aQ ?_;rw[o.kind,jW (by rw[eD];exact g6),eD];exact cC
  rw[if_neg (by simpa using g6)] at eD;have fO:=gj.ext ax;refine dq (zI ak (zI ag (zI bO cj))) ?_;refine K.lk (cs:=[]) (by simp[List.range,List.range.loop,eQ]) fun bp cM fM aN bA=>?_;have z12:=aA.size;have z23:=ax.size;have Bx:=aN.size;have pS:l4 av.heap.size bp (.slice (some ⟨cM,0,none⟩) 0 0) []:=bs.empty (by omega) bA;have fq:=fO.ext aN;have eG:l4 av.heap.size bp (.slice _ (st.length - p) _) (st.take (st.length - p)):=bs.head (enc:=encI) (sz:=1) (xs:=st) (fun _=>rfl) fq (st.length - p) (Nat.sub_le _ _);have cw:(st.take (st.length - p)).length=st.length - p:=by simp[List.length_take]
  refine dq (zI ak (zI ag (zI bO cj))) ?_;refine K.tm (st.length - p) (by refine ch bO ?_;first | rfl | (congr 1;omega)) (by omega) ?_;refine aQ ?_;refine K.zr (xs:=[]) (ys:=st.take (st.length - p)) pS eG (fun _=>rfl) qE (by rw[cw];simp only[List.length_nil];omega) (by rw[cw];simp only[List.length_nil,maxLen];omega) (by omega) fun v5 bR mZ kx=>?_;have mY:Ext bb bR:=aN.grown kx fun q aG=>by simp[Value.ownBlock] at aG;omega
  rw[List.nil_append] at mZ;have z35:=mY.size;refine aQ ?_;refine K.lk (cs:=[(o.e5 s e[k] st).1].flatMap encI) (by simp[List.range,List.range.loop,eQ,lay,ft,cu,Value.cells,encI]) fun bY ek e6 a8 ct=>?_;have y3:=a8.size;have dO:=mZ.ext a8;refine aQ ?_;refine K.su (xs:=st.take (st.length - p)) (ys:=[(o.e5 s e[k] st).1]) dO (fun _=>rfl) (hl ct) rfl qE (by rw[cw];simp only[List.length_cons,List.length_nil];omega) (by rw[cw];simp only[List.length_cons,List.length_nil,maxLen];omega) (by omega) fun Bs cd ew jV=>?_;have bJ:Ext av cd:=Ext.grown (((aA.trans ax).trans mY).trans a8) jV fun q aG=>(dO.lt q aG).1;obtain⟨EP,pK,rfl,_⟩:=ew.form;rw[ik] at ew ⊢;by_cases g7:12<st.length - p+1
  .rw[if_pos (by omega)] at eD
   first
    | (exfalso;omega)
    | (refine aQ ?_
       rw[o.kind,jW (by rw[eD];simp),eD];exact⟨bk,aB.trans bJ⟩)
  rw[if_neg (by omega)] at eD;refine dq cj ?_;refine⟨br,bk,_,_,rfl,ew,by rw[sY,eD],fun _=>by rw[ik];omega,by rw[ik];omega,bJ⟩
end Go.Proofs.R
end