/- Parts. -/
import Derived.Test.YtfdohkdifdemeaaGreatDoorQdsj
set_option linter.all false
set_option maxRecDepth 8000
set_option maxHeartbeats 4000000
section
namespace Go.Proofs.R
open Go Go.RowKit bt
theorem akm(f:o.Node->List Int->Int×Int)(two:o.pH->List Int->Int×Int)(leaf:o.Node->List Int->Int×Int)(aK:Od f two leaf)(cQ:Int->Prop)
  (b:Nat)(w0 w:World)(HW:Ext w0 w)(sQ:w0.heap.size<=b)(hD mc v2:Value)(e:List o.Node)(he:o.gd w0 hD e)(aC:w.heap[b]? = some (.cells #[.slice none 0 0,.map none] T.zw))
  (Dx:∀x st,x.ok->(∀z∈st,cQ z)->0<=o.eV x.op->o.eV x.op<=st.length->(f x st).2=0->cQ (f x st).1)
  (LW:∀x st base m w',x.ok->Mod (fun k=>k=b) w w'->ry base b w' m st->(∀z∈st,cQ z)->0<=o.eV x.op->o.eV x.op<=st.length->o.gE x.op=none->∀av c9 t,Ext w' av ->
   (∀b1,Ext av b1->c9 (.tuple #[.int .i64 (leaf x st).1,.int .i64 (leaf x st).2]) b1)->xd Tryz.prog mc [.agg x.enc.toArray] av c9 t)
  (Mm:∀al e3 gi l w' c9 t,Mod (fun k=>k=b) w w'->BW w' al e3->(∃x,o.gE x=some al)->al.parts=l.length->Ints w' gi l ->
   (∀b1,Ext w' b1->c9 (.tuple #[.int .i64 (two al l).1,.int .i64 (two al l).2]) b1)->vt Tryz.prog v2 [e3,gi] w' c9 t) :
  bu Tryz.prog F.pW #[.pointer (some ⟨b,0,none⟩),hD,mc,v2] w fun v w' =>
   v = .tuple #[.int .i64 (o.kt f e).1,.int .i64 (o.kt f e).2]/\Mod (fun k=>k=b) w w':=by
 obtain⟨bm,cap,rfl,hlen⟩:=he.form;refine bL E.pW ?_;refine bG ?_;refine aP ?_;apply K.cond<;>intro g1
 .refine aP ?_;rw[o.kt,if_pos (by omega)];exact⟨rfl,Mod.refl _ _⟩
 refine aP ?_;apply K.cond<;>intro g2
 .refine aP ?_;rw[o.kt,if_neg (by omega),if_pos (by omega)];exact⟨rfl,Mod.refl _ _⟩
 refine aP ?_;refine K.call (aiL w) ?_;rintro m av ⟨DP,aB⟩;refine aP ?_;refine K.st1 (aB.obj aC) (by decide) (by obtain⟨r,_,_,_,e,_⟩:=DP;rw[e];rfl) fun aU s9 aQ=>?_;have Dk:aU.heap[b]? = some (.cells #[.slice none 0 0,m] T.zw):=aQ;clear aQ;have afI:pI aU m:=DP.mod (A:=fun k=>k=b) (s9.mod rfl) fun k al h1 U hk=>by
  subst hk;rw[aB.obj aC] at h1;injection h1 with h1
  rcases U with ⟨es,c,U⟩ | ⟨cs,U⟩
  .rw[U] at h1;cases h1
  .rw[U] at h1;injection h1 with _ h1
   cases h1
 have UY:Mod (fun k=>k=b) w aU:=aB.mod.trans (s9.mod rfl);have cv:b<aU.heap.size:=cG Dk;refine aP ?_;refine K.zY 27 e.length (fun k S w'=>Mod (fun k=>k=b) aU w'/\∃st,o.eE f (e.take k) []=(0,st)/\ry aU.heap.size b w' m st/\(0<k->1<=st.length)/\st.length<=12/\∀z∈st,cQ z)
  (by simp -dsimp only[c4,cF,Nat.reduceAdd,Nat.reduceEqDiff,reduceIte,reduceCtorEq,db]) ⟨Mod.refl _ _,[],by simp[o.eE],⟨⟨_,Dk,bs.nil _ _ _ _ _⟩,cv,Nat.le_refl _⟩,by simp,by simp,by simp⟩ ?_
 rintro k S bb cq hk nJ ⟨uC,st,hn,DJ,C1,qH,wm⟩;have ak:=cq 0 rfl;have h1:=cq 1 rfl;have U:=cq 2 rfl;have ag:=cq 3 rfl;have sP:=cq 25 rfl;have mw:=cq 26 rfl;simp only[cu,Nat.reduceAdd,Nat.reduceEqDiff,reduceIte,jh,mr] at ak h1 U ag sP mw;clear cq;have HK:Mod (fun k=>k=b) w bb:=UY.trans uC;refine dn (i_ ak (i_ h1 (i_ U (i_ ag (i_ sP (i_ mw nJ)))))) ?_;apply K.cond<;>intro g3
 .have bp:k<e.length:=by omega
  have anm:Ext w0 bb:=HK.ext HW fun q aD e=>by omega
  obtain⟨a,rfl⟩:=he.addr (by omega);have td:=(he.at k bp).ok;have j2:=fun ak=>o.NW (f:=f) (e:=e) (by omega) bp hn ak;have s7:=o.vb bp hn;have afJ:pI bb m:=afI.mod (A:=fun k=>k=b) uC fun k al h1 U hk=>by
   subst hk;rw[Dk] at h1;injection h1 with h1
   rcases U with ⟨es,c,U⟩ | ⟨cs,U⟩
   .rw[U] at h1;cases h1
   .rw[U] at h1;injection h1 with _ h1
    cases h1
  refine dn (i_ ak (i_ h1 (i_ U (i_ ag (i_ sP (i_ mw nJ)))))) ?_;generalize ar:e[k]=x at *;refine K.tm (vs:=x.enc) (fun _=>by simp -dsimp only[c4,cF,Nat.reduceAdd,Nat.reduceEqDiff,reduceIte,reduceCtorEq,db]) rfl rfl (by simp[o.Node.enc,Value.oneCell']) fun bq cN fN aM bw=>?_;refine dn (i_ ak (i_ h1 (i_ U (i_ ag (i_ sP (i_ mw nJ)))))) ?_;refine K.gV (c:=x.enc) bw (Ext.refl _) rfl ?_;refine dn (i_ ak (i_ h1 (i_ U (i_ ag (i_ sP (i_ mw nJ)))))) ?_;have LZ:Mod (fun k=>k=b) w bq:=HK.trans aM.mod;refine K.call (alo f two leaf aK x aU.heap.size b bq m mc v2 st (DJ.ext aM) (afJ.ext aM) (by omega)
   (fun dH dN eb w' c9 t D0 hk=>LW x st _ m bq td LZ (DJ.ext aM) wm dH dN eb w' c9 t D0 hk)
   (fun al e3 gi w' c9 t D0 dH dN eb hd hk=>Mm al e3 gi _ w' c9 t (LZ.trans D0.mod) dN ⟨_,dH⟩ (by have:=WV dH;simp[List.length_drop];omega) hd hk)) ?_
  rintro _ bT ⟨rfl,lD,Vo⟩;have afx:Mod (fun k=>k=b) w bT:=LZ.then lD fun i ad h=>by
   rcases h with h | h
   .exact h
   .have:=UY.size;omega
  refine dn (i_ ak (i_ h1 (i_ U (i_ ag (i_ sP (i_ mw nJ)))))) ?_;apply K.cond<;>intro g4;rotate_left
  .refine dn (i_ ak (i_ h1 (i_ U (i_ ag (i_ sP (i_ mw nJ)))))) ?_;rw[j2 g4];exact⟨bk,afx⟩
  have DH:=o.aln g4;have afc:∀z∈(o.stepG f x st).2,cQ z:=by
   have a1:=Dx x st td wm;clear j2 s7 DH Vo;unfold o.stepG at g4 ⊢;by_cases dH:o.eV x.op<0
   .rw[if_pos dH] at g4;cases g4
   by_cases dN:(st.length:Int)<o.eV x.op
   .rw[if_neg dH,if_pos dN] at g4;cases g4
   by_cases eb:(f x st).2≠0
   .rw[if_neg dH,if_neg dN,if_pos eb] at g4;exact absurd g4 eb
   by_cases hd:(st.take (st.length - (o.eV x.op).toNat)++[(f x st).1]).length > 12
   .rw[if_neg dH,if_neg dN,if_neg eb,if_pos hd] at g4;cases g4
   rw[if_neg dH,if_neg dN,if_neg eb,if_neg hd];intro z bN;rcases List.mem_append.1 bN with bN | bN
   .exact wm z (List.mem_of_mem_take bN)
   .simp at bN;subst bN;exact a1 (by omega) (by omega) (by simpa using eb)
  refine dn (i_ ak (i_ h1 (i_ U (i_ ag (i_ sP (i_ mw nJ)))))) ?_;refine⟨bp,bk,?_,(o.stepG f x st).2,?_,Vo g4,fun _=>DH.1,DH.2,afc⟩
  .refine(uC.trans aM.mod).then lD fun i ad h=>?_;rcases h with h | h
   .exact h
   .omega
  .rw[s7];exact Prod.ext g4 rfl
 .have bp:k=e.length:=by omega
  subst bp;rw[List.take_length] at hn;obtain⟨yX,dt,gr⟩:=DJ.ex;obtain⟨j5,o1,rfl,Dp,iq⟩:=gr.form;have ad:Ints bb _ st:=bs.py (enc:=encI) (sz:=1) (fun _=>rfl) gr;have h1:=C1 (by omega);obtain⟨a,rfl⟩:=ad.addr h1;have fS:o.kt f e=if st.length > 1 then (0,5) else (st.headD 0,0):=by
   rw[o.kt,if_neg (by omega),if_neg (by omega),hn,if_neg (by simp)]
  rw[fS];clear fS;refine dn (i_ ak (i_ h1 (i_ U (i_ ag (i_ sP (i_ mw nJ)))))) ?_;apply K.cond<;>intro g4
  .refine aP ?_;rw[if_pos (by omega)];exact⟨rfl,HK⟩
  .refine dn (i_ ak (i_ h1 (i_ U (i_ ag (i_ sP (i_ mw nJ)))))) ?_;refine K.dD 0 rfl (by omega) ?_;refine aP ?_;rw[if_neg (by omega)]
   have:st.headD 0=st[0]:=by
    cases st with
    | nil=>simp at h1
    | cons z st=>rfl
   rw[this];exact⟨bk,HK⟩
theorem ahj(al:o.pH)(u gi:Value)(l:List Int)(w:World)(aS:Ints w gi l) :
  bu Tryz.prog F.em #[.agg #[.int .i64 al.parts,.int .i64 al.jb,.int .i64 al.makes,u],gi] w fun v w'=>v = .tuple #[.int .i64 (o.nk al l).1,.int .i64 (o.nk al l).2]/\Ext w w':=by
 obtain⟨bm,cap,rfl,hlen⟩:=aS.form;refine bL E.em ?_;refine bG ?_;refine aP ?_;refine K.new fun av b aC aB aq=>?_;refine aP ?_;refine K.zY 10 l.length (fun k S w'=>w'=av/\(l.take k).all (fun k=>(decide (al.jb = -1)||decide (k=al.jb))&&decide (k=l.headD 0))=true) (by simp -dsimp only[c4,cF,Nat.reduceAdd,Nat.reduceEqDiff,reduceIte,reduceCtorEq,db]) ⟨rfl,by simp⟩ ?_;rintro k S aU cq hk jW ⟨rfl,dC⟩;have h1:=cq 1 rfl;have U:=cq 2 rfl;have dB:=cq 8 rfl;have iG:=cq 9 rfl;simp only[cu,Nat.reduceAdd,Nat.reduceEqDiff,reduceIte,jh,mr] at h1 U dB iG;clear cq;refine dn (i_ h1 (i_ U (i_ dB (i_ iG jW)))) ?_;apply K.cond<;>intro g1;rotate_left
 .rw[List.take_of_length_le (by omega)] at dC;refine dn (i_ h1 (i_ U (i_ dB (i_ iG jW)))) ?_;rw[o.nk,if_pos dC];exact cA
 have bp:k<l.length:=by omega
 obtain⟨a,rfl⟩:=aS.addr (by omega);have wA:l.take (k+1)=l.take k++[l[k]]:=List.take_succ_eq_append_getElem bp;have K8:=List.all_append (xs:=l.take (k+1)) (ys:=l.drop (k+1)) (f:=fun k=>(decide (al.jb = -1)||decide (k=al.jb))&&decide (k=l.headD 0));rw[List.take_append_drop,wA,List.all_append] at K8;have ak:l.headD 0=l[0]:=by
  cases l with
  | nil=>simp at bp
  | cons z l=>rfl
 have Hi:((decide (al.jb = -1)||decide (l[k]=al.jb))&&decide (l[k]=l.headD 0))=false->o.nk al l=(0,9):=by
  intro h;rw[o.nk,if_neg (by rw[K8];simp only[List.all_cons,List.all_nil,h];simp)]
 have Dx:((decide (al.jb = -1)||decide (l[k]=al.jb))&&decide (l[k]=l.headD 0))=true->(l.take (k+1)).all (fun k=>(decide (al.jb = -1)||decide (k=al.jb))&&decide (k=l.headD 0))=true:=by
  intro h;rw[wA,List.all_append,dC];simp only[List.all_cons,List.all_nil,h];rfl
 rw[ak] at Hi;clear K8;have aN:0<l.length:=by omega
 have ph:Ints aU (.slice (some a) l.length cap) l:=aS.ext aB;have HD:=Dx;rw[ak] at Dx dC
 (repeat' first
 | (refine K.cond (fun _=>?_) (fun _=>?_)<;>try (exfalso;omega))
 | (refine K.dp (fun _=>?_) (fun _=>?_))
 | assumption
 | exact Ext.refl _
 | refine Ext.trans ?_ (by assumption)
 | refine K.wrap (by omega) ?_
 | refine K.ti (by assumption) ?_ rfl ?_
 | refine K.q1 (by assumption) ?_ rfl ?_
 | refine K.uU (by assumption) ?_ (by omega) rfl ?_
 | refine K.uV (by assumption) ?_ (by omega) rfl ?_
 | refine K.uT (by assumption) ?_ (by omega) rfl ?_
 | refine K.uL (by omega) ?_
 | refine K.sF (by first | assumption | omega) ?_
 | refine K.tS (by first | assumption | omega) ?_
 | refine K.qB (by assumption) ?_
 | refine K.rL (by assumption) ?_
 | simp -dsimp only[c4,cF,Nat.reduceAdd,Nat.reduceEqDiff,reduceIte,reduceCtorEq,db,h1,U,dB,iG,jW])
 all_goals first
  | (have dt:=Hi (by simp;omega);rw[dt];refine⟨bk,aB⟩)
  | (refine⟨by omega,bk,trivial,?_⟩;rw[ak];exact Dx (by simp;omega))
theorem ag9(x:o.Node)(cs:List Value)(s:o.Scope)(base b pm dv:Nat)(w:World)(m:Value)(st:List Int)(alC:TypeId)(ar:x.ok)(h:o.fE w cs s)(hm:ry base b w m st)(ag:x.op=3->0<st.length)
  (Vc:w.heap[pm]? = some (.cells #[.pointer (some ⟨b,0,none⟩)] alC))(wy:w.heap[dv]? = some (.cells cs.toArray T.e)) :
  bu Tryz.prog F.oq #[.agg x.enc.toArray,.pointer (some ⟨pm,0,none⟩),.pointer (some ⟨dv,0,none⟩)] w fun v w' =>
   v = .tuple #[.int .i64 (o.iu x s (st.getLastD 0)).1,.int .i64 (o.iu x s (st.getLastD 0)).2]/\Ext w w':=by
 obtain⟨v0,v1,v2,v3,v4,rfl,_⟩:=h.ex;refine bL E.oq ?_;refine bG ?_;refine aP ?_;refine K.new fun av bC cR aB aq=>?_;have cX:av.heap[bC]? = some (.cells x.enc.toArray T.f):=aq;refine aP ?_;refine K.gV (c:=x.enc) cX (Ext.refl _) rfl ?_;refine aP ?_;refine K.gV wy aB rfl ?_;refine aP ?_;refine K.call (ahc x _ s base b av m st ar (h.ext aB) (hm.ext aB) ag) ?_;rintro _ aU ⟨rfl,aA⟩;refine aP ?_;exact cA
theorem acZ(s:o.Scope):Od (o.e7 s) o.nk fun x st=>o.iu x s (st.getLastD 0):=fun _ _=>rfl
theorem V7(hD:Value)(e:List o.Node)(cs:List Value)(s:o.Scope)(w:World)(he:o.gd w hD e)(h:o.fE w cs s) :
  bu Tryz.prog F.bW #[hD,.agg cs.toArray] w fun v w'=>v = .tuple #[.int .i64 (o.kind e s).1,.int .i64 (o.kind e s).2]/\Ext w w':=by
 obtain⟨v0,v1,v2,v3,v4,rfl,_⟩:=h.ex;refine bL E.bW ?_;refine bG ?_;refine aP ?_;refine K.new fun av dv wy aB aq=>?_;refine aP ?_;refine K.cW (cs:=[.slice none 0 0,.map none]) (by simp[eP]) ?_;refine aP ?_;refine K.new fun aU b aC aA aQ=>?_;refine aP ?_;refine K.new fun bb pm Vc ax bA=>?_;refine aP ?_;refine K.tv bA (by decide) rfl fun bq eu bw=>?_;have aez:bq.heap[pm]? = some (.cells #[.pointer (some ⟨b,0,none⟩)] T.a2):=bw;have aM:Ext aU bq:=eu.ext ax Vc;have Vg:=cG aQ;have afW:=cG aq;have LF:Ext w bq:=(aB.trans aA).trans aM;clear bw eu ax bA;have fN:=aM.obj aQ;have k2:=aM.obj (aA.obj aq);have gl:=aB.size;refine aP ?_;refine K.call (akm (o.e7 s) o.nk (fun x st=>o.iu x s (st.getLastD 0)) (acZ s) (fun _=>True) b w bq LF (by omega) hD _ _ e he fN (fun _ _ _ _ _ _ _=>trivial) ?_ ?_) ?_
 .intro x st base m w' ar hm DJ _ dH dN eb al9 c9 t nh hk;refine K.mX (first:=[]) (cap:=[.pointer (some ⟨pm,0,none⟩),.pointer (some ⟨dv,0,none⟩)]) (by kernel_rfl)
   (ag9 x _ s base b pm dv al9 m st _ ar (h.ext ((hm.ext LF (by intro k hk e;omega)).trans nh)) (DJ.ext nh) ?_ (nh.obj (hm.obj (by omega) aez)) (nh.obj (hm.obj (by omega) k2))) fun v b1 ⟨h1,U⟩=>by subst h1;exact hk b1 U
  intro ag
  have:o.eV x.op=1:=by rw[ag];rfl
  omega
 .rintro al e3 gi l w' c9 t hm ⟨u,rfl,bx⟩ _ aS ad hk;exact K.JW (first:=[]) (cap:=[]) (by kernel_rfl) (ahj al u gi l w' ad) fun v b1 ⟨h1,U⟩=>by subst h1;exact hk b1 U
 rintro _ bT ⟨rfl,lD⟩;have aZ:Ext w bT:=lD.ext LF (by intro k hk e;omega);refine aP ?_;exact cA
end Go.Proofs.R
end
section
namespace o
open Go Go.RowKit bt
def Pr(v:Value):Option (Var×Int)->Prop
 | some q=>v = .tuple #[.agg q.1.enc.toArray,.int .i64 q.2,.bool true]
 | none => ∃(x:Var) (k:Int),v = .tuple #[.agg x.enc.toArray,.int .i64 k,.bool false]
end o
namespace Go.Proofs.R
open Go Go.RowKit bt
theorem Sn(a b:Int)(cs:List Value)(s:o.Scope)(w:World)(h:o.fE w cs s) :
  bu Tryz.prog F.da #[.int .i64 a,.int .i64 b,.agg cs.toArray] w fun v w'=>v = .tuple #[.int .i64 (o.kL a b s).1,.bool (o.kL a b s).2]/\Ext w w':=by
 obtain⟨a0,bP,dJ,c1,a2,c2,a3,bQ,a4,bX,rfl,ak,h1,U,ag,aJ,eM,ej,ev,ea,ew⟩:=h.form;refine bL E.da ?_;refine bG ?_;refine aa ?_;intro av b aC aB aq;refine aa ?_
 (repeat' (refine aP ?_;first | (refine K.cond (fun _=>?_) (fun _=>?_)<;>try (exfalso;omega)) | refine K.dp (fun _=>?_) (fun _=>?_)))<;>try refine aP ?_
 all_goals
  refine⟨?_,fL⟩;unfold o.kL
  (repeat' split)<;>first | rfl | (exfalso;omega)
theorem St(v:Value)(l:List o.Var)(n:Int)(cs:List Value)(s:o.Scope)(w:World)(aS:o.hi w v l)(h:o.fE w cs s) :
  bu Tryz.prog F.a3 #[v,.int .i64 n,.agg cs.toArray] w fun v w'=>o.Pr v (o.declared l n s)/\Ext w w':=by
 obtain⟨v0,v1,v2,v3,v4,rfl,_⟩:=h.ex;obtain⟨bm,cap,rfl,hlen⟩:=aS.form;refine bL E.a3 ?_;refine bG ?_;refine aa ?_;intro av bC cR aB aq;refine aa ?_;intro aU cp dR aA aQ;have he:=aB.trans aA;refine aa ?_;apply K.cond<;>intro g1
 .refine aa ?_;intro bb fT bA;refine aa ?_;rw[o.declared,o.hN (.inl g1)];exact⟨⟨(⟨⟨#[]⟩,0,0,0,0,0⟩:o.Var),0,rfl⟩,fT.ext he (by have:=aB.size;omega)⟩
 refine aa ?_;apply K.cond<;>intro g2
 .refine aa ?_;intro bb fT bA;refine aa ?_;rw[o.declared,o.hN (.inr (by omega))];exact⟨⟨(⟨⟨#[]⟩,0,0,0,0,0⟩:o.Var),0,rfl⟩,fT.ext he (by have:=aB.size;omega)⟩
 obtain⟨i,rfl⟩:=Int.eq_ofNat_of_zero_le (show 0<=n by omega);have ad:i<l.length:=by omega
 rw[o.declared,o.iY (by omega) (by omega)];simp only[Int.toNat_natCast];obtain⟨a,rfl⟩:=aS.addr (by omega);refine aa ?_;refine K.gN _ (fun w' e=>Sn _ _ _ s w' (h.ext (he.trans e))) ?_;refine aa ?_;intro bb ax;have aQ:=ax.obj aQ;refine aa ?_;intro bq eu bw;refine aa ?_;refine⟨?_,eu.ext (he.trans ax) (by have:=aB.size;omega)⟩;by_cases aC:(o.kL l[i].scalar l[i].over s).2=true
 .rw[if_pos aC,aC];rfl
 .rw[if_neg aC,Bool.eq_false_iff.2 aC];exact⟨_,_,rfl⟩
theorem abh(n:Int)(cs:List Value)(s:o.Scope)(w:World)(h:o.fE w cs s) :
  bu Tryz.prog F.cl #[.int .i64 n,.agg cs.toArray] w fun v w'=>v = .tuple #[.int .i64 ((o.channel n s).getD 0),.bool (o.channel n s).isSome]/\Ext w w':=by
 obtain⟨a0,bP,dJ,c1,a2,c2,a3,bQ,a4,bX,rfl,ak,h1,U,ag,aJ,eM,ej,ev,ea,ew⟩:=h.form;refine bL E.cl ?_;refine bG ?_;refine aa ?_;intro av bC cR aB aq;refine aa ?_;apply K.cond<;>intro g1
 .refine aa ?_;rw[o.channel,o.hN (.inl g1)];exact cA
 refine aa ?_;apply K.cond<;>intro g2
 .refine aa ?_;rw[o.channel,o.hN (.inr (by omega))];exact cA
 obtain⟨i,rfl⟩:=Int.eq_ofNat_of_zero_le (show 0<=n by omega);have ad:i<s.aL.length:=by omega
 rw[o.channel,o.iY (by omega) (by omega)];simp only[Int.toNat_natCast];obtain⟨a,rfl⟩:=U.addr (by omega);refine aa ?_;refine K.gN _ (fun w' e=>Sn _ _ _ s w' (h.ext (aB.trans e))) ?_;refine aa ?_;intro aU aA;refine aa ?_;refine⟨?_,fL⟩;by_cases aC:(o.kL s.aL[i].scalar 0 s).2=true
 .rw[if_pos aC,aC];rfl
 .rw[if_neg aC,Bool.eq_false_iff.2 aC];rw[o.alA (Bool.eq_false_iff.2 aC)];rfl
theorem JN(hD:Value)(e:List o.Node)(k:Int)(cs:List Value)(s:o.Scope)(w:World)(aE:o.gd w hD e)(h:o.fE w cs s) :
  bu Tryz.prog F.sC #[hD,.int .i64 k,.agg cs.toArray] w fun v w'=>v = .int .i64 (o.asked e k s)/\Ext w w':=by
 obtain⟨v0,v1,v2,v3,v4,rfl,_⟩:=h.ex;refine bL E.sC ?_;refine bG ?_;refine aa ?_;intro av bC cR aB aq;refine aa ?_;refine K.call (V7 hD e _ s av (aE.ext aB) (h.ext aB)) ?_;rintro _ aU ⟨rfl,aA⟩;refine aa ?_;rw[o.asked];apply K.cond<;>intro g1
 .rw[if_neg (by simpa using g1)];refine aa ?_;apply K.cond<;>intro g2
  .refine aa ?_;rw[if_neg (by simpa using g2)];exact cA
  refine aa ?_;rw[if_pos g2];exact cA
 refine aa ?_;rw[if_pos g1];exact cA
theorem YC(a:o.Act)(cx cE:Value)(w:World):bu Tryz.prog F.zN #[.agg (a.enc cx cE).toArray] w fun v w'=>v = .bool (o.gO a)/\Ext w w':=by
 refine bL E.zN ?_;refine bG ?_;refine aa ?_;intro av bC cR aB aq;refine aa ?_;rw[o.gO];apply K.cond<;>intro g1
 .refine aa ?_;refine⟨?_,fL⟩;congr 1;simp[g1]
 refine aa ?_;refine⟨?_,fL⟩;congr 1;simp[g1]
theorem ajH(a:o.Act)(cx cE:Value)(k:Int)(cs:List Value)(s:o.Scope)(w:World)(h:o.fE w cs s) :
  bu Tryz.prog F.xU #[.agg (a.enc cx cE).toArray,.int .i64 k,.agg cs.toArray] w fun v w'=>v = .int .i64 (o.Fb a k s)/\Ext w w':=by
 obtain⟨v0,v1,v2,v3,v4,rfl,ak,h1,U,ag,aJ,_⟩:=h.ex;refine bL E.xU ?_;refine bG ?_;refine aa ?_;intro av bC cR aB aq;refine aa ?_;intro aU cp dR aA aQ;have he:=aB.trans aA;refine aa ?_;refine K.call (St v4 s.locals a.loc _ s aU (aJ.ext he) (h.ext he)) ?_;rintro q bb ⟨aD,ax⟩;rw[o.Fb];cases bx:o.declared s.locals a.loc s with
 | none =>
  rw[bx] at aD;obtain⟨x,k',rfl⟩:=aD;refine aa ?_;intro bq cN fN aM bw;refine aa ?_;exact cA
 | some q =>
  obtain⟨x,k'⟩:=q;rw[bx] at aD;subst aD;refine aa ?_;intro bq cN fN aM bw;refine aa ?_;apply K.cond<;>intro g1
  .refine aa ?_;apply K.cond<;>intro g2
   .refine aa ?_;simp only[g1,g2,ne_eq,not_true_eq_false,or_self,if_false];exact cA
   refine aa ?_;simp only[g2,ne_eq,not_false_eq_true,or_true,if_true];exact cA
  refine aa ?_;simp only[g1,ne_eq,not_false_eq_true,true_or,if_true];exact cA
end Go.Proofs.R
end
section
namespace o
open Go Go.RowKit bt
theorem JJ{s:Scope}{l:List Act}{k:Nat}{t:Bool}(h:k<l.length) :
  kd s (l.drop k) k t=if gO l[k]&&t then (2+(k:Int),7) else if jQ l[k] s≠0 then (2+(k:Int),jQ l[k] s) else kd s (l.drop (k+1)) (k+1) (t||gO l[k]):=by
 rw[List.drop_eq_getElem_cons h];rfl
end o
namespace Go.Proofs.R
open Go Go.RowKit bt
theorem JH(k:Int)(a:o.Act)(cx cE:Value)(cs:List Value)(s:o.Scope)(w:World)(bC cp:Nat)(cR:w.heap[bC]? = some (.cells (a.enc cx cE).toArray T.q))(dR:w.heap[cp]? = some (.cells cs.toArray T.e))
  (aT:o.gd w cE a.value)(h:o.fE w cs s) :
  bu Tryz.prog F.ub #[.int .i64 k,.pointer (some ⟨bC,0,none⟩),.pointer (some ⟨cp,0,none⟩)] w fun v w'=>v = .int .i64 (o.asked a.value k s)/\Ext w w':=by
 obtain⟨v0,v1,v2,v3,v4,rfl,_⟩:=h.ex;refine bL E.ub ?_;refine bG ?_;refine aa ?_;refine K.call (JN cE a.value k _ s w aT h) ?_;rintro _ aU ⟨rfl,aA⟩;refine aa ?_;exact cA
theorem ZS(a:o.Act)(cx cE:Value)(cs:List Value)(s:o.Scope)(w:World)(ad:o.gd w cx a.index)(aT:o.gd w cE a.value)(h:o.fE w cs s) :
  bu Tryz.prog F.bo #[.agg (a.enc cx cE).toArray,.agg cs.toArray] w fun v w'=>v = .int .i64 (o.jQ a s)/\Ext w w':=by
 obtain⟨v0,v1,v2,v3,v4,rfl,ak,h1,U,ag,aJ,eM⟩:=h.ex;refine bL E.bo ?_;refine bG ?_;refine aa ?_;intro av bC cR aB aq;refine aa ?_;intro aU cp dR aA aQ;have he:=aB.trans aA;have aq:=aA.obj aq;by_cases q:a.kind=1\/a.kind=2\/a.kind=3
 .rw[o.jQ,if_pos q];generalize dg:(if a.kind=3 then s.locals else s.vars)=L;have T8:∀mc n,mc=(if a.kind=3 then v4 else v1)->bu Tryz.prog F.a3 #[mc,.int .i64 n,.agg #[v0,v1,v2,v3,v4,.int .i64 s.self]] aU fun v w'=>o.Pr v (o.declared L n s)/\Ext aU w':=by
   rintro mc n rfl;refine St _ L n _ s aU ?_ (h.ext he);rw[<-dg];split
   .exact aJ.ext he
   .exact h1.ext he
  by_cases qh:a.kind=2
  .refine aa ?_;refine K.call (T8 _ _ (by simp[qh])) ?_;rintro u bb ⟨aD,ax⟩;have aq:=ax.obj aq;have aQ:=ax.obj aQ;have uo:=he.trans ax;cases bx:o.declared L a.to s with
   | none =>
    rw[bx] at aD;obtain⟨x,k',rfl⟩:=aD;refine aa ?_;intro bq cN fN aM bw;refine aa ?_;exact cA
   | some u =>
    obtain⟨x,k'⟩:=u;rw[bx] at aD;subst aD;have L5:=o.abP bx;simp only at L5;refine aa ?_;intro bq cN fN aM bw;have aq:=aM.obj aq;have aQ:=aM.obj aQ;have pa:=uo.trans aM;refine aa ?_;refine K.WN (by kernel_rfl) ?_;refine aa ?_;by_cases dN:x.over=0
    .refine K.qB (by simp[qh,dN]) ?_;refine aa ?_;exact⟨by simp[qh,dN],fL⟩
    refine K.rL (by simp[qh,dN]) ?_;refine aa ?_;refine K.call (JN cx a.index _ _ s bq (ad.ext pa) (h.ext pa)) ?_;rintro _ bT ⟨rfl,aZ⟩;have aq:=aZ.obj aq;have aQ:=aZ.obj aQ;have Hw:=pa.trans aZ;refine aa ?_;refine K.cond (fun eb=>?_) (fun eb=>?_)
    .refine aa ?_;refine K.mX (first:=[]) (cap:=[_,_]) (by kernel_rfl) (JH k' a cx cE _ s bT bC cp aq aQ (aT.ext Hw) (h.ext Hw)) ?_;rintro _ bV ⟨rfl,a8⟩;refine aa ?_;exact⟨by simp[qh,dN,eb],fL⟩
    .refine aa ?_;exact⟨by simp[qh,dN,eb],fL⟩
  have si:a.kind=1\/a.kind=3:=by omega
  clear q;rcases si with q | q
  all_goals
   refine aa ?_;refine K.call (T8 _ _ (by simp[q])) ?_;rintro u bb ⟨aD,ax⟩;have aq:=ax.obj aq;have aQ:=ax.obj aQ;have uo:=he.trans ax;cases bx:o.declared L a.to s with
   | none =>
    rw[bx] at aD;obtain⟨x,k',rfl⟩:=aD;refine aa ?_;intro bq cN fN aM bw;refine aa ?_;exact cA
   | some u =>
    obtain⟨x,k'⟩:=u;rw[bx] at aD;subst aD;refine aa ?_;intro bq cN fN aM bw;have aq:=aM.obj aq;have aQ:=aM.obj aQ;have pa:=uo.trans aM;refine aa ?_;refine K.WN (by kernel_rfl) ?_;refine aa ?_;by_cases dN:x.over=0
    .refine K.rL (by simp[q,dN]) ?_;refine aa ?_;refine K.mX (first:=[]) (cap:=[_,_]) (by kernel_rfl) (JH k' a cx cE _ s bq bC cp aq aQ (aT.ext pa) (h.ext pa)) ?_;rintro _ bV ⟨rfl,a8⟩;refine aa ?_;exact⟨by simp[q,dN],fL⟩
    .refine K.qB (by simp[q,dN]) ?_;refine aa ?_;exact⟨by simp[q,dN],fL⟩
 by_cases hd:a.kind=4\/a.kind=5
 .rw[o.jQ,if_neg q,if_pos hd];have Nw:a.kind≠3:=by omega
  have Be:a.kind≠1:=by omega
  have Nx:a.kind≠2:=by omega
  have step:∀(w':World),Ext aU w'->bu Tryz.prog F.cl #[.int .i64 a.to,.agg #[v0,v1,v2,v3,v4,.int .i64 s.self]] w' fun v b1=>v = .tuple #[.int .i64 ((o.channel a.to s).getD 0),.bool (o.channel a.to s).isSome]/\Ext w' b1 :=
   fun w' e=>abh a.to _ s w' (h.ext (he.trans e))
  rcases hd with hd | hd
  .refine aa ?_;refine K.call (step aU (Ext.refl _)) ?_;rintro _ bb ⟨rfl,ax⟩;have aq:=ax.obj aq;have aQ:=ax.obj aQ;have uo:=he.trans ax;cases bx:o.channel a.to s with
   | none =>
    simp only[Option.isSome_none,Option.getD_none];refine aa ?_;exact cA
   | some k =>
    simp only[Option.isSome_some,Option.getD_some];refine aa ?_;refine K.mX (first:=[]) (cap:=[_,_]) (by kernel_rfl) (JH k a cx cE _ s bb bC cp aq aQ (aT.ext uo) (h.ext uo)) ?_;rintro _ bV ⟨rfl,a8⟩;refine aa ?_;exact⟨by simp[hd],fL⟩
  .refine aa ?_;refine K.call (step aU (Ext.refl _)) ?_;rintro _ bb ⟨rfl,ax⟩;have aq:=ax.obj aq;have aQ:=ax.obj aQ;have uo:=he.trans ax;cases bx:o.channel a.to s with
   | none =>
    simp only[Option.isSome_none,Option.getD_none];refine aa ?_;exact cA
   | some k =>
    simp only[Option.isSome_some,Option.getD_some];refine aa ?_;refine K.call (ajH a cx cE k _ s bb (h.ext uo)) ?_;rintro _ bV ⟨rfl,a8⟩;refine aa ?_;exact⟨by simp[hd],fL⟩
 rw[o.jQ,if_neg q,if_neg hd];have Nw:a.kind≠3:=by omega
 have Be:a.kind≠1:=by omega
 have Nx:a.kind≠2:=by omega
 have Xi:a.kind≠4:=by omega
 have apj:a.kind≠5:=by omega
 refine aa ?_;exact cA
end Go.Proofs.R
end
section
namespace o
open Go
theorem ae0{c:dI}{n:Int}(h:head c n=0):isName c.name=true/\0<=c.from_/\c.from_<n/\0<=c.to/\c.to<n/\c.b6.length<=6:=by
 unfold head at h;by_cases h1:isName c.name=false
 .rw[if_pos h1] at h;cases h
 rw[if_neg h1] at h;by_cases U:c.from_<0\/n<=c.from_\/c.to<0\/n<=c.to
 .rw[if_pos U] at h;cases h
 rw[if_neg U] at h;by_cases ag:c.b6.length > 6
 .rw[if_pos ag] at h;cases h
 exact⟨by simpa using h1,by omega,by omega,by omega,by omega,by omega⟩
end o
end
section
namespace o
open Go Go.RowKit bt
theorem abG{l:List Act}{k:Nat}(h:k<l.length):comm (l.drop k)=if gO l[k] then (l[k].kind,l[k].to) else comm (l.drop (k+1)):=by
 rw[List.drop_eq_getElem_cons h];rfl
end o
namespace Go.Proofs.R
open Go Go.RowKit bt
theorem Ux(n:Int)(p:o.dy)(oG qf:Value)(w:World)(b:Nat)(aC:w.heap[b]? = some (.cells (p.enc oG qf).toArray T.h)) :
  bu Tryz.prog F.iE #[.int .i64 n,.pointer (some ⟨b,0,none⟩)] w fun v w'=>v = .bool (decide (n<0\/p.cw<=n))/\w'=w:=by
 refine bL E.iE ?_;refine bG ?_;refine aa ?_;apply K.cond<;>intro g1
 .refine aa ?_;exact⟨by simp[g1],bk⟩
 refine aa ?_;exact⟨by simp[g1],bk⟩
theorem ae1(c:o.dI)(fK ed:Value)(p:o.dy)(oG qf:Value)(w:World)(ba:ht w)(aE:o.hR c.name)(bj:o.nz w ed c.b6) :
  bu Tryz.prog F.CM #[.agg (c.enc fK ed).toArray,.agg (p.enc oG qf).toArray] w fun v w'=>v = .int .i64 (o.head c p.cw)/\Ext w w':=by
 obtain⟨bm,cap,rfl,hlen⟩:=bj.form;refine bL E.CM ?_;refine bG ?_;refine aa ?_;intro av bC cR aB aq;refine aa ?_;intro aU cp dR aA aQ;have he:=aB.trans aA;have aq:=aA.obj aq;refine aa ?_;refine K.call (Io c.name aU (ba.ext he) aE) ?_;rintro _ bb ⟨rfl,ax⟩;have aq:=ax.obj aq;have aQ:=ax.obj aQ;have uo:=he.trans ax;rw[o.head];refine aa ?_;refine K.dp (fun g1=>?_) (fun g1=>?_);rotate_left
 .refine aa ?_;exact⟨by simp[g1],fL⟩
 refine aa ?_;refine K.mX (first:=[]) (cap:=[_]) (by kernel_rfl) (Ux c.from_ p oG qf bb cp aQ) ?_;rintro _ _ ⟨rfl,rfl⟩;refine aa ?_;apply K.cond<;>intro g2
 .refine aa ?_;refine⟨?_,fL⟩;rw[if_neg (by simp[g1]),if_pos (by omega)]
 refine aa ?_;refine K.mX (first:=[]) (cap:=[_]) (by kernel_rfl) (Ux c.to p oG qf _ cp aQ) ?_;rintro _ _ ⟨rfl,rfl⟩;refine aa ?_;apply K.cond<;>intro g3
 .refine aa ?_;refine⟨?_,fL⟩;rw[if_neg (by simp[g1]),if_pos (by omega)]
 refine aa ?_;apply K.cond<;>intro g4
 .refine aa ?_;refine⟨?_,fL⟩;rw[if_neg (by simp[g1]),if_neg (by omega),if_pos (by omega)]
 .refine aa ?_;refine⟨?_,fL⟩;rw[if_neg (by simp[g1]),if_neg (by omega),if_neg (by omega)]
theorem abt(c:o.dI)(fK ed:Value)(p:o.dy)(oG qf:Value)(cs:List Value)(s:o.Scope)(w:World)(ba:ht w)(aE:o.hR c.name)(a1:o.gd w fK c.guard)(bj:o.nz w ed c.b6)
  (aT:o.hi w oG p.vars)(aw:o.oP w qf p.cH)(h:o.fE w cs s) :
  bu Tryz.prog F.CB #[.agg (c.enc fK ed).toArray,.agg (p.enc oG qf).toArray,.agg cs.toArray] w fun v w' =>
   v = .tuple #[.int .i64 (o.iC c p.cw s).1,.int .i64 (o.iC c p.cw s).2]/\Ext w w':=by
 obtain⟨a0,bP,dJ,c1,a2,c2,a3,bQ,a4,bX,rfl,_⟩:=h.form;obtain⟨bm,cap,rfl,hlen⟩:=bj.form;obtain⟨iL,aaU,rfl,aft⟩:=a1.form;obtain⟨_,_,rfl,_⟩:=aT.form;obtain⟨_,_,rfl,_⟩:=aw.form;refine bL E.CB ?_;refine bG ?_;refine aa ?_;intro av bC cR aB aq;refine aa ?_;intro aU cp dR aA aQ;refine aa ?_;intro bb b4 fp ax bA;have he:=(aB.trans aA).trans ax;have aq:=(aA.trans ax).obj aq;have aQ:=ax.obj aQ;refine aa ?_;refine K.call (ae1 c _ _ p _ _ bb (ba.ext he) aE (bj.ext he)) ?_;rintro _ bq ⟨rfl,aM⟩;have aq:=aM.obj aq;have bA:=aM.obj bA;have pa:=he.trans aM;rw[o.iC];refine aa ?_;apply K.cond<;>intro g1;rotate_left
 .refine aa ?_;exact⟨by simp[g1],fL⟩
 rw[if_neg (by simpa using g1)];have bS:=(o.ae0 g1).2.2.2.2.2;refine ee ?_;refine K.hl [3,4,5] (fun _=>[]) (fun(_:Unit) w'=>Ext bq w'/\¬(c.guard.length > 0/\o.asked c.guard 1 s≠0)) ?_ ?_
 .refine aa ?_;apply K.cond<;>intro g2
  .refine aa ?_;refine K.call (JN _ c.guard 1 _ s bq (a1.ext pa) (h.ext pa)) ?_;rintro _ bT ⟨rfl,aZ⟩;refine aa ?_;apply K.cond<;>intro g3
   .refine aa ?_;exact⟨(),trivial,fL,fun dt=>dt.2 g3⟩
   .refine aa ?_;rw[if_pos ⟨by omega,g3⟩];exact cA
  .refine aa ?_;exact⟨(),trivial,fL,fun dt=>g2 (by omega)⟩
 rintro _ S bT ⟨aZ,wm⟩;have aq:=aZ.obj aq;have bA:=aZ.obj bA;have Hw:=pa.trans aZ;rw[if_neg wm];refine aa ?_;refine K.dk 34 c.b6.length [3,4,5,32,33] (fun b=>[(10,.bool b)]) false (fun k b w'=>Ext bT w'/\o.kd s c.b6 0 false=o.kd s (c.b6.drop k) k b) bz bz ⟨Ext.refl _,by simp⟩ ?_;rintro k b S bV hk ⟨a8,bB⟩;have uq:=Hw.trans a8;refine aa ?_;apply K.cond<;>intro g1
 .have bp:k<c.b6.length:=by omega
  obtain⟨a,rfl⟩:=bj.addr (by omega);obtain⟨cx,cE,h0,fB,qZ⟩:=bj.at k bp;obtain⟨_,_,rfl,_⟩:=fB.form;obtain⟨_,_,rfl,_⟩:=qZ.form;rw[o.JJ bp] at bB;refine aa ?_;intro cc l1 jX bM cU;refine ee ?_;intro di iJ cL;have uu:=iJ.ext bM jX;have Hy:=uq.trans uu;have bA:=(a8.trans uu).obj bA;refine ee ?_;refine K.hl [3,5,10,11,12,32,33,34] (fun _=>[]) (fun(_:Unit) w'=>Ext di w'/\¬(o.gO c.b6[k]&&b)=true) ?_ ?_
  .refine aa ?_;refine K.call (YC c.b6[k] _ _ di) ?_;rintro _ dX ⟨rfl,cr⟩;refine aa ?_;refine K.dp (fun g2=>?_) (fun g2=>?_)
   .refine aa ?_;refine K.dp (fun g3=>?_) (fun g3=>?_)
    .refine aa ?_;rw[bB,if_pos (by simp[g2,g3])];exact cA
    .refine aa ?_;exact⟨(),trivial,fL,by simp[g3]⟩
   .refine aa ?_;exact⟨(),trivial,fL,by simp[g2]⟩
  rintro _ S dX ⟨cr,g2⟩;rw[if_neg g2] at bB;have cL:=cr.obj cL;have bA:=cr.obj bA;refine ee ?_;refine K.hl [3,5,11,12,32,33,34] (fun u=>[(10,.bool u)]) (fun u w'=>Ext dX w'/\u=(b||o.gO c.b6[k])) ?_ ?_
  .refine aa ?_;refine K.dp (fun g3=>?_) (fun g3=>?_)
   .refine aa ?_;exact⟨true,bz,fL,by simp[g3]⟩
   .refine aa ?_;refine K.call (YC c.b6[k] _ _ dX) ?_;rintro _ fw ⟨rfl,dc⟩;refine aa ?_;exact⟨o.gO c.b6[k],bz,fL,by simp[g3]⟩
  rintro _ S fw ⟨dc,rfl⟩;have cL:=dc.obj cL;have bA:=dc.obj bA;have LA:=(Hy.trans cr).trans dc;have anY:=((a8.trans uu).trans cr).trans dc;refine aa ?_;refine K.call (ZS c.b6[k] _ _ _ s fw (fB.ext LA) (qZ.ext LA) (h.ext LA)) ?_;rintro _ gw ⟨rfl,fY⟩;refine aa ?_;apply K.cond<;>intro g3
  .refine aa ?_;rw[if_neg (by simpa using g3)] at bB;exact⟨bp,bk,_,bz,fL,bB⟩
  .refine aa ?_;rw[bB,if_pos g3];exact cA
 .refine aa ?_;rw[bB,List.drop_eq_nil_of_le (by omega)];exact cA
end Go.Proofs.R
end
section
namespace o
theorem Wz{s:Scope}{l:List Var}{k:Nat}(h:k<l.length):pt s (l.drop k) k=if l[k].over≠0 then ((k:Int),9) else if s.vars.any (fun x=>decide (x.name=l[k].name)) then ((k:Int),7) else pt s (l.drop (k+1)) (k+1):=by
 rw[List.drop_eq_getElem_cons h];rfl
theorem Sc{own:Scope}{cw:Int}{all l:List dI}{k:Nat}(h:k<l.length):kV own cw all (l.drop k) k=if (iC l[k] cw own).2≠0 then (2+(k:Int),(iC l[k] cw own).1,(iC l[k] cw own).2)
  else if (all.take k).any (fun x=>decide (x.name=l[k].name)) then (2+(k:Int),0,7) else kV own cw all (l.drop (k+1)) (k+1):=by
 rw[List.drop_eq_getElem_cons h];rfl
end o
namespace Go.Proofs.R
open Go Go.RowKit bt
theorem amc(p:o.dy)(cn cB:Option Addr)(nU bQ bX:Nat)(cs:List Value)(s:o.Scope)(w:World)(ba:ht w)(aE:o.hR p.name)(h:o.fE w cs s) :
  bu Tryz.prog F.Cz #[.agg (p.enc (.slice cn nU bQ) (.slice cB p.cH.length bX)).toArray,.agg cs.toArray] w fun v w'=>v = .int .i64 (o.whole p s)/\Ext w w':=by
 obtain⟨a0,bP,dJ,c1,a2,c2,a3,d3,a4,d4,rfl,ak,h1,U,ag,aJ,eM,ej,ev,ea,ew⟩:=h.form;refine bL E.Cz ?_;refine bG ?_;refine aa ?_;intro av bC cR aB aq;refine aa ?_;intro aU cp dR aA aQ;have c6:∀{w'},Ext aU w'->Ext w w':=fun e=>(aB.trans aA).trans e;have aq:=aA.obj aq;refine aa ?_;refine K.call (Io p.name aU (ba.ext (c6 (Ext.refl _))) aE) ?_;rintro _ bb ⟨rfl,ax⟩;have aq:=ax.obj aq;have aQ:=ax.obj aQ;rw[o.whole];refine aa ?_;refine K.dp (fun g1=>?_) (fun g1=>?_);rotate_left
 .refine aa ?_;exact⟨by rw[if_pos g1],c6 ax⟩
 rw[if_neg (by simp[g1])];refine aa ?_;apply K.cond<;>intro g2
 .refine aa ?_;exact⟨by rw[if_pos (.inl g2)],c6 ax⟩
 refine aa ?_;apply K.cond<;>intro g3
 .refine aa ?_;exact⟨by rw[if_pos (.inr (by omega))],c6 ax⟩
 rw[if_neg (by omega)];refine aa ?_;apply K.cond<;>intro g4
 .refine aa ?_;exact⟨by rw[if_pos (.inl g4)],c6 ax⟩
 refine aa ?_;apply K.cond<;>intro g5
 .refine aa ?_;exact⟨by rw[if_pos (.inr (by omega))],c6 ax⟩
 rw[if_neg (by omega)];refine aa ?_;apply K.cond<;>intro g6
 .refine aa ?_;exact⟨by rw[if_pos (by omega)],c6 ax⟩
 refine aa ?_;exact⟨by rw[if_neg (by omega)],c6 ax⟩
theorem ahO(x v:o.Var)(b:Nat)(w:World)(aw:w.heap[b]? = some (.cells v.enc.toArray T.i)) :
  bu Tryz.prog F.zM #[.agg x.enc.toArray,.pointer (some ⟨b,0,none⟩)] w fun u w'=>u = .bool (decide (x.name=v.name))/\Ext w w':=by
 refine bL E.zM ?_;refine bG ?_;refine aa ?_;intro av bC cR aB aq;refine aa ?_;exact cA
theorem abr(x c:o.dI)(b9 ck cn cB:Option Addr)(j4 jm nU sc c1 c2 bQ bX:Nat)(b:Nat)(w:World)(aw:w.heap[b]? = some (.cells (c.enc (.slice cn nU bQ) (.slice cB sc bX)).toArray T.n)) :
  bu Tryz.prog F.gf #[.agg (x.enc (.slice b9 j4 c1) (.slice ck jm c2)).toArray,.pointer (some ⟨b,0,none⟩)] w fun u w'=>u = .bool (decide (x.name=c.name))/\Ext w w':=by
 refine bL E.gf ?_;refine bG ?_;refine aa ?_;intro av bC cR aB aq;refine aa ?_;exact cA
theorem ahP(p:o.dy)(cn cB:Option Addr)(bQ sc bX:Nat)(cs:List Value)(s:o.Scope)(w:World)(ba:ht w)(aT:o.hi w (.slice cn p.vars.length bQ) p.vars)(h:o.fE w cs s) :
  bu Tryz.prog F.CA #[.agg (p.enc (.slice cn p.vars.length bQ) (.slice cB sc bX)).toArray,.agg cs.toArray] w fun v w'=>v = .tuple #[.int .i64 (o.kI p s).1,.int .i64 (o.kI p s).2]/\Ext w w':=by
 obtain⟨a0,bP,dJ,c1,a2,c2,a3,d3,a4,d4,rfl,ak,h1,U,ag,aJ,eM,ej,ev,ea,ew⟩:=h.form;have gi:p.vars.length<=9223372036854775807:=by have:=(bE.len aT).2;unfold maxLen at this;omega
 refine bL E.CA ?_;refine bG ?_;refine aa ?_;intro av bC cR aB aq;refine aa ?_;intro aU cp dR aA aQ;have c6:∀{w'},Ext aU w'->Ext w w':=fun e=>(aB.trans aA).trans e;have aq:=aA.obj aq;refine aa ?_;refine K.call (YS _ _ p.vars s.scalars 4 aU (ba.ext (c6 (Ext.refl _))) (aT.ext (c6 (Ext.refl _))) (ak.ext (c6 (Ext.refl _)))) ?_;rintro _ bb ⟨rfl,ax⟩;have aq:=ax.obj aq;have aQ:=ax.obj aQ;rw[o.kI];refine aa ?_;apply K.cond<;>intro g1;rotate_left
 .refine aa ?_;exact⟨by rw[if_pos g1],c6 ax⟩
 rw[if_neg (by simpa using g1)];have fj:∀{w'},Ext bb w'->Ext w w':=fun e=>c6 (ax.trans e);refine aa ?_;refine K.dk 25 p.vars.length [3,23,24] (fun _=>[]) () (fun k _ w'=>Ext bb w'/\o.pt s p.vars 0=o.pt s (p.vars.drop k) k) bz bz ⟨Ext.refl _,by simp⟩ ?_;rintro k _ S bq hk ⟨aM,bB⟩;refine aa ?_;apply K.cond<;>intro g2
 .have bp:k<p.vars.length:=by omega
  obtain⟨a,rfl⟩:=aT.addr (by omega);replace aT:=aT.ext (fj (Ext.refl _));rw[o.Wz bp] at bB;refine aa ?_;intro BC hv lB mz p2;refine aa ?_;intro bT e0 cC;have aZ:=e0.ext mz lB;refine aa ?_;apply K.cond<;>intro g3;rotate_left
  .refine aa ?_;exact⟨by rw[bB,if_pos g3],fj (aM.trans aZ)⟩
  rw[if_neg (by simpa using g3)] at bB;refine aa ?_;refine K.call (Sl mC E.GY E.GZ _ s.vars bT (h1.ext (fj (aM.trans aZ))) F.zM (by kernel_rfl) [] [_] (fun x=>decide (x.name=p.vars[k].name)) ?_) ?_
  .rintro i ad iD w' e ⟨rfl,_⟩;exact ahO _ _ hv w' (e.obj cC)
  rintro _ bV ⟨rfl,a8⟩;refine aa ?_;refine K.dp (fun g4=>?_) (fun g4=>?_)
  .refine aa ?_;exact⟨by rw[bB,if_pos g4],fj ((aM.trans aZ).trans a8)⟩
  .refine aa ?_;exact⟨bp,bk,(),trivial,(aM.trans aZ).trans a8,by rw[bB,if_neg (by simp[g4])]⟩
 .refine aa ?_;exact⟨by rw[bB,List.drop_eq_nil_of_le (by omega)];rfl,fj aM⟩
theorem ai0(p:o.dy)(E0 cs:List Value)(s:o.Scope)(w:World)(ba:ht w)(aN:o.vC w E0 p)(h:o.fE w cs s)(a1:s.cQ)(nQ:p.cQ) :
  bu Tryz.prog F.Cw #[.agg E0.toArray,.agg cs.toArray] w fun v w'=>v = .tuple #[.int .i64 (o.ho p s).1,.int .i64 (o.ho p s).2.1,.int .i64 (o.ho p s).2.2]/\Ext w w':=by
 obtain⟨a0,bP,dJ,c1,a2,c2,a3,d3,a4,d4,rfl,ak,h1,U,ag,aJ,eM,ej,ev,ea,ew⟩:=h.form;obtain⟨aE,oG,qf,rfl,aT,ox⟩:=aN;obtain⟨cn,bQ,rfl,gi⟩:=aT.form;obtain⟨cB,bX,rfl,lc⟩:=ox.form;have nM:p.cH.length<=140737488351232:=by have:=nQ.cH;unfold o.dK at this;omega
 refine bL E.Cw ?_;refine bG ?_;refine aa ?_;intro av bC cR aB aq;refine aa ?_;intro aU cp dR aA aQ;have c6:∀{w'},Ext aU w'->Ext w w':=fun e=>(aB.trans aA).trans e;replace aq:=aA.obj aq;refine aa ?_;refine K.call (amc p _ _ _ _ _ _ s aU (ba.ext (c6 (Ext.refl _))) aE (h.ext (c6 (Ext.refl _)))) ?_;rintro _ bb ⟨rfl,ax⟩;replace aq:=ax.obj aq;replace aQ:=ax.obj aQ;have fj:∀{w'},Ext bb w'->Ext w w':=fun e=>c6 (ax.trans e);rw[o.ho];refine aa ?_;apply K.cond<;>intro g1;rotate_left
 .refine aa ?_;exact⟨by rw[if_pos g1],fj (Ext.refl _)⟩
 rw[if_neg (by simpa using g1)];refine aa ?_;refine K.call (ahP p _ _ _ _ _ _ s bb (ba.ext (fj (Ext.refl _))) (aT.ext (fj (Ext.refl _))) (h.ext (fj (Ext.refl _)))) ?_;rintro _ bq ⟨rfl,aM⟩;replace aq:=aM.obj aq;replace aQ:=aM.obj aQ;have en:∀{w'},Ext bq w'->Ext w w':=fun e=>fj (aM.trans e);refine aa ?_;apply K.cond<;>intro g2;rotate_left
 .refine aa ?_;exact⟨by rw[if_pos g2],en (Ext.refl _)⟩
 rw[if_neg (by simpa using g2)];refine aa ?_;refine K.call (VF p _ _ _ _ _ _ _ _ _ _ _ _ _ _ _ _ _ _ _ _ _ _ bq) ?_;rintro _ bT ⟨rfl,aZ⟩;replace aq:=aZ.obj aq;have hS:∀{w'},Ext bT w'->Ext w w':=fun e=>en (aZ.trans e);refine aa ?_;intro bV zA Aa a8 ct;replace aq:=a8.obj aq;have lg:∀{w'},Ext bV w'->Ext w w':=fun e=>hS (a8.trans e);have eU:∀w',Ext w w'->o.fE w' [.slice a0 s.scalars.length bP,.slice dJ s.vars.length c1,.slice a2 s.aL.length c2,.slice a3 s.procs.length d3,.slice cn p.vars.length bQ,.int .i64 p.over] (o.inner p s):=fun w' e =>
  ⟨(a1.inner nQ).ql.1,_,_,_,_,_,rfl,ak.ext e,h1.ext e,U.ext e,ag.ext e,aT.ext e,(a1.inner nQ).ql.2⟩
 refine aa ?_;refine K.dk 37 p.cH.length [2,10,35,36] (fun _=>[]) () (fun k _ w'=>Ext bV w'/\o.kV (o.inner p s) p.cw p.cH p.cH 0=o.kV (o.inner p s) p.cw p.cH (p.cH.drop k) k) bz bz ⟨Ext.refl _,by simp⟩ ?_;rintro k _ S cc hk ⟨bM,bB⟩;replace aq:=bM.obj aq;replace ct:=bM.obj ct;refine aa ?_;apply K.cond<;>intro g3
 .have bp:k<p.cH.length:=by omega
  obtain⟨a,rfl⟩:=ox.addr (by omega);obtain⟨ay,fK,ed,gx,wC,uI⟩:=ox.at k bp;obtain⟨iL,je,rfl,ahG⟩:=wC.form;obtain⟨bm,gf,rfl,oC⟩:=uI.form;rw[o.Sc bp] at bB;replace gx:=gx.ext (lg (Ext.refl _));refine aa ?_;intro BC Cb sR mz p2;refine aa ?_;intro di iJ cL;have bY:=iJ.ext mz sR;replace aq:=bY.obj aq;replace ct:=bY.obj ct;have kP:∀{w'},Ext di w'->Ext w w':=fun e=>lg ((bM.trans bY).trans e);clear p2 mz;refine aa ?_;refine K.call (abt p.cH[k] _ _ p _ _ _ (o.inner p s) di (ba.ext (kP (Ext.refl _))) ay (wC.ext (kP (Ext.refl _))) (uI.ext (kP (Ext.refl _))) (aT.ext (kP (Ext.refl _))) (ox.ext (kP (Ext.refl _))) (eU _ (kP (Ext.refl _)))) ?_;rintro _ dX ⟨rfl,cr⟩;replace aq:=cr.obj aq;replace cL:=cr.obj cL;have jO:∀{w'},Ext dX w'->Ext w w':=fun e=>kP (cr.trans e);refine aa ?_;apply K.cond<;>intro g4;rotate_left
  .refine aa ?_;exact⟨by rw[bB,if_pos g4],jO (Ext.refl _)⟩
  rw[if_neg (by simpa using g4)] at bB;have ij:=(bE.len ox).2.1;refine aa ?_;refine K.tt (k:=.i64) k (by rfl) (by omega) ?_;refine aa ?_;refine K.call (Sl mC E.GX E.fn _ (p.cH.take k) dX ((ox.head k (by omega)).ext o.xq.ext (jO (Ext.refl _))) F.gf (by kernel_rfl) [] [_] (fun x=>decide (x.name=p.cH[k].name)) ?_) ?_
  .rintro i ad iD w' e ⟨_,apT,nx,rfl,agz,Mx⟩;obtain⟨_,_,rfl,_⟩:=agz.form;obtain⟨_,_,rfl,_⟩:=Mx.form;exact abr _ _ _ _ _ _ _ _ _ _ _ _ _ _ Cb w' (e.obj cL)
  rintro _ fw ⟨rfl,dc⟩;refine aa ?_;refine K.dp (fun g5=>?_) (fun g5=>?_)
  .refine aa ?_;exact⟨by rw[bB,if_pos g5],jO dc⟩
  .refine aa ?_;exact⟨bp,bk,(),trivial,((bM.trans bY).trans cr).trans dc,by rw[bB,if_neg (by simp[g5])]⟩
 .refine aa ?_;exact⟨by rw[bB,List.drop_eq_nil_of_le (by omega)];rfl,lg bM⟩
end Go.Proofs.R
end
section
namespace bt
open Go Go.RowKit
theorem bE.Cg{α:Type}{R:World->Addr->α->Prop}{C:World->List Value->α->Prop}{sz:Nat}[Rel R C sz]{w:World}{b n:Nat}{e:TypeId}{cells:List Value}{xs:List α}(eY:List (oQ sz))(aC:w.heap[b]? = some (.cells cells.toArray e))(aeL:cells=eY.flatMap sJ)
  (aS:eY.length=xs.length)(aE:n=xs.length)(hm:xs.length<=maxLen)(aw:∀i (h1:i<eY.length) (U:i<xs.length),C w eY[i].1 xs[i]):bE sz R w (.slice (some ⟨b,0,none⟩) n n) xs:=by
 subst aeL;exact bE.Nb aS (bE.aX (enc:=sJ) vY aC (by omega) (by omega) fun _ _ _ h=>h) aw
end bt
namespace o
open Go
theorem lI{n:Int}(h : -1000<=n/\n<=1000):eG n:=by unfold eG;omega
theorem Bx(a b:Int)(s:Scope):(kL a b s).2=((gU a s).2&&(gU b s).2)/\((kL a b s).2=true->(kL a b s).1=(if a=0 then 0 else 1+a)):=by
 unfold kL gU;constructor
 ·(repeat' split)<;>first | rfl | (exfalso;omega)
 .intro h
  (repeat' split)<;>first | rfl | (exfalso;omega) | simp_all
theorem Ss{l:List Var}{n:Int}{s:Scope}(h:(fQ l n s).2.2=false):declared l n s=none:=by
 unfold declared;unfold fQ at h;cases aE:nth l n with
 | none=>rfl
 | some v =>
  rw[aE] at h;simp only at h ⊢;rw[if_neg];rw[(Bx _ _ _).1,h];simp
theorem Su{l:List Var}{n:Int}{s:Scope}{x:Var}(h:(fQ l n s).2.2=true)(ar:nth l n=some x):declared l n s=some (x,if x.scalar=0 then 0 else 1+x.scalar)/\0<=x.scalar/\x.scalar<=s.scalars.length/\0<=x.over/\x.over<=s.scalars.length:=by
 unfold fQ at h;rw[ar] at h;simp only at h;have aO:(kL x.scalar x.over s).2=true:=by rw[(Bx _ _ _).1];exact h
 refine⟨?_,?_⟩
 .unfold declared;rw[ar];simp only;rw[if_pos aO,(Bx _ _ _).2 aO]
 .unfold kL at aO;split at aO
  .cases aO
  .omega
theorem abg{n:Int}{s:Scope}(h:¬(jF n s).2=0):channel n s=none:=by
 unfold channel;unfold jF at h;cases aE:nth s.aL n with
 | none=>rfl
 | some c =>
  rw[aE] at h;simp only at h ⊢;rw[if_neg];intro aO;rw[(Bx _ _ _).1] at aO;simp only[Bool.and_eq_true] at aO;rw[if_pos aO.1] at h;exact h rfl
theorem abi{n:Int}{s:Scope}{c:dr}(h:(jF n s).2=0)(ar:nth s.aL n=some c):channel n s=some (if c.scalar=0 then 0 else 1+c.scalar)/\0<=c.scalar/\c.scalar<=s.scalars.length:=by
 unfold jF at h;rw[ar] at h;simp only at h;have h1:(gU c.scalar s).2=true:=by
  cases hk:(gU c.scalar s).2 with
  | true=>rfl
  | false=>rw[hk] at h;simp at h
 have aO:(kL c.scalar 0 s).2=true:=by rw[(Bx _ _ _).1,h1];simp[gU]
 refine⟨?_,?_⟩
 .unfold channel;rw[ar];simp only;rw[if_pos aO,(Bx _ _ _).2 aO]
 .unfold kL at aO;split at aO
  .cases aO
  .omega
def kH(l:List Var)(n:Int)(s:Scope):Int×Int:=match declared l n s with | none=>(0,8) | some (v,k)=>if v.over≠0 then (0,9) else (k,0)
def yv(a:Act)(s:Scope):Int:=match declared s.vars a.to s with | none=>8 | some (v,k)=>if v.over=0 then 9 else if asked a.index (1+v.over) s≠0 then asked a.index (1+v.over) s else asked a.value k s
def kJ(a:Act)(s:Scope)(comm:Bool):Int :=
 if a.kind<1\/5<a.kind then 3
 else if a.kind=2 then yv a s
 else if a.kind=1\/a.kind=3 then (if (kH (if a.kind=3 then s.locals else s.vars) a.to s).2≠0 then (kH (if a.kind=3 then s.locals else s.vars) a.to s).2 else asked a.value (kH (if a.kind=3 then s.locals else s.vars) a.to s).1 s)
 else if comm=true then 7
 else match channel a.to s with
  | none=>8
  | some k=>if a.kind=4 then asked a.value k s else if (kH s.locals a.loc s).2≠0 then (kH s.locals a.loc s).2 else if (kH s.locals a.loc s).1≠k then 9 else 0
theorem ajy(a:Act)(s:Scope)(comm:Bool):kJ a s comm=if gO a&&comm then 7 else jQ a s:=by
 by_cases ak:a.kind<1\/5<a.kind
 .have aO:gO a=false:=by unfold gO;rw[decide_eq_false_iff_not];omega
  unfold kJ jQ;rw[if_pos ak,aO,if_neg (by omega:¬(a.kind=1\/a.kind=2\/a.kind=3)),if_neg (by omega:¬(a.kind=4\/a.kind=5))];simp
 by_cases U:a.kind=2
 .have aO:gO a=false:=by unfold gO;rw[decide_eq_false_iff_not];omega
  unfold kJ jQ;rw[if_neg ak,if_pos U,aO,if_pos (by omega:a.kind=1\/a.kind=2\/a.kind=3)];simp only[Bool.false_and,Bool.false_eq_true,if_false];rw[if_neg (by omega:¬a.kind=3)];unfold yv;cases bx:declared s.vars a.to s with
  | none=>rfl
  | some q =>
   obtain⟨v,k⟩:=q;simp only[U,true_and];by_cases aT:v.over=0
   .simp[aT]
   .simp[aT]
 by_cases h1:a.kind=1\/a.kind=3
 .have aO:gO a=false:=by unfold gO;rw[decide_eq_false_iff_not];omega
  unfold kJ jQ;rw[if_neg ak,if_neg U,if_pos h1,aO,if_pos (by omega:a.kind=1\/a.kind=2\/a.kind=3)];simp only[Bool.false_and,Bool.false_eq_true,if_false];unfold kH;cases bx:declared (if a.kind=3 then s.locals else s.vars) a.to s with
  | none=>simp
  | some q =>
   obtain⟨v,k⟩:=q;simp only[U,false_and,if_false];by_cases aT:v.over=0
   .simp[aT]
   .simp[aT]
 .have adJ:a.kind=4\/a.kind=5:=by omega
  have aO:gO a=true:=by unfold gO;rw[decide_eq_true_eq];omega
  unfold kJ jQ;rw[if_neg ak,if_neg U,if_neg h1,aO,if_neg (by omega:¬(a.kind=1\/a.kind=2\/a.kind=3)),if_pos adJ];simp only[Bool.true_and];cases comm with
  | true=>simp
  | false =>
   simp only[Bool.false_eq_true,if_false];cases aw:channel a.to s with
   | none=>rfl
   | some k =>
    simp only;by_cases aJ:a.kind=4
    .rw[if_pos aJ,if_neg (by omega:¬a.kind=5)]
    .rw[if_neg aJ,if_pos (by omega:a.kind=5)];unfold kH Fb;cases bx:declared s.locals a.loc s with
     | none=>simp
     | some q =>
      obtain⟨v,k'⟩:=q;simp only;by_cases aT:v.over=0
      .simp[aT]
      .simp[aT]
end o
end
section
namespace Go.Proofs.R
open Go Go.RowKit bt
theorem YB(op:Int)(w:World):bu Tryz.prog F.AN #[.int .i64 op] w fun v w'=>v = .int .i64 (o.eV op)/\w'=w:=by
 have key:∀n:Int,(if op=3 then (1:Int) else if 1<=op/\op<=8 then 0 else if op=9\/op=10 then 1 else if 11<=op/\op<=19 then 2 else -1)=n->o.eV op=n:=fun _ h=>h;refine bL E.AN ?_;refine bG ?_
 (repeat' (refine aP ?_;first | (refine K.cond (fun _=>?_) (fun _=>?_)<;>try (exfalso;omega)) | refine K.dp (fun _=>?_) (fun _=>?_)))<;>try refine aP ?_
 all_goals
  refine⟨?_,bk⟩;congr 1;refine(key _ ?_).symm
  (repeat' split)<;>first | rfl | (exfalso;omega)
theorem Is{x:Int}(h:o.eV x=0):1<=x/\x<=8/\x≠3/\o.gE x=none:=by
 have h1:1<=x/\x<=8/\x≠3:=by unfold o.eV at h; (repeat' split at h)<;>omega
 exact⟨h1.1,h1.2.1,h1.2.2,o.Nf (by simp[o.wH];omega)⟩
theorem WU{x:Int}(h:o.eV x=1):x=3\/x=9\/x=10:=by unfold o.eV at h; (repeat' split at h)<;>omega
theorem It{x:Int}(h:o.eV x=2):11<=x/\x<=19:=by unfold o.eV at h; (repeat' split at h)<;>omega
theorem W1{x:Int}(h:9<=x/\x<=19):∃al,o.gE x=some al/\al.parts=o.eV x:=by
 cases ba:o.gE x with
 | some al=>exact⟨al,rfl,(o.EZ ba).1⟩
 | none =>
  exfalso;unfold o.gE at ba
  (repeat' split at ba)
  all_goals first | (cases ba;done) | omega
theorem Kn{st:List Int}(h:1<=st.length):st.drop (st.length - 1)=[st[st.length - 1]]:=by
 rw[List.drop_eq_getElem_cons (by omega),List.drop_eq_nil_of_le (by omega)]
theorem Sz{st:List Int}(h:2<=st.length):st.drop (st.length - 2)=[st[st.length - 2],st[st.length - 1]]:=by
 rw[List.drop_eq_getElem_cons (by omega)];have e:st.length - 2+1=st.length - 1:=by omega
 congr 1;rw[e];exact Kn (by omega)
theorem qF:∀y,∀u∈encI y,u.oneCell'=true:=fun y u h=>by simp[encI] at h;subst h;rfl
end Go.Proofs.R
end
section
namespace Go.Proofs.R
open Go Go.RowKit bt
theorem NV(n:Int)(cs:List Value)(s:o.Scope)(w:World)(h:o.fE w cs s) :
  bu Tryz.prog F.yD #[.int .i64 n,.agg cs.toArray] w fun v w'=>v = .bool (o.gU n s).2/\Ext w w':=by
 obtain⟨a0,bP,dJ,c1,a2,c2,a3,bQ,a4,bX,rfl,ak,h1,U,ag,aJ,eM,ej,ev,ea,ew⟩:=h.form;refine bL E.yD ?_;refine bG ?_;refine aP ?_;refine K.new fun av b aC aB aq=>?_
 (repeat' (refine aP ?_;first | (refine K.cond (fun _=>?_) (fun _=>?_)<;>try (exfalso;omega)) | refine K.dp (fun _=>?_) (fun _=>?_)))<;>try refine aP ?_
 all_goals
  refine⟨?_,fL⟩;congr 1;unfold o.gU
  (repeat' split)<;>first | rfl | (exfalso;omega) | (simp;omega)
def kindOf(n:Int):Int:=if n=0 then 0 else 1+n
theorem H9(n:Int)(w:World)(h:0<=n/\n<=4611686018427387904):bu Tryz.prog F.r5 #[.int .i64 n] w fun v w'=>v = .int .i64 (kindOf n)/\w'=w:=by
 refine bL E.r5 ?_;refine bG ?_
 (repeat' (refine aP ?_;first | (refine K.cond (fun _=>?_) (fun _=>?_)<;>try (exfalso;omega)) | refine K.dp (fun _=>?_) (fun _=>?_)))<;>try refine aP ?_
 all_goals
  refine⟨?_,bk⟩;congr 1;unfold kindOf;split<;>first | rfl | (exfalso;omega)
theorem V9{n:Int}{s:o.Scope}(h:(o.gU n s).2=true):0<=n/\n<=s.scalars.length/\(o.gU n s).1=kindOf n:=by
 unfold o.gU kindOf at *
 (repeat' split at h) <;> (repeat' split)<;>first | (cases h;done) | (refine⟨by omega,by omega,?_⟩;first | rfl | omega) | (exfalso;omega)
theorem Fi(v:Value)(l:List o.Var)(n:Int)(cs:List Value)(s:o.Scope)(w:World)(aS:o.hi w v l)(h:o.fE w cs s) :
  bu Tryz.prog F.wK #[v,.int .i64 n,.agg cs.toArray] w fun v w' =>
   (∃x:o.Var,v = .tuple #[.agg x.enc.toArray,.bool (o.fQ l n s).2.2]/\((o.fQ l n s).2.2=true->o.nth l n=some x))/\Ext w w':=by
 obtain⟨a0,bP,dJ,c1,a2,c2,a3,bQ,a4,bX,rfl,_⟩:=h.form;obtain⟨bm,cap,rfl,hlen⟩:=aS.form;refine bL E.wK ?_;refine bG ?_;refine aP ?_;refine K.new fun av b aC aB aq=>?_;refine aP ?_;refine K.new fun aU cp dR aA aQ=>?_;have he:=aB.trans aA;have ez:=aA.obj aq;refine aP ?_;apply K.cond<;>intro g1
 .have hk:(o.fQ l n s).2.2=false:=by rw[o.fQ,o.hN (.inl g1)]
  refine aP ?_;intro bb ax;refine aP ?_;refine K.cW (cs:=(⟨⟨#[]⟩,0,0,0,0,0⟩:o.Var).enc) (by simp[eP,o.Var.enc]) ?_;refine aP ?_;refine K.jJ (cs:=(⟨⟨#[]⟩,0,0,0,0,0⟩:o.Var).enc.toArray) (ax.obj aQ) rfl rfl (by simp[o.Var.enc,Value.oneCell']) fun bq eu bw=>?_;refine aP ?_;refine K.gV (c:=o.Var.enc _) bw (Ext.refl _) rfl ?_;refine aP ?_;exact⟨⟨_,by rw[hk],by rw[hk];intro h;cases h⟩,eu.ext (he.trans ax) (by have:=aB.size;omega)⟩
 refine aP ?_;apply K.cond<;>intro g2
 .have hk:(o.fQ l n s).2.2=false:=by rw[o.fQ,o.hN (.inr (by omega))]
  refine aP ?_;intro bb ax;refine aP ?_;refine K.cW (cs:=(⟨⟨#[]⟩,0,0,0,0,0⟩:o.Var).enc) (by simp[eP,o.Var.enc]) ?_;refine aP ?_;refine K.jJ (cs:=(⟨⟨#[]⟩,0,0,0,0,0⟩:o.Var).enc.toArray) (ax.obj aQ) rfl rfl (by simp[o.Var.enc,Value.oneCell']) fun bq eu bw=>?_;refine aP ?_;refine K.gV (c:=o.Var.enc _) bw (Ext.refl _) rfl ?_;refine aP ?_;exact⟨⟨_,by rw[hk],by rw[hk];intro h;cases h⟩,eu.ext (he.trans ax) (by have:=aB.size;omega)⟩
 obtain⟨i,rfl⟩:=Int.eq_ofNat_of_zero_le (show 0<=n by omega);have ad:i<l.length:=by omega
 have aE:o.nth l (i:Int)=some l[i]:=by rw[o.iY (by omega) (by omega)];simp only[Int.toNat_natCast]
 obtain⟨a,rfl⟩:=aS.addr (by omega);refine aP ?_;refine K.gV (c:=[_,_,_,_,_,_]) ez (Ext.refl _) rfl ?_;refine aP ?_;refine K.gN _ (fun w' e=>NV _ _ s w' (h.ext (he.trans e))) ?_;refine aP ?_;refine K.dp (fun g3=>?_) (fun g3=>?_);rotate_left
 .have hk:(o.fQ l i s).2.2=false:=by rw[o.fQ,aE];simp only[g3,Bool.false_and]
  refine aP ?_;intro bb ax;refine aP ?_;refine K.cW (cs:=(⟨⟨#[]⟩,0,0,0,0,0⟩:o.Var).enc) (by simp[eP,o.Var.enc]) ?_;refine aP ?_;refine K.jJ (cs:=(⟨⟨#[]⟩,0,0,0,0,0⟩:o.Var).enc.toArray) (ax.obj aQ) rfl rfl (by simp[o.Var.enc,Value.oneCell']) fun bq eu bw=>?_;refine aP ?_;refine K.gV (c:=o.Var.enc _) bw (Ext.refl _) rfl ?_;refine aP ?_;exact⟨⟨_,by rw[hk],by rw[hk];intro h;cases h⟩,eu.ext (he.trans ax) (by have:=aB.size;omega)⟩
 refine aP ?_;refine K.gV (c:=[_,_,_,_,_,_]) ez (Ext.refl _) rfl ?_;refine aP ?_;refine K.gN _ (fun w' e=>NV _ _ s w' (h.ext (he.trans e))) ?_;refine aP ?_;cases g4:(o.gU l[i].over s).2 with
 | false =>
  have hk:(o.fQ l i s).2.2=false:=by rw[o.fQ,aE];simp only[g4,Bool.and_false]
  refine aP ?_;intro bb ax;refine aP ?_;refine K.cW (cs:=(⟨⟨#[]⟩,0,0,0,0,0⟩:o.Var).enc) (by simp[eP,o.Var.enc]) ?_;refine aP ?_;refine K.jJ (cs:=(⟨⟨#[]⟩,0,0,0,0,0⟩:o.Var).enc.toArray) (ax.obj aQ) rfl rfl (by simp[o.Var.enc,Value.oneCell']) fun bq eu bw=>?_;refine aP ?_;refine K.gV (c:=o.Var.enc _) bw (Ext.refl _) rfl ?_;refine aP ?_;exact⟨⟨_,by rw[hk],by rw[hk];intro h;cases h⟩,eu.ext (he.trans ax) (by have:=aB.size;omega)⟩
 | true =>
  have hk:(o.fQ l i s).2.2=true:=by rw[o.fQ,aE];simp only[g3,g4,Bool.and_true]
  refine aP ?_;intro bb ax;refine aP ?_;refine K.jJ (cs:=l[i].enc.toArray) (ax.obj aQ) rfl rfl (by simp[o.Var.enc,Value.oneCell']) fun bq eu bw=>?_;refine aP ?_;refine K.gV (c:=o.Var.enc _) bw (Ext.refl _) rfl ?_;refine aP ?_;exact⟨⟨_,by rw[hk],fun _=>aE⟩,eu.ext (he.trans ax) (by have:=aB.size;omega)⟩
theorem Xx(n:Int)(cs:List Value)(s:o.Scope)(w:World)(h:o.fE w cs s) :
  bu Tryz.prog F.AL #[.int .i64 n,.agg cs.toArray] w fun v w' =>
   (∃x:o.dr,v = .tuple #[.agg x.enc.toArray,.bool (decide ((o.jF n s).2=0))]/\((o.jF n s).2=0->o.nth s.aL n=some x))/\Ext w w':=by
 obtain⟨a0,bP,dJ,c1,a2,c2,a3,bQ,a4,bX,rfl,ak,h1,U,ag,aJ,eM,ej,ev,ea,ew⟩:=h.form;refine bL E.AL ?_;refine bG ?_;refine aP ?_;refine K.new fun av b aC aB aq=>?_;refine aP ?_;refine K.new fun aU cp dR aA aQ=>?_;have he:=aB.trans aA;have ez:=aA.obj aq;refine aP ?_;apply K.cond<;>intro g1
 .have hk:(o.jF n s).2=8:=by rw[o.jF,o.hN (.inl g1)]
  refine aP ?_;intro bb ax;refine aP ?_;refine K.cW (cs:=(⟨⟨#[]⟩,0,0,0,0,false⟩:o.dr).enc) (by simp[eP,o.dr.enc]) ?_;refine aP ?_;refine K.jJ (cs:=(⟨⟨#[]⟩,0,0,0,0,false⟩:o.dr).enc.toArray) (ax.obj aQ) rfl rfl (by simp[o.dr.enc,Value.oneCell']) fun bq eu bw=>?_;refine aP ?_;refine K.gV (c:=o.dr.enc _) bw (Ext.refl _) rfl ?_;refine aP ?_;exact⟨⟨_,by rw[hk];rfl,by rw[hk];intro h;cases h⟩,eu.ext (he.trans ax) (by have:=aB.size;omega)⟩
 refine aP ?_;apply K.cond<;>intro g2
 .have hk:(o.jF n s).2=8:=by rw[o.jF,o.hN (.inr (by omega))]
  refine aP ?_;intro bb ax;refine aP ?_;refine K.cW (cs:=(⟨⟨#[]⟩,0,0,0,0,false⟩:o.dr).enc) (by simp[eP,o.dr.enc]) ?_;refine aP ?_;refine K.jJ (cs:=(⟨⟨#[]⟩,0,0,0,0,false⟩:o.dr).enc.toArray) (ax.obj aQ) rfl rfl (by simp[o.dr.enc,Value.oneCell']) fun bq eu bw=>?_;refine aP ?_;refine K.gV (c:=o.dr.enc _) bw (Ext.refl _) rfl ?_;refine aP ?_;exact⟨⟨_,by rw[hk];rfl,by rw[hk];intro h;cases h⟩,eu.ext (he.trans ax) (by have:=aB.size;omega)⟩
 obtain⟨i,rfl⟩:=Int.eq_ofNat_of_zero_le (show 0<=n by omega);have ad:i<s.aL.length:=by omega
 have aE:o.nth s.aL (i:Int)=some s.aL[i]:=by rw[o.iY (by omega) (by omega)];simp only[Int.toNat_natCast]
 obtain⟨a,rfl⟩:=U.addr (by omega);refine aP ?_;refine K.gV (c:=[_,_,_,_,_,_]) ez (Ext.refl _) rfl ?_;refine aP ?_;refine K.gN _ (fun w' e=>NV _ _ s w' (h.ext (he.trans e))) ?_;refine aP ?_;cases g4:(o.gU s.aL[i].scalar s).2 with
 | false =>
  have hk:(o.jF i s).2=8:=by rw[o.jF,aE];simp only[g4,Bool.false_eq_true,if_false]
  refine aP ?_;intro bb ax;refine aP ?_;refine K.cW (cs:=(⟨⟨#[]⟩,0,0,0,0,false⟩:o.dr).enc) (by simp[eP,o.dr.enc]) ?_;refine aP ?_;refine K.jJ (cs:=(⟨⟨#[]⟩,0,0,0,0,false⟩:o.dr).enc.toArray) (ax.obj aQ) rfl rfl (by simp[o.dr.enc,Value.oneCell']) fun bq eu bw=>?_;refine aP ?_;refine K.gV (c:=o.dr.enc _) bw (Ext.refl _) rfl ?_;refine aP ?_;exact⟨⟨_,by rw[hk];rfl,by rw[hk];intro h;cases h⟩,eu.ext (he.trans ax) (by have:=aB.size;omega)⟩
 | true =>
  have hk:(o.jF i s).2=0:=by rw[o.jF,aE];simp only[g4,if_true]
  refine aP ?_;intro bb ax;refine aP ?_;refine K.jJ (cs:=s.aL[i].enc.toArray) (ax.obj aQ) rfl rfl (by simp[o.dr.enc,Value.oneCell']) fun bq eu bw=>?_;refine aP ?_;refine K.gV (c:=o.dr.enc _) bw (Ext.refl _) rfl ?_;refine aP ?_;exact⟨⟨_,by rw[hk];rfl,fun _=>aE⟩,eu.ext (he.trans ax) (by have:=aB.size;omega)⟩
end Go.Proofs.R
end
section
namespace Go.Proofs.R
open Go Go.RowKit bt
theorem MM{l:List o.Var}{n:Int}{s:o.Scope}{x:o.Var}(h:(o.fQ l n s).2.2=true)(ar:o.nth l n=some x) :
  (o.fQ l n s).1=kindOf x.scalar/\(o.fQ l n s).2.1=kindOf x.over/\0<=x.scalar/\x.scalar<=s.scalars.length/\0<=x.over/\x.over<=s.scalars.length:=by
 unfold o.fQ at h ⊢;rw[ar] at h ⊢;simp only[Bool.and_eq_true] at h ⊢;obtain⟨dJ,a2,a3⟩:=V9 h.1;obtain⟨bC,cp,b4⟩:=V9 h.2;exact⟨a3,b4,dJ,a2,bC,cp⟩
theorem aj2(x:o.Node)(cs:List Value)(s:o.Scope)(w:World)(ar:x.ok)(h:o.fE w cs s)(k1:1<=x.op/\x.op<=8)(ag:x.op≠3)(t:Int) :
  bu Tryz.prog F.Ej #[.agg x.enc.toArray,.agg cs.toArray] w fun v w'=>v = .tuple #[.int .i64 (o.iu x s t).1,.int .i64 (o.iu x s t).2]/\Ext w w':=by
 obtain⟨a0,bP,dJ,c1,a2,c2,a3,bQ,a4,bX,rfl,qg,dH,dN,eb,hd,eM,ej,ev,ea,ew⟩:=h.form;refine bL E.Ej ?_;refine bG ?_;refine aP ?_;refine K.new fun av bC cR aB aq=>?_;refine aP ?_;refine K.new fun aU cp dR aA aQ=>?_;have he:=aB.trans aA;have cX:aU.heap[bC]? = some (.cells #[.int .i64 x.op,.int .i64 x.n] T.f):=aA.obj aq;clear aq;refine aP ?_;apply K.cond<;>intro g1
 .have hk:o.iu x s t=if o.within x.n then (0,0) else (0,10):=by rw[o.iu,if_pos g1]
  (repeat' (refine aP ?_;first | (refine K.cond (fun _=>?_) (fun _=>?_)<;>try (exfalso;omega)) | refine K.dp (fun _=>?_) (fun _=>?_)))<;>try refine aP ?_
  all_goals
   refine⟨?_,fL⟩;rw[hk];unfold o.within;split<;>first | rfl | (rename_i dt;simp at dt;exfalso;omega)
 by_cases aT:x.op=2\/x.op=4
 .have hk:o.iu x s t=(let q:=o.fQ (if x.op=4 then s.locals else s.vars) x.n s;if q.2.2=false then (0,8) else if (x.op=3/\(q.2.1=0\/t≠q.2.1))\/(x.op≠3/\q.2.1≠0) then (0,9) else (q.1,0)):=by
   rw[o.iu,if_neg g1,if_pos (by omega)]
  by_cases g4:x.op=4
  .rw[if_pos g4] at hk;rw[hk];refine aP ?_;refine K.gV (c:=[_,_,_,_,_,_]) aQ (Ext.refl _) rfl ?_;refine aP ?_;refine K.call (Fi _ s.locals x.n _ s aU (hd.ext he) (h.ext he)) ?_;rintro _ bb ⟨⟨y,rfl,b2⟩,ax⟩;have dq:(o.fQ s.locals x.n s).2.2=true->_:=fun g=>MM g (b2 g);clear b2 hk;generalize o.fQ s.locals x.n s=q at dq ⊢;obtain⟨wW,yR,Ny⟩:=q;refine aP ?_;refine K.tm (vs:=y.enc) (fun _=>by simp -dsimp only[c4,cF,Nat.reduceAdd,Nat.reduceEqDiff,reduceIte,reduceCtorEq,db]) rfl rfl (by simp[o.Var.enc,Value.oneCell']) fun bq cN fN aM bw=>?_;have iK:bq.heap[cN]? = some (.cells #[.string y.name,.int .i64 y.scalar,.int .i64 y.over,.int .i64 y.bf,.int .i64 y.ad,.int .i64 y.init] T.i):=bw;clear bw;refine aP ?_;refine K.dp (fun g5=>?_) (fun g5=>?_);rotate_left
   .refine aP ?_;simp only[g5,if_true];exact cA
   obtain⟨gl,z2,z3,z4,z5,BE⟩:=dq g5;have wq:kindOf y.over=0↔y.over=0:=by unfold kindOf;split<;>omega
   have y7:wW=kindOf y.scalar:=gl;have y8:yR=kindOf y.over:=z2;refine aP ?_;apply K.cond<;>intro g6
   .refine aP ?_;refine K.call (H9 y.scalar bq (by omega)) ?_;rintro _ _ ⟨rfl,rfl⟩;refine aP ?_;simp only[g5,Bool.true_eq_false,if_false,y7,y8];rw[if_neg (by rw[ne_eq,wq];omega)];exact cA
   .refine aP ?_;simp only[g5,Bool.true_eq_false,if_false,y7,y8];rw[if_pos (.inr ⟨ag,by rw[ne_eq,wq];exact g6⟩)];exact cA
  .rw[if_neg g4] at hk;rw[hk];refine aP ?_;refine K.gV (c:=[_,_,_,_,_,_]) aQ (Ext.refl _) rfl ?_;refine aP ?_;refine K.call (Fi _ s.vars x.n _ s aU (dH.ext he) (h.ext he)) ?_;rintro _ bb ⟨⟨y,rfl,b2⟩,ax⟩;have dq:(o.fQ s.vars x.n s).2.2=true->_:=fun g=>MM g (b2 g);clear b2 hk;generalize o.fQ s.vars x.n s=q at dq ⊢;obtain⟨wW,yR,Ny⟩:=q;refine aP ?_;refine K.tm (vs:=y.enc) (fun _=>by simp -dsimp only[c4,cF,Nat.reduceAdd,Nat.reduceEqDiff,reduceIte,reduceCtorEq,db]) rfl rfl (by simp[o.Var.enc,Value.oneCell']) fun bq cN fN aM bw=>?_;have iK:bq.heap[cN]? = some (.cells #[.string y.name,.int .i64 y.scalar,.int .i64 y.over,.int .i64 y.bf,.int .i64 y.ad,.int .i64 y.init] T.i):=bw;clear bw;refine aP ?_;refine K.dp (fun g5=>?_) (fun g5=>?_);rotate_left
   .refine aP ?_;simp only[g5,if_true];exact cA
   obtain⟨gl,z2,z3,z4,z5,BE⟩:=dq g5;have wq:kindOf y.over=0↔y.over=0:=by unfold kindOf;split<;>omega
   have y7:wW=kindOf y.scalar:=gl;have y8:yR=kindOf y.over:=z2;refine aP ?_;apply K.cond<;>intro g6
   .refine aP ?_;refine K.call (H9 y.scalar bq (by omega)) ?_;rintro _ _ ⟨rfl,rfl⟩;refine aP ?_;simp only[g5,Bool.true_eq_false,if_false,y7,y8];rw[if_neg (by rw[ne_eq,wq];omega)];exact cA
   .refine aP ?_;simp only[g5,Bool.true_eq_false,if_false,y7,y8];rw[if_pos (.inr ⟨ag,by rw[ne_eq,wq];exact g6⟩)];exact cA
 have hk:o.iu x s t=o.lN x s:=by rw[o.iu,if_neg g1,if_neg (by omega)]
 rw[hk];clear hk;refine aP ?_;apply K.cond<;>intro g5
 ·(repeat' (refine aP ?_;first | (refine K.cond (fun _=>?_) (fun _=>?_)<;>try (exfalso;omega)) | refine K.dp (fun _=>?_) (fun _=>?_)))<;>try refine aP ?_
  all_goals
   refine⟨?_,fL⟩;rw[o.lN,if_pos g5];split<;>first | rfl | (exfalso;omega)
 refine aP ?_;apply K.cond<;>intro g6
 .have hk:o.lN x s=o.jF x.n s:=by rw[o.lN,if_neg g5,if_pos g6]
  rw[hk];have yi:(o.jF x.n s).1=0/\((o.jF x.n s).2=0\/(o.jF x.n s).2=8):=by
   unfold o.jF; (repeat' split)<;>simp
  refine aP ?_;refine K.gV (c:=[_,_,_,_,_,_]) aQ (Ext.refl _) rfl ?_;refine aP ?_;refine K.call (Xx x.n _ s aU (h.ext he)) ?_;rintro _ bb ⟨⟨y,rfl,b2⟩,ax⟩;generalize o.jF x.n s=q at *;obtain⟨dH,dN⟩:=q;obtain⟨rfl,aD⟩:=yi;refine aP ?_;refine K.tm (vs:=y.enc) (fun _=>by simp -dsimp only[c4,cF,Nat.reduceAdd,Nat.reduceEqDiff,reduceIte,reduceCtorEq,db]) rfl rfl (by simp[o.dr.enc,Value.oneCell']) fun bq cN fN aM bw=>?_;refine aP ?_;apply K.cond<;>intro g7
  .refine aP ?_;have g8:dN=0:=g7;rw[g8];exact cA
  .refine aP ?_
   have:dN=8:=aD.resolve_left g7
   rw[this];exact cA
 refine aP ?_;apply K.cond<;>intro g7
 .have hk:o.lN x s=o.AF x.n s:=by rw[o.lN,if_neg g5,if_neg g6,if_pos g7]
  rw[hk,o.AF];refine aP ?_;apply K.cond<;>intro g1
  .refine aP ?_;intro bb ax;refine aP ?_;rw[if_neg (by omega)];exact cA
  rw[if_pos (by omega)];obtain⟨i,ad⟩:=Int.eq_ofNat_of_zero_le (show 0<=x.n by omega);obtain⟨_,gT⟩:=ar.n;rw[ad] at gT;have aD:x.n.tdiv 16=((i / 16:Nat):Int):=by rw[ad];rfl
  have hm:x.n.tmod 16=((i % 16:Nat):Int):=by rw[ad];rfl
  refine aP ?_;refine K.quo (by omega) ?_;rw[aD];refine aP ?_;apply K.cond<;>intro g2
  .refine aP ?_;intro bb ax;refine aP ?_;rw[o.hN (.inr (by omega))];exact cA
  have aR:i / 16<s.procs.length:=by omega
  rw[o.iY (by omega) (by omega)];simp only[Int.toNat_natCast];refine aP ?_;refine K.rem (by omega) ?_;refine aP ?_;refine K.quo (by omega) ?_;rw[aD];obtain⟨a,rfl⟩:=eb.addr (by omega);obtain⟨_,cE,dU,Dp,_⟩:=eb.at (i / 16) aR;have Lt:w.cell? ((a.add (i / 16*5)).add 2)=some (.int .i64 s.procs[i / 16].cw):=Dp 2 _ rfl;refine aP ?_;refine K.ld ((aB.trans aA).cell Lt) ?_;refine aP ?_;rw[hm];intro bb ax;refine aP ?_;apply K.cond<;>intro g3
  all_goals
   refine aP ?_;refine⟨?_,fL⟩
   first | rw[if_pos (by omega)] | rw[if_neg (by omega)]
 (repeat' (refine aP ?_;first | (refine K.cond (fun _=>?_) (fun _=>?_)<;>try (exfalso;omega)) | refine K.dp (fun _=>?_) (fun _=>?_)))<;>try refine aP ?_
 all_goals
  refine⟨?_,fL⟩;rw[o.lN,if_neg g5,if_neg g6,if_neg g7,if_pos (by omega)];split<;>first | rfl | (exfalso;omega)
end Go.Proofs.R
end
section
namespace Go.Proofs.R
open Go Go.RowKit bt
theorem Wf(al:o.pH)(k:Int):o.nk al [k]=if al.jb = -1\/k=al.jb then (al.makes,0) else (0,9):=by
 simp[o.nk]
theorem ahi(al:o.pH)(a b:Int):o.nk al [a,b]=if (al.jb = -1\/a=al.jb)/\a=b then (al.makes,0) else (0,9):=by
 simp only[o.nk,List.all_cons,List.all_nil,List.headD_cons,Bool.and_true,decide_true];by_cases h:a=b
 .subst h;simp
 .have bF:¬b=a:=fun e=>h e.symm;simp[h,bF]
def tn(x:o.Node)(k:Int)(s:o.Scope):Int×Int:=match o.gE x.op with | some al=>o.nk al [k] | none=>o.iu x s k
theorem aj8(x:o.Node)(k:Int)(cs:List Value)(s:o.Scope)(w:World)(h:o.fE w cs s)(k1:x.op=3\/x.op=9\/x.op=10) :
  bu Tryz.prog F.Ek #[.agg x.enc.toArray,.int .i64 k,.agg cs.toArray] w fun v w'=>v = .tuple #[.int .i64 (tn x k s).1,.int .i64 (tn x k s).2]/\Ext w w':=by
 obtain⟨a0,bP,dJ,c1,a2,c2,a3,bQ,a4,bX,rfl,qg,dH,dN,eb,hd,eM,ej,ev,ea,ew⟩:=h.form;refine bL E.Ek ?_;refine bG ?_;refine aP ?_;refine K.new fun av bC cR aB aq=>?_;refine aP ?_;refine K.new fun aU cp dR aA aQ=>?_;have he:=aB.trans aA;have cX:aU.heap[bC]? = some (.cells #[.int .i64 x.op,.int .i64 x.n] T.f):=aA.obj aq;clear aq;refine aP ?_;apply K.cond<;>intro g1
 .have ba:o.gE x.op=none:=by rw[g1];rfl
  have hk:tn x k s=(let q:=o.fQ s.vars x.n s;if q.2.2=false then (0,8) else if (x.op=3/\(q.2.1=0\/k≠q.2.1))\/(x.op≠3/\q.2.1≠0) then (0,9) else (q.1,0)):=by
   rw[tn,ba];simp only;rw[o.iu,if_neg (by omega),if_pos (by omega)];simp only[show ¬x.op=4 from by omega,if_false]
  rw[hk];refine aP ?_;refine K.gV (c:=[_,_,_,_,_,_]) aQ (Ext.refl _) rfl ?_;refine aP ?_;refine K.call (Fi _ s.vars x.n _ s aU (dH.ext he) (h.ext he)) ?_;rintro _ bb ⟨⟨y,rfl,b2⟩,ax⟩;have dq:(o.fQ s.vars x.n s).2.2=true->_:=fun g=>MM g (b2 g);clear b2 hk;generalize o.fQ s.vars x.n s=q at dq ⊢;obtain⟨wW,yR,Ny⟩:=q;refine aP ?_;refine K.tm (vs:=y.enc) (fun _=>by simp -dsimp only[c4,cF,Nat.reduceAdd,Nat.reduceEqDiff,reduceIte,reduceCtorEq,db]) rfl rfl (by simp[o.Var.enc,Value.oneCell']) fun bq cN fN aM bw=>?_;have iK:bq.heap[cN]? = some (.cells #[.string y.name,.int .i64 y.scalar,.int .i64 y.over,.int .i64 y.bf,.int .i64 y.ad,.int .i64 y.init] T.i):=bw;clear bw;refine aP ?_;refine K.dp (fun g5=>?_) (fun g5=>?_);rotate_left
  .refine aP ?_;simp only[g5,if_true];exact cA
  obtain⟨gl,z2,z3,z4,z5,BE⟩:=dq g5;have y7:wW=kindOf y.scalar:=gl;have y8:yR=kindOf y.over:=z2;have wq:yR=if y.over=0 then 0 else 1+y.over:=y8
  refine aP ?_;apply K.cond<;>intro g6
  .refine aP ?_;simp only[g5,Bool.true_eq_false,if_false];rw[if_pos (.inl ⟨g1,.inl (by rw[wq,if_pos g6])⟩)];exact cA
  rw[if_neg g6] at wq;refine aP ?_;apply K.cond<;>intro g7;rotate_left
  .refine aP ?_;simp only[g5,Bool.true_eq_false,if_false];rw[if_pos (.inl ⟨g1,.inr (by omega)⟩)];exact cA
  refine aP ?_;refine K.call (H9 y.scalar bq (by omega)) ?_;rintro _ _ ⟨rfl,rfl⟩;refine aP ?_;simp only[g5,Bool.true_eq_false,if_false,y7];rw[if_neg (by omega)];exact cA
 have iG:x.op=9->tn x k s=if k=1 then (1,0) else (0,9):=by
  intro e;rw[tn,e];show o.nk _ [k]=_;rw[Wf];simp
 have jW:x.op=10->tn x k s=if k=0 then (0,0) else (0,9):=by
  intro e;rw[tn,e];show o.nk _ [k]=_;rw[Wf];simp
 (repeat' (refine aP ?_;first | (refine K.cond (fun _=>?_) (fun _=>?_)<;>try (exfalso;omega)) | refine K.dp (fun _=>?_) (fun _=>?_)))<;>try refine aP ?_
 all_goals
  refine⟨?_,fL⟩;rcases k1 with e | e | e
  .exact absurd e g1
  .rw[iG e];split<;>first | rfl | (exfalso;omega)
  .rw[jW e];split<;>first | rfl | (exfalso;omega)
def FD(op a b:Int):Int×Int:=match o.gE op with | some al=>o.nk al [a,b] | none=>(0,9)
theorem aki(op a b:Int)(w:World)(k1:11<=op/\op<=19) :
  bu Tryz.prog F.El #[.int .i64 op,.int .i64 a,.int .i64 b] w fun v w'=>v = .tuple #[.int .i64 (FD op a b).1,.int .i64 (FD op a b).2]/\w'=w:=by
 have key:FD op a b=if a≠b then (0,9) else if op=14\/op=15 then (1,0) else if op=18\/op=19 then (if a=1 then (1,0) else (0,9)) else if op=16\/op=17 then (if a=0 then (1,0) else (0,9)) else (if a=0 then (0,0) else (0,9)):=by
  have aw:op=11\/op=12\/op=13\/op=14\/op=15\/op=16\/op=17\/op=18\/op=19:=by omega
  rcases aw with e | e | e | e | e | e | e | e | e<;>subst e <;> (show o.nk _ [a,b]=_)<;>rw[ahi]<;>by_cases Db:a=b<;>simp[Db,o.yU]
 refine bL E.El ?_;refine bG ?_
 (repeat' (refine aP ?_;first | (refine K.cond (fun _=>?_) (fun _=>?_)<;>try (exfalso;omega)) | refine K.dp (fun _=>?_) (fun _=>?_)))<;>try refine aP ?_
 all_goals
  refine⟨?_,bk⟩;rw[key]
  (repeat' split)<;>first | rfl | (exfalso;omega)
end Go.Proofs.R
end
section
namespace Go.Proofs.R
open Go Go.RowKit bt
theorem acW{s:o.Scope}{x:o.Node}{st:List Int}(h:o.eV x.op=0):o.e7 s x st=o.iu x s (st.getLastD 0):=by
 unfold o.e7;rw[(Is h).2.2.2]
theorem acX{s:o.Scope}{x:o.Node}{st:List Int}(h:o.eV x.op=1)(aS:1<=st.length):o.e7 s x st=tn x st[st.length - 1] s:=by
 unfold o.e7 tn;cases ba:o.gE x.op with
 | none=>simp only;rw[KO st (by omega)]
 | some al =>
  have:=(o.EZ ba).1
  simp only;rw[show al.parts.toNat=1 from by omega,Kn aS]
theorem acY{s:o.Scope}{x:o.Node}{st:List Int}(h:o.eV x.op=2)(aS:2<=st.length):o.e7 s x st=FD x.op st[st.length - 2] st[st.length - 1]:=by
 unfold o.e7 FD;obtain⟨al,ba,aN⟩:=W1 (show 9<=x.op/\x.op<=19 by have:=It h;omega);rw[ba];simp only;rw[show al.parts.toNat=2 from by omega,Sz aS]
theorem XD(hD:Value)(e:List o.Node)(cs:List Value)(s:o.Scope)(w:World)(he:o.gd w hD e)(h:o.fE w cs s) :
  bu Tryz.prog F.AM #[hD,.agg cs.toArray] w fun v w'=>v = .tuple #[.int .i64 (o.kind e s).1,.int .i64 (o.kind e s).2]/\Ext w w':=by
 obtain⟨v0,v1,v2,v3,v4,rfl,_⟩:=h.ex;obtain⟨bm,cap,rfl,hlen⟩:=he.form;refine bL E.AM ?_;refine bG ?_;refine aP ?_;refine K.new fun av dv wy aB aq=>?_;refine aP ?_;apply K.cond<;>intro g1
 .refine aP ?_;rw[o.kind,o.kt,if_pos (by omega)];exact cA
 refine aP ?_;apply K.cond<;>intro g2
 .refine aP ?_;rw[o.kind,o.kt,if_neg (by omega),if_pos (by omega)];exact cA
 refine aP ?_;refine K.zY 7 e.length (fun k S w' => ∃v st,S 6=v/\mf av.heap.size w' v st/\o.eE (o.e7 s) (e.take k) []=(0,st)/\(0<k->1<=st.length)/\st.length<=12/\Ext av w')
  (by simp -dsimp only[c4,cF,Nat.reduceAdd,Nat.reduceEqDiff,reduceIte,reduceCtorEq,db]) ⟨.slice none 0 0,[],by simp -dsimp only[c4,cF,Nat.reduceAdd,Nat.reduceEqDiff,reduceIte,reduceCtorEq,db],bs.nil _ _ _ _ _,by simp[o.eE],by simp,by simp,Ext.refl _⟩ ?_
 rintro k S aU cq hk cj ⟨v6,st,bS,gr,hn,C1,qH,aA⟩;have ak:=cq 0 rfl;have ag:=cq 3 rfl;simp only[cu,Nat.reduceAdd,Nat.reduceEqDiff,reduceIte,jh,mr] at ak ag;clear cq;obtain⟨wS,JU,rfl,ct,l6⟩:=gr.form;have ad:Ints aU _ st:=bs.py (enc:=encI) (sz:=1) (fun _=>rfl) gr;unfold maxLen at l6;refine dn (i_ ak (i_ ag (i_ bS cj))) ?_;apply K.cond<;>intro g3;rotate_left
 .have bp:k=e.length:=by omega
  subst bp;rw[List.take_length] at hn;have h1:=C1 (by omega);obtain⟨a,rfl⟩:=ad.addr h1;have fS:o.kind e s=if st.length > 1 then (0,5) else (st.headD 0,0):=by
   rw[o.kind,o.kt,if_neg (by omega),if_neg (by omega),hn,if_neg (by simp)]
  rw[fS];clear fS;refine dn (i_ ak (i_ ag (i_ bS cj))) ?_;apply K.cond<;>intro g4
  .refine aP ?_;rw[if_pos (by omega)];exact cA
  .refine dn (i_ ak (i_ ag (i_ bS cj))) ?_;refine K.dD 0 rfl (by omega) ?_;refine aP ?_;rw[if_neg (by omega)]
   have:st.headD 0=st[0]:=by
    cases st with
    | nil=>simp at h1
    | cons z st=>rfl
   rw[this];exact cA
 have bp:k<e.length:=by omega
 obtain⟨a,rfl⟩:=he.addr (by omega);have td:=(he.at k bp).ok;have j2:=fun ak=>o.NW (f:=o.e7 s) (e:=e) (by omega) bp hn ak;have s7:=o.vb bp hn;have CZ:=aB.trans aA;have ez:=aA.obj aq;refine dn (i_ ak (i_ ag (i_ bS cj))) ?_;refine K.call (YB e[k].op aU) ?_;rintro _ _ ⟨rfl,rfl⟩;generalize aE:o.eV e[k].op=n at *;have ir : -1<=n/\n<=2:=by rw[<-aE];unfold o.eV; (repeat' split)<;>omega
 refine dn (i_ ak (i_ ag (i_ bS cj))) ?_;apply K.cond<;>intro g4
 .have ay:o.stepG (o.e7 s) e[k] st=(3,st):=by unfold o.stepG;rw[aE,if_pos g4]
  rw[ay] at j2;refine aP ?_;rw[o.kind,j2 (by simp)];exact cA
 refine dn (i_ ak (i_ ag (i_ bS cj))) ?_;apply K.cond<;>intro g5
 .have ay:o.stepG (o.e7 s) e[k] st=(4,st):=by unfold o.stepG;rw[aE,if_neg g4,if_pos g5]
  rw[ay] at j2;refine aP ?_;rw[o.kind,j2 (by simp)];exact cA
 obtain⟨p,rfl⟩:=Int.eq_ofNat_of_zero_le (show 0<=n by omega);have eA:o.stepG (o.e7 s) e[k] st=if (o.e7 s e[k] st).2≠0 then ((o.e7 s e[k] st).2,st) else if (st.take (st.length - p)++[(o.e7 s e[k] st).1]).length > 12 then (12,st) else (0,st.take (st.length - p)++[(o.e7 s e[k] st).1]):=by
  unfold o.stepG;rw[aE,if_neg g4,if_neg g5];simp only[Int.toNat_natCast]
 have iq:(st.take (st.length - p)++[(o.e7 s e[k] st).1]).length=st.length - p+1:=by simp[List.length_take]
 rw[iq] at eA;have fin:p=0\/p=1\/p=2:=by omega
 rcases fin with yl | yl | yl
 .have aK:=acW (s:=s) (st:=st) (x:=e[k]) (by omega);obtain⟨gl,z2,z3,z4⟩:=Is (x:=e[k].op) (by omega);refine dn (i_ ak (i_ ag (i_ bS cj))) ?_;refine K.gV (c:=[_,_,_,_,_,_]) ez (Ext.refl _) rfl ?_;refine dn (i_ ak (i_ ag (i_ bS cj))) ?_;refine K.gN _ (fun w' e'=>aj2 e[k] _ s w' td (h.ext (CZ.trans e')) ⟨gl,z2⟩ z3 (st.getLastD 0)) ?_;rw[<-aK];refine dn (i_ ak (i_ ag (i_ bS cj))) ?_;intro bb ax;refine dn (i_ ak (i_ ag (i_ bS cj))) ?_;apply K.cond<;>intro g6;rotate_left
  .rw[if_pos g6] at eA;refine aP ?_;rw[o.kind,j2 (by rw[eA];exact g6),eA];exact cA
  rw[if_neg (by simpa using g6)] at eA;have fP:=gr.ext ax;refine dn (i_ ak (i_ ag (i_ bS cj))) ?_;refine K.lv (cs:=[]) (by simp[List.range,List.range.loop,eP]) fun bq cN fN aM bw=>?_;have z12:=aA.size;have z23:=ax.size;have BD:=aM.size;have rP:mf av.heap.size bq (.slice (some ⟨cN,0,none⟩) 0 0) []:=bs.empty (by omega) bw;have fr:=fP.ext aM;have eC:mf av.heap.size bq (.slice _ (st.length - p) _) (st.take (st.length - p)):=bs.head (enc:=encI) (sz:=1) (xs:=st) (fun _=>rfl) fr (st.length - p) (Nat.sub_le _ _);have cv:(st.take (st.length - p)).length=st.length - p:=by simp[List.length_take]
  refine dn (i_ ak (i_ ag (i_ bS cj))) ?_;refine K.tt (st.length - p) (by refine cd bS ?_;first | rfl | (congr 1;omega)) (by omega) ?_;refine aP ?_;refine K.zz (xs:=[]) (ys:=st.take (st.length - p)) rP eC (fun _=>rfl) qF (by rw[cv];simp only[List.length_nil];omega) (by rw[cv];simp only[List.length_nil,maxLen];omega) (by omega) fun v5 bT ng kC=>?_;have nf:Ext bb bT:=aM.grown kC fun q aD=>by simp[Value.ownBlock] at aD;omega
  rw[List.nil_append] at ng;have z35:=nf.size;refine aP ?_;refine K.lv (cs:=[(o.e7 s e[k] st).1].flatMap encI) (by simp[List.range,List.range.loop,eP,lay,fu,cu,Value.cells,encI]) fun bV fl gq a8 ct=>?_;have y9:=a8.size;have dL:=ng.ext a8;refine aP ?_;refine K.sB (xs:=st.take (st.length - p)) (ys:=[(o.e7 s e[k] st).1]) dL (fun _=>rfl) (hj ct) rfl qF (by rw[cv];simp only[List.length_cons,List.length_nil];omega) (by rw[cv];simp only[List.length_cons,List.length_nil,maxLen];omega) (by omega) fun By cc et j0=>?_;have bM:Ext av cc:=Ext.grown (((aA.trans ax).trans nf).trans a8) j0 fun q aD=>(dL.lt q aD).1;obtain⟨EY,xH,rfl,_⟩:=et.form;rw[iq] at et ⊢;by_cases g7:12<st.length - p+1
  .rw[if_pos (by omega)] at eA
   first
    | (exfalso;omega)
    | (refine aP ?_
       rw[o.kind,j2 (by rw[eA];simp),eA];exact⟨bk,aB.trans bM⟩)
  rw[if_neg (by omega)] at eA;refine dn cj ?_;refine⟨bp,bk,_,_,rfl,et,by rw[s7,eA],fun _=>by rw[iq];omega,by rw[iq];omega,bM⟩
 .have aK:=acX (s:=s) (st:=st) (x:=e[k]) (by omega) (by omega);obtain⟨lZ,rfl⟩:=ad.addr (by omega);refine dn (i_ ak (i_ ag (i_ bS cj))) ?_;refine K.dD (st.length - 1) (by omega) (by omega) ?_;refine dn (i_ ak (i_ ag (i_ bS cj))) ?_;refine K.gV (c:=[_,_,_,_,_,_]) ez (Ext.refl _) rfl ?_;refine dn (i_ ak (i_ ag (i_ bS cj))) ?_;refine K.gN _ (fun w' e'=>aj8 e[k] _ _ s w' (h.ext (CZ.trans e')) (WU (by omega))) ?_;rw[<-aK];refine dn (i_ ak (i_ ag (i_ bS cj))) ?_;intro bb ax;refine dn (i_ ak (i_ ag (i_ bS cj))) ?_;apply K.cond<;>intro g6;rotate_left
  .rw[if_pos g6] at eA;refine aP ?_;rw[o.kind,j2 (by rw[eA];exact g6),eA];exact cA
  rw[if_neg (by simpa using g6)] at eA;have fP:=gr.ext ax;refine dn (i_ ak (i_ ag (i_ bS cj))) ?_;refine K.lv (cs:=[]) (by simp[List.range,List.range.loop,eP]) fun bq cN fN aM bw=>?_;have z12:=aA.size;have z23:=ax.size;have BD:=aM.size;have rP:mf av.heap.size bq (.slice (some ⟨cN,0,none⟩) 0 0) []:=bs.empty (by omega) bw;have fr:=fP.ext aM;have eC:mf av.heap.size bq (.slice _ (st.length - p) _) (st.take (st.length - p)):=bs.head (enc:=encI) (sz:=1) (xs:=st) (fun _=>rfl) fr (st.length - p) (Nat.sub_le _ _);have cv:(st.take (st.length - p)).length=st.length - p:=by simp[List.length_take]
  refine dn (i_ ak (i_ ag (i_ bS cj))) ?_;refine K.tt (st.length - p) (by refine cd bS ?_;first | rfl | (congr 1;omega)) (by omega) ?_;refine aP ?_;refine K.zz (xs:=[]) (ys:=st.take (st.length - p)) rP eC (fun _=>rfl) qF (by rw[cv];simp only[List.length_nil];omega) (by rw[cv];simp only[List.length_nil,maxLen];omega) (by omega) fun v5 bT ng kC=>?_;have nf:Ext bb bT:=aM.grown kC fun q aD=>by simp[Value.ownBlock] at aD;omega
  rw[List.nil_append] at ng;have z35:=nf.size;refine aP ?_;refine K.lv (cs:=[(o.e7 s e[k] st).1].flatMap encI) (by simp[List.range,List.range.loop,eP,lay,fu,cu,Value.cells,encI]) fun bV fl gq a8 ct=>?_;have y9:=a8.size;have dL:=ng.ext a8;refine aP ?_;refine K.sB (xs:=st.take (st.length - p)) (ys:=[(o.e7 s e[k] st).1]) dL (fun _=>rfl) (hj ct) rfl qF (by rw[cv];simp only[List.length_cons,List.length_nil];omega) (by rw[cv];simp only[List.length_cons,List.length_nil,maxLen];omega) (by omega) fun By cc et j0=>?_;have bM:Ext av cc:=Ext.grown (((aA.trans ax).trans nf).trans a8) j0 fun q aD=>(dL.lt q aD).1;obtain⟨EY,xH,rfl,_⟩:=et.form;rw[iq] at et ⊢;by_cases g7:12<st.length - p+1
  .rw[if_pos (by omega)] at eA
   first
    | (exfalso;omega)
    | (refine aP ?_
       rw[o.kind,j2 (by rw[eA];simp),eA];exact⟨bk,aB.trans bM⟩)
  rw[if_neg (by omega)] at eA;refine dn cj ?_;refine⟨bp,bk,_,_,rfl,et,by rw[s7,eA],fun _=>by rw[iq];omega,by rw[iq];omega,bM⟩
 .have aK:=acY (s:=s) (st:=st) (x:=e[k]) (by omega) (by omega);obtain⟨lZ,rfl⟩:=ad.addr (by omega);refine dn (i_ ak (i_ ag (i_ bS cj))) ?_;refine K.dD (st.length - 2) (by omega) (by omega) ?_;refine dn (i_ ak (i_ ag (i_ bS cj))) ?_;refine K.dD (st.length - 1) (by omega) (by omega) ?_;refine dn (i_ ak (i_ ag (i_ bS cj))) ?_;refine K.gN _ (fun w' e'=>(aki e[k].op _ _ w' (It (by omega))).mono fun v b1 h=>⟨h.1,h.2 ▸ Ext.refl _⟩) ?_;rw[<-aK];refine dn (i_ ak (i_ ag (i_ bS cj))) ?_;intro bb ax;refine dn (i_ ak (i_ ag (i_ bS cj))) ?_;apply K.cond<;>intro g6;rotate_left
  .rw[if_pos g6] at eA;refine aP ?_;rw[o.kind,j2 (by rw[eA];exact g6),eA];exact cA
  rw[if_neg (by simpa using g6)] at eA;have fP:=gr.ext ax;refine dn (i_ ak (i_ ag (i_ bS cj))) ?_;refine K.lv (cs:=[]) (by simp[List.range,List.range.loop,eP]) fun bq cN fN aM bw=>?_;have z12:=aA.size;have z23:=ax.size;have BD:=aM.size;have rP:mf av.heap.size bq (.slice (some ⟨cN,0,none⟩) 0 0) []:=bs.empty (by omega) bw;have fr:=fP.ext aM;have eC:mf av.heap.size bq (.slice _ (st.length - p) _) (st.take (st.length - p)):=bs.head (enc:=encI) (sz:=1) (xs:=st) (fun _=>rfl) fr (st.length - p) (Nat.sub_le _ _);have cv:(st.take (st.length - p)).length=st.length - p:=by simp[List.length_take]
  refine dn (i_ ak (i_ ag (i_ bS cj))) ?_;refine K.tt (st.length - p) (by refine cd bS ?_;first | rfl | (congr 1;omega)) (by omega) ?_;refine aP ?_;refine K.zz (xs:=[]) (ys:=st.take (st.length - p)) rP eC (fun _=>rfl) qF (by rw[cv];simp only[List.length_nil];omega) (by rw[cv];simp only[List.length_nil,maxLen];omega) (by omega) fun v5 bT ng kC=>?_;have nf:Ext bb bT:=aM.grown kC fun q aD=>by simp[Value.ownBlock] at aD;omega
  rw[List.nil_append] at ng;have z35:=nf.size;refine aP ?_;refine K.lv (cs:=[(o.e7 s e[k] st).1].flatMap encI) (by simp[List.range,List.range.loop,eP,lay,fu,cu,Value.cells,encI]) fun bV fl gq a8 ct=>?_;have y9:=a8.size;have dL:=ng.ext a8;refine aP ?_;refine K.sB (xs:=st.take (st.length - p)) (ys:=[(o.e7 s e[k] st).1]) dL (fun _=>rfl) (hj ct) rfl qF (by rw[cv];simp only[List.length_cons,List.length_nil];omega) (by rw[cv];simp only[List.length_cons,List.length_nil,maxLen];omega) (by omega) fun By cc et j0=>?_;have bM:Ext av cc:=Ext.grown (((aA.trans ax).trans nf).trans a8) j0 fun q aD=>(dL.lt q aD).1;obtain⟨EY,xH,rfl,_⟩:=et.form;rw[iq] at et ⊢;by_cases g7:12<st.length - p+1
  .rw[if_pos (by omega)] at eA
   first
    | (exfalso;omega)
    | (refine aP ?_
       rw[o.kind,j2 (by rw[eA];simp),eA];exact⟨bk,aB.trans bM⟩)
  rw[if_neg (by omega)] at eA;refine dn cj ?_;refine⟨bp,bk,_,_,rfl,et,by rw[s7,eA],fun _=>by rw[iq];omega,by rw[iq];omega,bM⟩
end Go.Proofs.R
end