/- Parts. -/
import Derived.Test.YtakmdjclehkglaaGreatDoorQaph
set_option linter.all false
set_option maxRecDepth 8000
set_option maxHeartbeats 4000000
namespace Go.Proofs.R
open Go Go.RowKit a8
def aey(f:o.Node->C_ Int->Int×Int)(two:o.pU->C_ Int->Int×Int)(leaf:o.Node->C_ Int->Int×Int)(ay:Nq f two leaf)(cv:Int->Prop)
  (b:Nat)(w0 w:A_)(KJ:Ext w0 w)(rN:w0.heap.size<=b)(gP nF v2:B_)(e:C_ o.Node)(he:o.eS w0 gP e)(ak:w.heap[b]? = some (.cells #[.slice none 0 0,.map none] T.nL))
  (Ga:∀x st,x.ok->(∀z∈st,cv z)->0<=o.fO x.op->o.fO x.op<=st.length->(f x st).2=0->cv (f x st).1)
  (Rn:∀x st base m w',x.ok->Mod (λk=>k=b) w w'->rp base b w' m st->(∀z∈st,cv z)->0<=o.fO x.op->o.fO x.op<=st.length->o.hf x.op=none->∀w1 cL t,Ext w' w1 ->
   (∀bM,Ext w1 bM->cL (.tuple #[.I (leaf x st).1,.I (leaf x st).2]) bM)->BP Tryz.prog nF [.agg x.enc.toArray] w1 cL t)
  (R1:∀ae ei e6 l w' cL t,Mod (λk=>k=b) w w'->Er w' ae ei->(∃x,o.hf x=some ae)->ae.parts=l.length->Ints w' e6 l ->
   (∀bM,Ext w' bM->cL (.tuple #[.I (two ae l).1,.I (two ae l).2]) bM)->x0 Tryz.prog v2 [ei,e6] w' cL t) :
  Du F.wK #[.pointer (some ⟨b,0,none⟩),gP,nF,v2] w λv w' =>
   v = .tuple #[.I (o.mY f e).1,.I (o.mY f e).2]/\Mod (λk=>k=b) w w':=by
 obtain⟨aN,cap,rfl,hlen⟩:=he.form;refine bl E.wK ?_;refine aI ?_;apply I_<;>intro g1
 .refine aI ?_;rw[o.mY,if_pos Ad];exact⟨rfl,Mod.refl _ _⟩
 refine aI ?_;apply I_<;>intro g2
 .refine aI ?_;rw[o.mY,if_neg Ad,if_pos Ad];exact⟨rfl,Mod.refl _ _⟩
 refine aI ?_;refine J_ (aqv w) ?_;rintro m w1 ⟨Gm,ag⟩;refine aI ?_;refine _G (ag.obj ak) By (by obtain⟨r,_,_,_,e,_⟩:=Gm;rw[e];rfl) λaA qf ao=>?_;have FO:aA.heap[b]? = some (.cells #[.slice none 0 0,m] T.nL):=ao;clear ao;have ans:rq aA m:=Gm.mod (A:=λk=>k=b) (qf.mod rfl) λk ae h1 I hk=>by
  subst hk;rw[ag.obj ak] at h1;injection h1 with h1
  rcases I with ⟨es,c,I⟩ | ⟨cs,I⟩
  .rw[I] at h1;cases h1
  .rw[I] at h1;injection h1 with _ h1
   cases h1
 have aa7:Mod (λk=>k=b) w aA:=ag.mod.trans (qf.mod rfl);have cu:b<aA.heap.size:=cq FO;refine aI ?_;refine _h 27 e.length (λk S w'=>Mod (λk=>k=b) aA w'/\∃st,o.gm f (e.take k) []=(0,st)/\rp aA.heap.size b w' m st/\(0<k->1<=st.length)/\st.length<=12/\∀z∈st,cv z)
  (by simp -dsimp only[dg,cH,Nat.reduceAdd,Nat.reduceEqDiff,reduceIte,reduceCtorEq,dm]) ⟨Mod.refl _ _,[],by simp[o.gm],⟨⟨_,FO,aJ.nil _ _ _ _ _⟩,cu,EC _⟩,CC,CC,CC⟩ ?_
 rintro k S aM b5 hk pw ⟨w6,st,h7,AS,Fp,sA,tO⟩;have ad:=b5 0 rfl;have h1:=b5 1 rfl;have I:=b5 2 rfl;have ab:=b5 3 rfl;have u3:=b5 25 rfl;have mL:=b5 26 rfl;simp only[bD,Nat.reduceAdd,Nat.reduceEqDiff,reduceIte,km,nW] at ad h1 I ab u3 mL;clear b5;have Kt:Mod (λk=>k=b) w aM:=aa7.trans w6;refine eh (i_ ad (i_ h1 (i_ I (i_ ab (i_ u3 (i_ mL pw)))))) ?_;apply I_<;>intro g3
 .have a7:k<e.length:=Ad
  have avx:Ext w0 aM:=Kt.ext KJ λq au e=>Ad
  obtain⟨a,rfl⟩:=he.addr;have ny:=(he.at k a7).ok;have j8:=λad=>o.TP (f:=f) (e:=e) Ad a7 h7 ad;have Dm:=o.DQ a7 h7;have ant:rq aM m:=ans.mod (A:=λk=>k=b) w6 λk ae h1 I hk=>by
   subst hk;rw[FO] at h1;injection h1 with h1
   rcases I with ⟨es,c,I⟩ | ⟨cs,I⟩
   .rw[I] at h1;cases h1
   .rw[I] at h1;injection h1 with _ h1
    cases h1
  refine eh (i_ ad (i_ h1 (i_ I (i_ ab (i_ u3 (i_ mL pw)))))) ?_;generalize af:e[k]=x at *;refine _L (vs:=x.enc) (λ_=>by simp -dsimp only[dg,cH,Nat.reduceAdd,Nat.reduceEqDiff,reduceIte,reduceCtorEq,dm]) rfl rfl (by simp[o.Node.enc,Value.oneCell']) λaU c6 fT aq bo=>?_;refine eh (i_ ad (i_ h1 (i_ I (i_ ab (i_ u3 (i_ mL pw)))))) ?_;refine T_ (c:=x.enc) bo (Ext.refl _) rfl ?_;refine eh (i_ ad (i_ h1 (i_ I (i_ ab (i_ u3 (i_ mL pw)))))) ?_;have Rq:Mod (λk=>k=b) w aU:=Kt.trans aq.mod;refine J_ (atB f two leaf ay x aA.heap.size b aU m nF v2 st (AS.ext aq) (ant.ext aq) Ad
   (λc5 dA ea w' cL t GD hk=>Rn x st _ m aU ny Rq (AS.ext aq) tO c5 dA ea w' cL t GD hk)
   (λae ei e6 w' cL t GD c5 dA ea hg hk=>R1 ae ei e6 _ w' cL t (Rq.trans GD.mod) dA ⟨_,c5⟩ (by have:=S5 c5;simp[List.length_drop];omega) hg hk)) ?_
  rintro _ bh ⟨rfl,lQ,abD⟩;have am4:Mod (λk=>k=b) w bh:=Rq.then lQ λi U h=>by
   rcases h with h | h
   .exact h
   .have:=aa7.size;omega
  refine eh (i_ ad (i_ h1 (i_ I (i_ ab (i_ u3 (i_ mL pw)))))) ?_;apply I_<;>intro g4;rotate_left
  .refine eh (i_ ad (i_ h1 (i_ I (i_ ab (i_ u3 (i_ mL pw)))))) ?_;rw[j8 g4];exact⟨aK,am4⟩
  have Gh:=o.atA g4;have amI:∀z∈(o.stepG f x st).2,cv z:=by
   have aG:=Ga x st ny tO;clear j8 Dm Gh abD;unfold o.stepG at g4 ⊢;by_cases c5:o.fO x.op<0
   .rw[if_pos c5] at g4;cases g4
   by_cases dA:(st.length:Int)<o.fO x.op
   .rw[if_neg c5,if_pos dA] at g4;cases g4
   by_cases ea:(f x st).2≠0
   .rw[if_neg c5,if_neg dA,if_pos ea] at g4;exact absurd g4 ea
   by_cases hg:(st.take (st.length - (o.fO x.op).toNat)++[(f x st).1]).length > 12
   .rw[if_neg c5,if_neg dA,if_neg ea,if_pos hg] at g4;cases g4
   rw[if_neg c5,if_neg dA,if_neg ea,if_neg hg];intro z bA;rcases List.mem_append.1 bA with bA | bA
   .exact tO z (AJ9 bA)
   .simp at bA;subst bA;exact aG Ad Ad (by simpa using ea)
  refine eh (i_ ad (i_ h1 (i_ I (i_ ab (i_ u3 (i_ mL pw)))))) ?_;refine⟨a7,aK,?_,(o.stepG f x st).2,?_,abD g4,λ_=>Gh.1,Gh.2,amI⟩
  .refine(w6.trans aq.mod).then lQ λi U h=>?_;rcases h with h | h
   .exact h
   .omega
  .rw[Dm];exact Prod.ext g4 rfl
 .have a7:k=e.length:=Ad
  subst a7;rw[AE8] at h7;obtain⟨BB,cR,gx⟩:=AS.ex;obtain⟨iI,qI,rfl,FX,mi⟩:=gx.form;have U:Ints aM _ st:=aJ.jN (enc:=encI) (sz:=1) (λ_=>rfl) gx;have h1:=Fp Ad;obtain⟨a,rfl⟩:=U.addr h1;have de:o.mY f e=if st.length > 1 then (0,5) else (st.headD 0,0):=by
   rw[o.mY,if_neg Ad,if_neg Ad,h7,if_neg CC]
  rw[de];clear de;refine eh (i_ ad (i_ h1 (i_ I (i_ ab (i_ u3 (i_ mL pw)))))) ?_;apply I_<;>intro g4
  .refine aI ?_;rw[if_pos Ad];exact⟨rfl,Kt⟩
  .refine eh (i_ ad (i_ h1 (i_ I (i_ ab (i_ u3 (i_ mL pw)))))) ?_;refine K_ 0 rfl Ad ?_;refine aI ?_;rw[if_neg Ad]
   have:st.headD 0=st[0]:=by
    cases st with
    | nil=>simp at h1
    | cons z st=>rfl
   rw[this];exact⟨aK,Kt⟩
theorem aoO(ae:o.pU)(u e6:B_)(l:C_ Int)(w:A_)(aE:Ints w e6 l) :
  Du F.aH #[.agg #[.I ae.parts,.I ae.jQ,.I ae.makes,u],e6] w λv w'=>v = .tuple #[.I (o.o1 ae l).1,.I (o.o1 ae l).2]/\Ext w w':=by
 obtain⟨aN,cap,rfl,hlen⟩:=aE.form;refine bl E.aH ?_;refine aI ?_;refine O_ λw1 b ak ag al=>?_;refine aI ?_;refine _h 10 l.length (λk S w'=>w'=w1/\(l.take k).all (λk=>(decide (ae.jQ = -1)||decide (k=ae.jQ))&&decide (k=l.headD 0))=true) (by simp -dsimp only[dg,cH,Nat.reduceAdd,Nat.reduceEqDiff,reduceIte,reduceCtorEq,dm]) ⟨rfl,CC⟩ ?_;rintro k S aA b5 hk k1 ⟨rfl,dv⟩;have h1:=b5 1 rfl;have I:=b5 2 rfl;have dp:=b5 8 rfl;have ir:=b5 9 rfl;simp only[bD,Nat.reduceAdd,Nat.reduceEqDiff,reduceIte,km,nW] at h1 I dp ir;clear b5;refine eh (i_ h1 (i_ I (i_ dp (i_ ir k1)))) ?_;apply I_<;>intro g1;rotate_left
 .rw[MC Ad] at dv;refine eh (i_ h1 (i_ I (i_ dp (i_ ir k1)))) ?_;rw[o.o1,if_pos dv];exact ca
 have a7:k<l.length:=Ad
 obtain⟨a,rfl⟩:=aE.addr;have y6:l.take (k+1)=l.take k++[l[k]]:=Iu a7;have CW:=AI9 (xs:=l.take (k+1)) (ys:=l.drop (k+1)) (f:=λk=>(decide (ae.jQ = -1)||decide (k=ae.jQ))&&decide (k=l.headD 0));rw[AH4,y6,AI9] at CW;have ad:l.headD 0=l[0]:=by
  cases l with
  | nil=>simp at a7
  | cons z l=>rfl
 have Z8:((decide (ae.jQ = -1)||decide (l[k]=ae.jQ))&&decide (l[k]=l.headD 0))=false->o.o1 ae l=(0,9):=by
  intro h;rw[o.o1,if_neg (by rw[CW];simp only[List.all_cons,List.all_nil,h];simp)]
 have Ga:((decide (ae.jQ = -1)||decide (l[k]=ae.jQ))&&decide (l[k]=l.headD 0))=true->(l.take (k+1)).all (λk=>(decide (ae.jQ = -1)||decide (k=ae.jQ))&&decide (k=l.headD 0))=true:=by
  intro h;rw[y6,AI9,dv];simp only[List.all_cons,List.all_nil,h];rfl
 rw[ad] at Z8;clear CW;have ar:0<l.length:=Ad
 have pA:Ints aA (.slice (some a) l.length cap) l:=aE.ext ag;have C6:=Ga;rw[ad] at Ga dv
 (repeat' first
 | (refine I_ (λ_=>?_) (λ_=>?_)<;>try (exfalso;omega))
 | (refine N_ (λ_=>?_) (λ_=>?_))
 | assumption
 | exact Ext.refl _
 | refine Ext.trans ?_ Cd
 | refine Q_ Ad ?_
 | refine _K Cd ?_ rfl ?_
 | refine _E Cd ?_ rfl ?_
 | refine _N Cd ?_ Ad rfl ?_
 | refine _O Cd ?_ Ad rfl ?_
 | refine _P Cd ?_ Ad rfl ?_
 | refine _S Ad ?_
 | refine _Q (by first | assumption | omega) ?_
 | refine _R (by first | assumption | omega) ?_
 | refine _H Cd ?_
 | refine _I Cd ?_
 | simp -dsimp only[dg,cH,Nat.reduceAdd,Nat.reduceEqDiff,reduceIte,reduceCtorEq,dm,h1,I,dp,ir,k1])
 all_goals first
  | (have cR:=Z8 (by simp;omega);rw[cR];refine⟨aK,ag⟩)
  | (refine⟨Ad,aK,trivial,?_⟩;rw[ad];exact Ga (by simp;omega))
def aoE(x:o.Node)(cs:C_ B_)(s:o.Scope)(base b pm dx:Nat)(w:A_)(m:B_)(st:C_ Int)(Ui:F_)(af:x.ok)(h:o.gg w cs s)(hm:rp base b w m st)(ab:x.op=3->0<st.length)
  (xc:w.heap[pm]? = some (.cells #[.pointer (some ⟨b,0,none⟩)] Ui))(tR:w.heap[dx]? = some (.cells cs.toArray T.w)) :
  Du F.ej #[.agg x.enc.toArray,.pointer (some ⟨pm,0,none⟩),.pointer (some ⟨dx,0,none⟩)] w λv w' =>
   v = .tuple #[.I (o.jy x s (st.getLastD 0)).1,.I (o.jy x s (st.getLastD 0)).2]/\Ext w w':=by
 obtain⟨v0,v1,v2,v3,v4,rfl,_⟩:=h.ex;refine bl E.ej ?_;refine aI ?_;refine O_ λw1 bx cN ag al=>?_;have cK:w1.heap[bx]? = some (.cells x.enc.toArray T.e):=al;refine aI ?_;refine T_ (c:=x.enc) cK (Ext.refl _) rfl ?_;refine aI ?_;refine T_ tR ag rfl ?_;refine aI ?_;refine J_ (aoH x _ s base b w1 m st af (h.ext ag) (hm.ext ag) ab) ?_;rintro _ aA ⟨rfl,ai⟩;refine aI ?_;exact ca
def ajN(s:o.Scope):Nq (o.fX s) o.o1 λx st=>o.jy x s (st.getLastD 0):=λ_ _=>rfl
def acq(gP:B_)(e:C_ o.Node)(cs:C_ B_)(s:o.Scope)(w:A_)(he:o.eS w gP e)(h:o.gg w cs s) :
  Du F.I6 #[gP,.agg cs.toArray] w λv w'=>v = .tuple #[.I (o.kind e s).1,.I (o.kind e s).2]/\Ext w w':=by
 obtain⟨v0,v1,v2,v3,v4,rfl,_⟩:=h.ex;refine bl E.I6 ?_;refine aI ?_;refine O_ λw1 dx tR ag al=>?_;refine aI ?_;refine X_ (cs:=[.slice none 0 0,.map none]) (by simp[gC]) ?_;refine aI ?_;refine O_ λaA b ak ai ao=>?_;refine aI ?_;refine O_ λaM pm xc ah ba=>?_;refine aI ?_;refine _V ba By rfl λaU dQ bo=>?_;have QD:aU.heap[pm]? = some (.cells #[.pointer (some ⟨b,0,none⟩)] T.ts):=bo;have aq:Ext aA aU:=dQ.ext ah xc;have anD:=cq ao;have abu:=cq al;have AH:Ext w aU:=(ag.trans ai).trans aq;clear bo dQ ah ba;have fT:=aq.obj ao;have kN:=aq.obj (ai.obj al);have fQ:=ag.size;refine aI ?_;refine J_ (aey (o.fX s) o.o1 (λx st=>o.jy x s (st.getLastD 0)) (ajN s) (λ_=>True) b w aU AH Ad gP _ _ e he fT (λ_ _ _ _ _ _ _=>trivial) ?_ ?_) ?_
 .intro x st base m w' af hm AS _ c5 dA ea Ur cL t ix hk;refine V_ (first:=[]) (cap:=[.pointer (some ⟨pm,0,none⟩),.pointer (some ⟨dx,0,none⟩)]) Ci
   (aoE x _ s base b pm dx Ur m st _ af (h.ext ((hm.ext AH (by intro k hk e;omega)).trans ix)) (AS.ext ix) ?_ (ix.obj (hm.obj Ad QD)) (ix.obj (hm.obj Ad kN))) λv bM ⟨h1,I⟩=>by subst h1;exact hk bM I
  intro ab
  have:o.fO x.op=1:=by rw[ab];rfl
  omega
 .rintro ae ei e6 l w' cL t hm ⟨u,rfl,bb⟩ _ aE U hk;exact _d (first:=[]) (cap:=[]) Ci (aoO ae u e6 l w' U) λv bM ⟨h1,I⟩=>by subst h1;exact hk bM I
 rintro _ bh ⟨rfl,lQ⟩;have av:Ext w bh:=lQ.ext AH (by intro k hk e;omega);refine aI ?_;exact ca
end Go.Proofs.R
namespace o
open Go Go.RowKit a8
def Vp(v:B_):H_ (Var×Int)->Prop
 | some q=>v = .tuple #[.agg q.1.enc.toArray,.int .i64 q.2,.bool true]
 | none => ∃(x:Var) (k:Int),v = .tuple #[.agg x.enc.toArray,.int .i64 k,.bool false]
end o
namespace Go.Proofs.R
open Go Go.RowKit a8
def Yt(a b:Int)(cs:C_ B_)(s:o.Scope)(w:A_)(h:o.gg w cs s) :
  Du F.go #[.I a,.I b,.agg cs.toArray] w λv w'=>v = .tuple #[.I (o.l0 a b s).1,.bool (o.l0 a b s).2]/\Ext w w':=by
 obtain⟨a0,bz,db,c1,a2,c2,a3,bu,a4,bB,rfl,ad,h1,I,ab,aC,eu,dz,dJ,dR,ee⟩:=h.form;refine bl E.go ?_;refine aa ?_;intro w1 b ak ag al;refine aa ?_
 (repeat' (refine aI ?_;first | (refine I_ (λ_=>?_) (λ_=>?_)<;>try (exfalso;omega)) | refine N_ (λ_=>?_) (λ_=>?_)))<;>try refine aI ?_
 all_goals
  refine⟨?_,fR⟩;unfold o.l0
  (repeat' split)<;>first | rfl | (exfalso;omega)
def Yy(v:B_)(l:C_ o.Var)(n:Int)(cs:C_ B_)(s:o.Scope)(w:A_)(aE:o.hZ w v l)(h:o.gg w cs s) :
  Du F.EP #[v,.I n,.agg cs.toArray] w λv w'=>o.Vp v (o.declared l n s)/\Ext w w':=by
 obtain⟨v0,v1,v2,v3,v4,rfl,_⟩:=h.ex;obtain⟨aN,cap,rfl,hlen⟩:=aE.form;refine bl E.EP ?_;refine aa ?_;intro w1 bx cN ag al;refine aa ?_;intro aA bQ c7 ai ao;have he:=ag.trans ai;refine aa ?_;apply I_<;>intro g1
 .refine aa ?_;intro aM fE ba;refine aa ?_;rw[o.declared,o.hs (.inl g1)];exact⟨⟨(⟨⟨#[]⟩,0,0,0,0,0⟩:o.Var),0,rfl⟩,fE.ext he (by have:=ag.size;omega)⟩
 refine aa ?_;apply I_<;>intro g2
 .refine aa ?_;intro aM fE ba;refine aa ?_;rw[o.declared,o.hs (.inr Ad)];exact⟨⟨(⟨⟨#[]⟩,0,0,0,0,0⟩:o.Var),0,rfl⟩,fE.ext he (by have:=ag.size;omega)⟩
 obtain⟨i,rfl⟩:=Nb (show 0<=n by omega);have U:i<l.length:=Ad
 rw[o.declared,o.jd Ad Ad];simp only[Int.toNat_natCast];obtain⟨a,rfl⟩:=aE.addr;refine aa ?_;refine P_ _ (λw' e=>Yt _ _ _ s w' (h.ext (he.trans e))) ?_;refine aa ?_;intro aM ah;have ao:=ah.obj ao;refine aa ?_;intro aU dQ bo;refine aa ?_;refine⟨?_,dQ.ext (he.trans ah) (by have:=ag.size;omega)⟩;by_cases ak:(o.l0 l[i].scalar l[i].over s).2=true
 .rw[if_pos ak,ak];rfl
 .rw[if_neg ak,Bool.eq_false_iff.2 ak];exact⟨_,_,rfl⟩
def ahZ(n:Int)(cs:C_ B_)(s:o.Scope)(w:A_)(h:o.gg w cs s) :
  Du F.ER #[.I n,.agg cs.toArray] w λv w'=>v = .tuple #[.I ((o.channel n s).getD 0),.bool (o.channel n s).isSome]/\Ext w w':=by
 obtain⟨a0,bz,db,c1,a2,c2,a3,bu,a4,bB,rfl,ad,h1,I,ab,aC,eu,dz,dJ,dR,ee⟩:=h.form;refine bl E.ER ?_;refine aa ?_;intro w1 bx cN ag al;refine aa ?_;apply I_<;>intro g1
 .refine aa ?_;rw[o.channel,o.hs (.inl g1)];exact ca
 refine aa ?_;apply I_<;>intro g2
 .refine aa ?_;rw[o.channel,o.hs (.inr Ad)];exact ca
 obtain⟨i,rfl⟩:=Nb (show 0<=n by omega);have U:i<s.ax.length:=Ad
 rw[o.channel,o.jd Ad Ad];simp only[Int.toNat_natCast];obtain⟨a,rfl⟩:=I.addr;refine aa ?_;refine P_ _ (λw' e=>Yt _ _ _ s w' (h.ext (ag.trans e))) ?_;refine aa ?_;intro aA ai;refine aa ?_;refine⟨?_,fR⟩;by_cases ak:(o.l0 s.ax[i].scalar 0 s).2=true
 .rw[if_pos ak,ak];rfl
 .rw[if_neg ak,Bool.eq_false_iff.2 ak];rw[o.atM (Bool.eq_false_iff.2 ak)];rfl
def OQ(gP:B_)(e:C_ o.Node)(k:Int)(cs:C_ B_)(s:o.Scope)(w:A_)(aw:o.eS w gP e)(h:o.gg w cs s) :
  Du F.Jy #[gP,.I k,.agg cs.toArray] w λv w'=>v = .I (o.asked e k s)/\Ext w w':=by
 obtain⟨v0,v1,v2,v3,v4,rfl,_⟩:=h.ex;refine bl E.Jy ?_;refine aa ?_;intro w1 bx cN ag al;refine aa ?_;refine J_ (acq gP e _ s w1 (aw.ext ag) (h.ext ag)) ?_;rintro _ aA ⟨rfl,ai⟩;refine aa ?_;rw[o.asked];apply I_<;>intro g1
 .rw[if_neg (by simpa using g1)];refine aa ?_;apply I_<;>intro g2
  .refine aa ?_;rw[if_neg (by simpa using g2)];exact ca
  refine aa ?_;rw[if_pos g2];exact ca
 refine aa ?_;rw[if_pos g1];exact ca
def Ud(a:o.Act)(bK bY:B_)(w:A_):Du F.Jz #[.agg (a.enc bK bY).toArray] w λv w'=>v = .bool (o.ib a)/\Ext w w':=by
 refine bl E.Jz ?_;refine aa ?_;intro w1 bx cN ag al;refine aa ?_;rw[o.ib];apply I_<;>intro g1
 .refine aa ?_;refine⟨?_,fR⟩;congr 1;simp[g1]
 refine aa ?_;refine⟨?_,fR⟩;congr 1;simp[g1]
theorem ar3(a:o.Act)(bK bY:B_)(k:Int)(cs:C_ B_)(s:o.Scope)(w:A_)(h:o.gg w cs s) :
  Du F.jr #[.agg (a.enc bK bY).toArray,.I k,.agg cs.toArray] w λv w'=>v = .I (o.Hl a k s)/\Ext w w':=by
 obtain⟨v0,v1,v2,v3,v4,rfl,ad,h1,I,ab,aC,_⟩:=h.ex;refine bl E.jr ?_;refine aa ?_;intro w1 bx cN ag al;refine aa ?_;intro aA bQ c7 ai ao;have he:=ag.trans ai;refine aa ?_;refine J_ (Yy v4 s.locals a.loc _ s aA (aC.ext he) (h.ext he)) ?_;rintro q aM ⟨au,ah⟩;rw[o.Hl];cases bb:o.declared s.locals a.loc s with
 | none =>
  rw[bb] at au;obtain⟨x,k',rfl⟩:=au;refine aa ?_;intro aU c6 fT aq bo;refine aa ?_;exact ca
 | some q =>
  obtain⟨x,k'⟩:=q;rw[bb] at au;subst au;refine aa ?_;intro aU c6 fT aq bo;refine aa ?_;apply I_<;>intro g1
  .refine aa ?_;apply I_<;>intro g2
   .refine aa ?_;simp only[g1,g2,ne_eq,not_true_eq_false,or_self,if_false];exact ca
   refine aa ?_;simp only[g2,ne_eq,not_false_eq_true,or_true,if_true];exact ca
  refine aa ?_;simp only[g1,ne_eq,not_false_eq_true,true_or,if_true];exact ca
end Go.Proofs.R
namespace o
open Go Go.RowKit a8
def OJ{s:Scope}{l:C_ Act}{k:Nat}{t:Bool}(h:k<l.length) :
  lg s (l.drop k) k t=if ib l[k]&&t then (2+(k:Int),7) else if kX l[k] s≠0 then (2+(k:Int),kX l[k] s) else lg s (l.drop (k+1)) (k+1) (t||ib l[k]):=by
 rw[AF0 h];rfl
end o
namespace Go.Proofs.R
open Go Go.RowKit a8
def OF(k:Int)(a:o.Act)(bK bY:B_)(cs:C_ B_)(s:o.Scope)(w:A_)(bx bQ:Nat)(cN:w.heap[bx]? = some (.cells (a.enc bK bY).toArray T.y))(c7:w.heap[bQ]? = some (.cells cs.toArray T.w))
  (aF:o.eS w bY a.value)(h:o.gg w cs s) :
  Du F.ge #[.I k,.pointer (some ⟨bx,0,none⟩),.pointer (some ⟨bQ,0,none⟩)] w λv w'=>v = .I (o.asked a.value k s)/\Ext w w':=by
 obtain⟨v0,v1,v2,v3,v4,rfl,_⟩:=h.ex;refine bl E.ge ?_;refine aa ?_;refine J_ (OQ bY a.value k _ s w aF h) ?_;rintro _ aA ⟨rfl,ai⟩;refine aa ?_;exact ca
def agv(a:o.Act)(bK bY:B_)(cs:C_ B_)(s:o.Scope)(w:A_)(U:o.eS w bK a.index)(aF:o.eS w bY a.value)(h:o.gg w cs s) :
  Du F.JA #[.agg (a.enc bK bY).toArray,.agg cs.toArray] w λv w'=>v = .I (o.kX a s)/\Ext w w':=by
 obtain⟨v0,v1,v2,v3,v4,rfl,ad,h1,I,ab,aC,eu⟩:=h.ex;refine bl E.JA ?_;refine aa ?_;intro w1 bx cN ag al;refine aa ?_;intro aA bQ c7 ai ao;have he:=ag.trans ai;have al:=ai.obj al;by_cases q:a.kind=1\/a.kind=2\/a.kind=3
 .rw[o.kX,if_pos q];generalize ch:(if a.kind=3 then s.locals else s.vars)=L;have qS:∀nF n,nF=(if a.kind=3 then v4 else v1)->Du F.EP #[nF,.I n,.agg #[v0,v1,v2,v3,v4,.I s.self]] aA λv w'=>o.Vp v (o.declared L n s)/\Ext aA w':=by
   rintro nF n rfl;refine Yy _ L n _ s aA ?_ (h.ext he);rw[<-ch];split
   .exact aC.ext he
   .exact h1.ext he
  by_cases r5:a.kind=2
  .refine aa ?_;refine J_ (qS _ _ (by simp[r5])) ?_;rintro u aM ⟨au,ah⟩;have al:=ah.obj al;have ao:=ah.obj ao;have wY:=he.trans ah;cases bb:o.declared L a.to s with
   | none =>
    rw[bb] at au;obtain⟨x,k',rfl⟩:=au;refine aa ?_;intro aU c6 fT aq bo;refine aa ?_;exact ca
   | some u =>
    obtain⟨x,k'⟩:=u;rw[bb] at au;subst au;have anv:=o.aiy bb;simp only at anv;refine aa ?_;intro aU c6 fT aq bo;have al:=aq.obj al;have ao:=aq.obj ao;have qT:=wY.trans aq;refine aa ?_;refine _7 Ci ?_;refine aa ?_;by_cases dA:x.over=0
    .refine _H (by simp[r5,dA]) ?_;refine aa ?_;exact⟨by simp[r5,dA],fR⟩
    refine _I (by simp[r5,dA]) ?_;refine aa ?_;refine J_ (OQ bK a.index _ _ s aU (U.ext qT) (h.ext qT)) ?_;rintro _ bh ⟨rfl,av⟩;have al:=av.obj al;have ao:=av.obj ao;have Kg:=qT.trans av;refine aa ?_;refine I_ (λea=>?_) (λea=>?_)
    .refine aa ?_;refine V_ (first:=[]) (cap:=[_,_]) Ci (OF k' a bK bY _ s bh bx bQ al ao (aF.ext Kg) (h.ext Kg)) ?_;rintro _ bq ⟨rfl,aD⟩;refine aa ?_;exact⟨by simp[r5,dA,ea],fR⟩
    .refine aa ?_;exact⟨by simp[r5,dA,ea],fR⟩
  have uo:a.kind=1\/a.kind=3:=Ad
  clear q;rcases uo with q | q
  all_goals
   refine aa ?_;refine J_ (qS _ _ (by simp[q])) ?_;rintro u aM ⟨au,ah⟩;have al:=ah.obj al;have ao:=ah.obj ao;have wY:=he.trans ah;cases bb:o.declared L a.to s with
   | none =>
    rw[bb] at au;obtain⟨x,k',rfl⟩:=au;refine aa ?_;intro aU c6 fT aq bo;refine aa ?_;exact ca
   | some u =>
    obtain⟨x,k'⟩:=u;rw[bb] at au;subst au;refine aa ?_;intro aU c6 fT aq bo;have al:=aq.obj al;have ao:=aq.obj ao;have qT:=wY.trans aq;refine aa ?_;refine _7 Ci ?_;refine aa ?_;by_cases dA:x.over=0
    .refine _I (by simp[q,dA]) ?_;refine aa ?_;refine V_ (first:=[]) (cap:=[_,_]) Ci (OF k' a bK bY _ s aU bx bQ al ao (aF.ext qT) (h.ext qT)) ?_;rintro _ bq ⟨rfl,aD⟩;refine aa ?_;exact⟨by simp[q,dA],fR⟩
    .refine _H (by simp[q,dA]) ?_;refine aa ?_;exact⟨by simp[q,dA],fR⟩
 by_cases hg:a.kind=4\/a.kind=5
 .rw[o.kX,if_neg q,if_pos hg];have Tq:a.kind≠3:=Ad
  have DI:a.kind≠1:=Ad
  have Tr:a.kind≠2:=Ad
  have step:∀(w':A_),Ext aA w'->Du F.ER #[.I a.to,.agg #[v0,v1,v2,v3,v4,.I s.self]] w' λv bM=>v = .tuple #[.I ((o.channel a.to s).getD 0),.bool (o.channel a.to s).isSome]/\Ext w' bM :=
   λw' e=>ahZ a.to _ s w' (h.ext (he.trans e))
  rcases hg with hg | hg
  .refine aa ?_;refine J_ (step aA (Ext.refl _)) ?_;rintro _ aM ⟨rfl,ah⟩;have al:=ah.obj al;have ao:=ah.obj ao;have wY:=he.trans ah;cases bb:o.channel a.to s with
   | none =>
    simp only[Option.isSome_none,Option.getD_none];refine aa ?_;exact ca
   | some k =>
    simp only[Option.isSome_some,Option.getD_some];refine aa ?_;refine V_ (first:=[]) (cap:=[_,_]) Ci (OF k a bK bY _ s aM bx bQ al ao (aF.ext wY) (h.ext wY)) ?_;rintro _ bq ⟨rfl,aD⟩;refine aa ?_;exact⟨by simp[hg],fR⟩
  .refine aa ?_;refine J_ (step aA (Ext.refl _)) ?_;rintro _ aM ⟨rfl,ah⟩;have al:=ah.obj al;have ao:=ah.obj ao;have wY:=he.trans ah;cases bb:o.channel a.to s with
   | none =>
    simp only[Option.isSome_none,Option.getD_none];refine aa ?_;exact ca
   | some k =>
    simp only[Option.isSome_some,Option.getD_some];refine aa ?_;refine J_ (ar3 a bK bY k _ s aM (h.ext wY)) ?_;rintro _ bq ⟨rfl,aD⟩;refine aa ?_;exact⟨by simp[hg],fR⟩
 rw[o.kX,if_neg q,if_neg hg];have Tq:a.kind≠3:=Ad
 have DI:a.kind≠1:=Ad
 have Tr:a.kind≠2:=Ad
 have adL:a.kind≠4:=Ad
 have axy:a.kind≠5:=Ad
 refine aa ?_;exact ca
end Go.Proofs.R
namespace o
open Go
def amv{c:dI}{n:Int}(h:head c n=0):isName c.name=true/\0<=c.from_/\c.from_<n/\0<=c.to/\c.to<n/\c.bP.length<=6:=by
 unfold head at h;by_cases h1:isName c.name=false
 .rw[if_pos h1] at h;cases h
 rw[if_neg h1] at h;by_cases I:c.from_<0\/n<=c.from_\/c.to<0\/n<=c.to
 .rw[if_pos I] at h;cases h
 rw[if_neg I] at h;by_cases ab:c.bP.length > 6
 .rw[if_pos ab] at h;cases h
 exact⟨by simpa using h1,Ad,Ad,Ad,Ad,Ad⟩
end o
namespace o
open Go Go.RowKit a8
def ain{l:C_ Act}{k:Nat}(h:k<l.length):comm (l.drop k)=if ib l[k] then (l[k].kind,l[k].to) else comm (l.drop (k+1)):=by
 rw[AF0 h];rfl
end o
namespace Go.Proofs.R
open Go Go.RowKit a8
def aaI(n:Int)(p:o.dt)(qk r4:B_)(w:A_)(b:Nat)(ak:w.heap[b]? = some (.cells (p.enc qk r4).toArray T.k)) :
  Du F.JC #[.I n,.pointer (some ⟨b,0,none⟩)] w λv w'=>v = .bool (decide (n<0\/p.cm<=n))/\w'=w:=by
 refine bl E.JC ?_;refine aa ?_;apply I_<;>intro g1
 .refine aa ?_;exact⟨by simp[g1],aK⟩
 refine aa ?_;exact⟨by simp[g1],aK⟩
def amw(c:o.dI)(fi va:B_)(p:o.dt)(qk r4:B_)(w:A_)(aQ:gJ w)(aw:o.jP c.name)(aY:o.mv w va c.bP) :
  Du F.Jx #[.agg (c.enc fi va).toArray,.agg (p.enc qk r4).toArray] w λv w'=>v = .I (o.head c p.cm)/\Ext w w':=by
 obtain⟨aN,cap,rfl,hlen⟩:=aY.form;refine bl E.Jx ?_;refine aa ?_;intro w1 bx cN ag al;refine aa ?_;intro aA bQ c7 ai ao;have he:=ag.trans ai;have al:=ai.obj al;refine aa ?_;refine J_ (ME c.name aA (aQ.ext he) aw) ?_;rintro _ aM ⟨rfl,ah⟩;have al:=ah.obj al;have ao:=ah.obj ao;have wY:=he.trans ah;rw[o.head];refine aa ?_;refine N_ (λg1=>?_) (λg1=>?_);rotate_left
 .refine aa ?_;exact⟨by simp[g1],fR⟩
 refine aa ?_;refine V_ (first:=[]) (cap:=[_]) Ci (aaI c.from_ p qk r4 aM bQ ao) ?_;rintro _ _ ⟨rfl,rfl⟩;refine aa ?_;apply I_<;>intro g2
 .refine aa ?_;refine⟨?_,fR⟩;rw[if_neg (by simp[g1]),if_pos Ad]
 refine aa ?_;refine V_ (first:=[]) (cap:=[_]) Ci (aaI c.to p qk r4 _ bQ ao) ?_;rintro _ _ ⟨rfl,rfl⟩;refine aa ?_;apply I_<;>intro g3
 .refine aa ?_;refine⟨?_,fR⟩;rw[if_neg (by simp[g1]),if_pos Ad]
 refine aa ?_;apply I_<;>intro g4
 .refine aa ?_;refine⟨?_,fR⟩;rw[if_neg (by simp[g1]),if_neg Ad,if_pos Ad]
 .refine aa ?_;refine⟨?_,fR⟩;rw[if_neg (by simp[g1]),if_neg Ad,if_neg Ad]
def Yk(c:o.dI)(fi va:B_)(w:A_)(aY:o.mv w va c.bP) :
  Du F.fW #[.agg (c.enc fi va).toArray] w λv w'=>v = .tuple #[.I (o.comm c.bP).1,.I (o.comm c.bP).2]/\Ext w w':=by
 obtain⟨aN,cap,rfl,hlen⟩:=aY.form;refine bl E.fW ?_;refine aa ?_;intro w1 bx cN ag al;refine aa ?_;refine L_ 9 c.bP.length [7,8] (λ_=>[]) () (λk _ w'=>Ext w w'/\o.comm c.bP=o.comm (c.bP.drop k)) a6 a6 ⟨ag,CC⟩ ?_;rintro k _ S aA hk ⟨ai,aP⟩;refine aa ?_;apply I_<;>intro g1
 .have a7:k<c.bP.length:=Ad
  obtain⟨a,rfl⟩:=aY.addr;obtain⟨bK,bY,gM,dP,r0⟩:=aY.at k a7;obtain⟨_,_,rfl,_⟩:=dP.form;obtain⟨_,_,rfl,_⟩:=r0.form;rw[o.ain a7] at aP;refine aa ?_
  try (refine Z_ (gM.ext ai) rfl ?_;refine aa ?_)
  intro aM bW eX ah ba;refine aa ?_;refine J_ (Ud c.bP[k] _ _ aM) ?_;rintro _ aU ⟨rfl,aq⟩;refine aa ?_;refine N_ (λg2=>?_) (λg2=>?_)
  .refine aa ?_;intro bh av;refine aa ?_;rw[aP,if_pos g2];exact ca
  refine aa ?_;rw[if_neg (by simp[g2])] at aP;exact⟨a7,aK,(),by trivial,fR,aP⟩
 .refine aa ?_;rw[aP,AE9 Ad];exact ca
def aia(c:o.dI)(fi va:B_)(p:o.dt)(qk r4:B_)(cs:C_ B_)(s:o.Scope)(w:A_)(aQ:gJ w)(aw:o.jP c.name)(aG:o.eS w fi c.guard)(aY:o.mv w va c.bP)
  (aF:o.hZ w qk p.vars)(an:o.sg w r4 p.c0)(h:o.gg w cs s) :
  Du F.ex #[.agg (c.enc fi va).toArray,.agg (p.enc qk r4).toArray,.agg cs.toArray] w λv w' =>
   v = .tuple #[.I (o.j0 c p.cm s).1,.I (o.j0 c p.cm s).2]/\Ext w w':=by
 obtain⟨a0,bz,db,c1,a2,c2,a3,bu,a4,bB,rfl,_⟩:=h.form;obtain⟨aN,cap,rfl,hlen⟩:=aY.form;obtain⟨fA,ahv,rfl,am1⟩:=aG.form;obtain⟨_,_,rfl,_⟩:=aF.form;obtain⟨_,_,rfl,_⟩:=an.form;refine bl E.ex ?_;refine aa ?_;intro w1 bx cN ag al;refine aa ?_;intro aA bQ c7 ai ao;refine aa ?_;intro aM bW eX ah ba;have he:=(ag.trans ai).trans ah;have al:=(ai.trans ah).obj al;have ao:=ah.obj ao;refine aa ?_;refine J_ (amw c _ _ p _ _ aM (aQ.ext he) aw (aY.ext he)) ?_;rintro _ aU ⟨rfl,aq⟩;have al:=aq.obj al;have ba:=aq.obj ba;have qT:=he.trans aq;rw[o.j0];refine aa ?_;apply I_<;>intro g1;rotate_left
 .refine aa ?_;exact⟨by simp[g1],fR⟩
 rw[if_neg (by simpa using g1)];have bJ:=(o.amv g1).2.2.2.2.2;refine dS ?_;refine R_ [3,4,5] (λ_=>[]) (λ(_:Unit) w'=>Ext aU w'/\¬(c.guard.length > 0/\o.asked c.guard 1 s≠0)) ?_ ?_
 .refine aa ?_;apply I_<;>intro g2
  .refine aa ?_;refine J_ (OQ _ c.guard 1 _ s aU (aG.ext qT) (h.ext qT)) ?_;rintro _ bh ⟨rfl,av⟩;refine aa ?_;apply I_<;>intro g3
   .refine aa ?_;exact⟨(),trivial,fR,λcR=>cR.2 g3⟩
   .refine aa ?_;rw[if_pos ⟨Ad,g3⟩];exact ca
  .refine aa ?_;exact⟨(),trivial,fR,λcR=>g2 Ad⟩
 rintro _ S bh ⟨av,tO⟩;have al:=av.obj al;have ba:=av.obj ba;have Kg:=qT.trans av;rw[if_neg tO];refine aa ?_;refine L_ 34 c.bP.length [3,4,5,32,33] (λb=>[(10,.bool b)]) false (λk b w'=>Ext bh w'/\o.lg s c.bP 0 false=o.lg s (c.bP.drop k) k b) a6 a6 ⟨Ext.refl _,CC⟩ ?_;rintro k b S bq hk ⟨aD,aP⟩;have wZ:=Kg.trans aD;refine aa ?_;apply I_<;>intro g1
 .have a7:k<c.bP.length:=Ad
  obtain⟨a,rfl⟩:=aY.addr;obtain⟨bK,bY,gM,dP,r0⟩:=aY.at k a7;obtain⟨_,_,rfl,_⟩:=dP.form;obtain⟨_,_,rfl,_⟩:=r0.form;rw[o.OJ a7] at aP;refine aa ?_;intro bH h2 gZ bc bZ;refine dS ?_;intro cB ja cD;have w3:=ja.ext bc gZ;have Ki:=wZ.trans w3;have ba:=(aD.trans w3).obj ba;refine dS ?_;refine R_ [3,5,10,11,12,32,33,34] (λ_=>[]) (λ(_:Unit) w'=>Ext cB w'/\¬(o.ib c.bP[k]&&b)=true) ?_ ?_
  .refine aa ?_;refine J_ (Ud c.bP[k] _ _ cB) ?_;rintro _ cG ⟨rfl,b2⟩;refine aa ?_;refine N_ (λg2=>?_) (λg2=>?_)
   .refine aa ?_;refine N_ (λg3=>?_) (λg3=>?_)
    .refine aa ?_;rw[aP,if_pos (by simp[g2,g3])];exact ca
    .refine aa ?_;exact⟨(),trivial,fR,by simp[g3]⟩
   .refine aa ?_;exact⟨(),trivial,fR,by simp[g2]⟩
  rintro _ S cG ⟨b2,g2⟩;rw[if_neg g2] at aP;have cD:=b2.obj cD;have ba:=b2.obj ba;refine dS ?_;refine R_ [3,5,11,12,32,33,34] (λu=>[(10,.bool u)]) (λu w'=>Ext cG w'/\u=(b||o.ib c.bP[k])) ?_ ?_
  .refine aa ?_;refine N_ (λg3=>?_) (λg3=>?_)
   .refine aa ?_;exact⟨true,a6,fR,by simp[g3]⟩
   .refine aa ?_;refine J_ (Ud c.bP[k] _ _ cG) ?_;rintro _ ew ⟨rfl,cj⟩;refine aa ?_;exact⟨o.ib c.bP[k],a6,fR,by simp[g3]⟩
  rintro _ S ew ⟨cj,rfl⟩;have cD:=cj.obj cD;have ba:=cj.obj ba;have QZ:=(Ki.trans b2).trans cj;have awa:=((aD.trans w3).trans b2).trans cj;refine aa ?_;refine J_ (agv c.bP[k] _ _ _ s ew (dP.ext QZ) (r0.ext QZ) (h.ext QZ)) ?_;rintro _ fB ⟨rfl,ek⟩;refine aa ?_;apply I_<;>intro g3
  .refine aa ?_;rw[if_neg (by simpa using g3)] at aP;exact⟨a7,aK,_,a6,fR,aP⟩
  .refine aa ?_;rw[aP,if_pos g3];exact ca
 .refine aa ?_;rw[aP,AE9 Ad];exact ca
def auv(c:o.dI)(fi va dV:B_)(l:C_ o.dZ)(w:A_)(aY:o.mv w va c.bP)(aE:o.nH w dV l) :
  Du F.d4 #[.agg (c.enc fi va).toArray,dV] w λv w'=>v = .I (o.ways c l)/\Ext w w':=by
 obtain⟨aN,cap,rfl,hlen⟩:=aE.form;obtain⟨axo,Cj,rfl,Ks⟩:=aY.form;refine bl E.d4 ?_;refine aa ?_;intro w1 bx cN ag al;refine aa ?_;refine J_ (Yk c fi _ w1 (aY.ext ag)) ?_;rintro _ aA ⟨rfl,ai⟩;rw[o.ways];refine aa ?_;apply I_<;>intro g1;rotate_left
 .refine aa ?_;exact⟨by simp[g1],fR⟩
 rw[if_pos g1];refine aa ?_;apply I_<;>intro g2;rotate_left
 .refine aa ?_;rw[o.hs (.inl Ad)];exact ca
 refine aa ?_;apply I_<;>intro g3;rotate_left
 .refine aa ?_;rw[o.hs (.inr Ad)];exact ca
 rw[o.jd Ad Ad];obtain⟨a,rfl⟩:=aE.addr;have U:(o.comm c.bP).2.toNat<l.length:=Ad
 refine aa ?_;refine K_ (o.comm c.bP).2.toNat Ad U ?_;refine aa ?_;refine N_ (λg4=>?_) (λg4=>?_)
 .refine aa ?_;exact⟨by simp[g4],fR⟩
 .refine aa ?_;exact⟨by simp[g4],fR⟩
end Go.Proofs.R
namespace o
def acP{s:Scope}{l:C_ Var}{k:Nat}(h:k<l.length):q7 s (l.drop k) k=if l[k].over≠0 then ((k:Int),9) else if s.vars.any (λx=>decide (x.name=l[k].name)) then ((k:Int),7) else q7 s (l.drop (k+1)) (k+1):=by
 rw[AF0 h];rfl
def Yi{own:Scope}{cm:Int}{all l:C_ dI}{k:Nat}(h:k<l.length):l9 own cm all (l.drop k) k=if (j0 l[k] cm own).2≠0 then (2+(k:Int),(j0 l[k] cm own).1,(j0 l[k] cm own).2)
  else if (all.take k).any (λx=>decide (x.name=l[k].name)) then (2+(k:Int),0,7) else l9 own cm all (l.drop (k+1)) (k+1):=by
 rw[AF0 h];rfl
end o
namespace Go.Proofs.R
open Go Go.RowKit a8
def auz(p:o.dt)(bV b1:H_ Addr)(o5 bu bB:Nat)(cs:C_ B_)(s:o.Scope)(w:A_)(aQ:gJ w)(aw:o.jP p.name)(h:o.gg w cs s) :
  Du F.Jn #[.agg (p.enc (.slice bV o5 bu) (.slice b1 p.c0.length bB)).toArray,.agg cs.toArray] w λv w'=>v = .I (o.whole p s)/\Ext w w':=by
 obtain⟨a0,bz,db,c1,a2,c2,a3,d3,a4,d4,rfl,ad,h1,I,ab,aC,eu,dz,dJ,dR,ee⟩:=h.form;refine bl E.Jn ?_;refine aa ?_;intro w1 bx cN ag al;refine aa ?_;intro aA bQ c7 ai ao;have df:∀{w'},Ext aA w'->Ext w w':=λe=>(ag.trans ai).trans e;have al:=ai.obj al;refine aa ?_;refine J_ (ME p.name aA (aQ.ext (df (Ext.refl _))) aw) ?_;rintro _ aM ⟨rfl,ah⟩;have al:=ah.obj al;have ao:=ah.obj ao;rw[o.whole];refine aa ?_;refine N_ (λg1=>?_) (λg1=>?_);rotate_left
 .refine aa ?_;exact⟨by rw[if_pos g1],df ah⟩
 rw[if_neg (by simp[g1])];refine aa ?_;apply I_<;>intro g2
 .refine aa ?_;exact⟨by rw[if_pos (.inl g2)],df ah⟩
 refine aa ?_;apply I_<;>intro g3
 .refine aa ?_;exact⟨by rw[if_pos (.inr Ad)],df ah⟩
 rw[if_neg Ad];refine aa ?_;apply I_<;>intro g4
 .refine aa ?_;exact⟨by rw[if_pos (.inl g4)],df ah⟩
 refine aa ?_;apply I_<;>intro g5
 .refine aa ?_;exact⟨by rw[if_pos (.inr Ad)],df ah⟩
 rw[if_neg Ad];refine aa ?_;apply I_<;>intro g6
 .refine aa ?_;exact⟨by rw[if_pos Ad],df ah⟩
 refine aa ?_;exact⟨by rw[if_neg Ad],df ah⟩
def apk(x v:o.Var)(b:Nat)(w:A_)(an:w.heap[b]? = some (.cells v.enc.toArray T.l)) :
  Du F.EO #[.agg x.enc.toArray,.pointer (some ⟨b,0,none⟩)] w λu w'=>u = .bool (decide (x.name=v.name))/\Ext w w':=by
 refine bl E.EO ?_;refine aa ?_;intro w1 bx cN ag al;refine aa ?_;exact ca
def ah9(x c:o.dI)(bO bT bV b1:H_ Addr)(kQ ka o5 ud c1 c2 bu bB:Nat)(b:Nat)(w:A_)(an:w.heap[b]? = some (.cells (c.enc (.slice bV o5 bu) (.slice b1 ud bB)).toArray T.q)) :
  Du F.gI #[.agg (x.enc (.slice bO kQ c1) (.slice bT ka c2)).toArray,.pointer (some ⟨b,0,none⟩)] w λu w'=>u = .bool (decide (x.name=c.name))/\Ext w w':=by
 refine bl E.gI ?_;refine aa ?_;intro w1 bx cN ag al;refine aa ?_;exact ca
def apl(p:o.dt)(bV b1:H_ Addr)(bu ud bB:Nat)(cs:C_ B_)(s:o.Scope)(w:A_)(aQ:gJ w)(aF:o.hZ w (.slice bV p.vars.length bu) p.vars)(h:o.gg w cs s) :
  Du F.bp #[.agg (p.enc (.slice bV p.vars.length bu) (.slice b1 ud bB)).toArray,.agg cs.toArray] w λv w'=>v = .tuple #[.I (o.lW p s).1,.I (o.lW p s).2]/\Ext w w':=by
 obtain⟨a0,bz,db,c1,a2,c2,a3,d3,a4,d4,rfl,ad,h1,I,ab,aC,eu,dz,dJ,dR,ee⟩:=h.form;have e6:p.vars.length<=9223372036854775807:=by have:=(bm.len aF).2;unfold maxLen at this;omega
 refine bl E.bp ?_;refine aa ?_;intro w1 bx cN ag al;refine aa ?_;intro aA bQ c7 ai ao;have df:∀{w'},Ext aA w'->Ext w w':=λe=>(ag.trans ai).trans e;have al:=ai.obj al;refine aa ?_;refine J_ (afr _ _ p.vars s.scalars 4 aA (aQ.ext (df (Ext.refl _))) (aF.ext (df (Ext.refl _))) (ad.ext (df (Ext.refl _)))) ?_;rintro _ aM ⟨rfl,ah⟩;have al:=ah.obj al;have ao:=ah.obj ao;rw[o.lW];refine aa ?_;apply I_<;>intro g1;rotate_left
 .refine aa ?_;exact⟨by rw[if_pos g1],df ah⟩
 rw[if_neg (by simpa using g1)];have fr:∀{w'},Ext aM w'->Ext w w':=λe=>df (ah.trans e);refine aa ?_;refine L_ 25 p.vars.length [3,23,24] (λ_=>[]) () (λk _ w'=>Ext aM w'/\o.q7 s p.vars 0=o.q7 s (p.vars.drop k) k) a6 a6 ⟨Ext.refl _,CC⟩ ?_;rintro k _ S aU hk ⟨aq,aP⟩;refine aa ?_;apply I_<;>intro g2
 .have a7:k<p.vars.length:=Ad
  obtain⟨a,rfl⟩:=aF.addr;replace aF:=aF.ext (fr (Ext.refl _));rw[o.acP a7] at aP;refine aa ?_;intro D8 b9 lN n1 p8;refine aa ?_;intro bh eY bI;have av:=eY.ext n1 lN;refine aa ?_;apply I_<;>intro g3;rotate_left
  .refine aa ?_;exact⟨by rw[aP,if_pos g3],fr (aq.trans av)⟩
  rw[if_neg (by simpa using g3)] at aP;refine aa ?_;refine J_ (Ys lR E.g7 E.g4 _ s.vars bh (h1.ext (fr (aq.trans av))) F.EO Ci [] [_] (λx=>decide (x.name=p.vars[k].name)) ?_) ?_
  .rintro i U jm w' e ⟨rfl,_⟩;exact apk _ _ b9 w' (e.obj bI)
  rintro _ bq ⟨rfl,aD⟩;refine aa ?_;refine N_ (λg4=>?_) (λg4=>?_)
  .refine aa ?_;exact⟨by rw[aP,if_pos g4],fr ((aq.trans av).trans aD)⟩
  .refine aa ?_;exact⟨a7,aK,(),trivial,(aq.trans av).trans aD,by rw[aP,if_neg (by simp[g4])]⟩
 .refine aa ?_;exact⟨by rw[aP,AE9 Ad];rfl,fr aq⟩
def aqW(p:o.dt)(G9 cs:C_ B_)(s:o.Scope)(w:A_)(aQ:gJ w)(ar:o.yc w G9 p)(h:o.gg w cs s)(aG:s.cv)(pD:p.cv) :
  Du F.I3 #[.agg G9.toArray,.agg cs.toArray] w λv w'=>v = .tuple #[.I (o.h8 p s).1,.I (o.h8 p s).2.1,.I (o.h8 p s).2.2]/\Ext w w':=by
 obtain⟨a0,bz,db,c1,a2,c2,a3,d3,a4,d4,rfl,ad,h1,I,ab,aC,eu,dz,dJ,dR,ee⟩:=h.form;obtain⟨aw,qk,r4,rfl,aF,nZ⟩:=ar;obtain⟨bV,bu,rfl,e6⟩:=aF.form;obtain⟨b1,bB,rfl,lc⟩:=nZ.form;have pz:p.c0.length<=140737488351232:=by have:=pD.c0;unfold o.ep at this;omega
 refine bl E.I3 ?_;refine aa ?_;intro w1 bx cN ag al;refine aa ?_;intro aA bQ c7 ai ao;have df:∀{w'},Ext aA w'->Ext w w':=λe=>(ag.trans ai).trans e;replace al:=ai.obj al;refine aa ?_;refine J_ (auz p _ _ _ _ _ _ s aA (aQ.ext (df (Ext.refl _))) aw (h.ext (df (Ext.refl _)))) ?_;rintro _ aM ⟨rfl,ah⟩;replace al:=ah.obj al;replace ao:=ah.obj ao;have fr:∀{w'},Ext aM w'->Ext w w':=λe=>df (ah.trans e);rw[o.h8];refine aa ?_;apply I_<;>intro g1;rotate_left
 .refine aa ?_;exact⟨by rw[if_pos g1],fr (Ext.refl _)⟩
 rw[if_neg (by simpa using g1)];refine aa ?_;refine J_ (apl p _ _ _ _ _ _ s aM (aQ.ext (fr (Ext.refl _))) (aF.ext (fr (Ext.refl _))) (h.ext (fr (Ext.refl _)))) ?_;rintro _ aU ⟨rfl,aq⟩;replace al:=aq.obj al;replace ao:=aq.obj ao;have ec:∀{w'},Ext aU w'->Ext w w':=λe=>fr (aq.trans e);refine aa ?_;apply I_<;>intro g2;rotate_left
 .refine aa ?_;exact⟨by rw[if_pos g2],ec (Ext.refl _)⟩
 rw[if_neg (by simpa using g2)];refine aa ?_;refine J_ (abT p _ _ _ _ _ _ _ _ _ _ _ _ _ _ _ _ _ _ _ _ _ _ aU) ?_;rintro _ bh ⟨rfl,av⟩;replace al:=av.obj al;have hh:∀{w'},Ext bh w'->Ext w w':=λe=>ec (av.trans e);refine aa ?_;intro bq rD wT aD bS;replace al:=aD.obj al;have gV:∀{w'},Ext bq w'->Ext w w':=λe=>hh (aD.trans e);have en:∀w',Ext w w'->o.gg w' [.slice a0 s.scalars.length bz,.slice db s.vars.length c1,.slice a2 s.ax.length c2,.slice a3 s.procs.length d3,.slice bV p.vars.length bu,.I p.over] (o.inner p s):=λw' e =>
  ⟨(aG.inner pD).r7.1,_,_,_,_,_,rfl,ad.ext e,h1.ext e,I.ext e,ab.ext e,aF.ext e,(aG.inner pD).r7.2⟩
 refine aa ?_;refine L_ 37 p.c0.length [2,10,35,36] (λ_=>[]) () (λk _ w'=>Ext bq w'/\o.l9 (o.inner p s) p.cm p.c0 p.c0 0=o.l9 (o.inner p s) p.cm p.c0 (p.c0.drop k) k) a6 a6 ⟨Ext.refl _,CC⟩ ?_;rintro k _ S bH hk ⟨bc,aP⟩;replace al:=bc.obj al;replace bS:=bc.obj bS;refine aa ?_;apply I_<;>intro g3
 .have a7:k<p.c0.length:=Ad
  obtain⟨a,rfl⟩:=nZ.addr;obtain⟨aj,fi,va,e2,y8,xf⟩:=nZ.at k a7;obtain⟨fA,fL,rfl,apc⟩:=y8.form;obtain⟨aN,fs,rfl,qg⟩:=xf.form;rw[o.Yi a7] at aP;replace e2:=e2.ext (gV (Ext.refl _));refine aa ?_;intro D8 Ce tF n1 p8;refine aa ?_;intro cB ja cD;have bt:=ja.ext n1 tF;replace al:=bt.obj al;replace bS:=bt.obj bS;have hG:∀{w'},Ext cB w'->Ext w w':=λe=>gV ((bc.trans bt).trans e);clear p8 n1;refine aa ?_;refine J_ (aia p.c0[k] _ _ p _ _ _ (o.inner p s) cB (aQ.ext (hG (Ext.refl _))) aj (y8.ext (hG (Ext.refl _))) (xf.ext (hG (Ext.refl _))) (aF.ext (hG (Ext.refl _))) (nZ.ext (hG (Ext.refl _))) (en _ (hG (Ext.refl _)))) ?_;rintro _ cG ⟨rfl,b2⟩;replace al:=b2.obj al;replace cD:=b2.obj cD;have fw:∀{w'},Ext cG w'->Ext w w':=λe=>hG (b2.trans e);refine aa ?_;apply I_<;>intro g4;rotate_left
  .refine aa ?_;exact⟨by rw[aP,if_pos g4],fw (Ext.refl _)⟩
  rw[if_neg (by simpa using g4)] at aP;have hL:=(bm.len nZ).2.1;refine aa ?_;refine _i (k:=.i64) k (by rfl) Ad ?_;refine aa ?_;refine J_ (Ys lR E.g6 E.g0 _ (p.c0.take k) cG ((nZ.head k Ad).ext o.zN.ext (fw (Ext.refl _))) F.gI Ci [] [_] (λx=>decide (x.name=p.c0[k].name)) ?_) ?_
  .rintro i U jm w' e ⟨_,ax3,pd,rfl,aoc,Sk⟩;obtain⟨_,_,rfl,_⟩:=aoc.form;obtain⟨_,_,rfl,_⟩:=Sk.form;exact ah9 _ _ _ _ _ _ _ _ _ _ _ _ _ _ Ce w' (e.obj cD)
  rintro _ ew ⟨rfl,cj⟩;refine aa ?_;refine N_ (λg5=>?_) (λg5=>?_)
  .refine aa ?_;exact⟨by rw[aP,if_pos g5],fw cj⟩
  .refine aa ?_;exact⟨a7,aK,(),trivial,((bc.trans bt).trans b2).trans cj,by rw[aP,if_neg (by simp[g5])]⟩
 .refine aa ?_;exact⟨by rw[aP,AE9 Ad];rfl,gV bc⟩
end Go.Proofs.R
namespace a8
open Go Go.RowKit
def bm.OW{α:Type}{R:A_->Addr->α->Prop}{C:A_->C_ B_->α->Prop}{sz:Nat}[Rel R C sz]{w:A_}{b n:Nat}{e:F_}{cells:C_ B_}{xs:C_ α}(cn:C_ (fC sz))(ak:w.heap[b]? = some (.cells cells.toArray e))(ama:cells=cn.flatMap lL)
  (aE:cn.length=xs.length)(aw:n=xs.length)(hm:xs.length<=maxLen)(an:∀i (h1:i<cn.length) (I:i<xs.length),C w cn[i].1 xs[i]):bm sz R w (.slice (some ⟨b,0,none⟩) n n) xs:=by
 subst ama;exact bm.G6 aE (bm.cy (enc:=lL) lM ak Ad Ad λ_ _ _ h=>h) an
end a8
namespace o
open Go
def pG{n:Int}(h : -1000<=n/\n<=1000):dX n:=by unfold dX;omega
theorem D3(a b:Int)(s:Scope):(l0 a b s).2=((hD a s).2&&(hD b s).2)/\((l0 a b s).2=true->(l0 a b s).1=(if a=0 then 0 else 1+a)):=by
 unfold l0 hD;constructor
 ·(repeat' split)<;>first | rfl | (exfalso;omega)
 .intro h
  (repeat' split)<;>first | rfl | (exfalso;omega) | simp_all
theorem Yx{l:C_ Var}{n:Int}{s:Scope}(h:(gz l n s).2.2=false):declared l n s=none:=by
 unfold declared;unfold gz at h;cases aw:nth l n with
 | none=>rfl
 | some v =>
  rw[aw] at h;simp only at h ⊢;rw[if_neg];rw[(D3 _ _ _).1,h];simp
def Yz{l:C_ Var}{n:Int}{s:Scope}{x:Var}(h:(gz l n s).2.2=true)(af:nth l n=some x):declared l n s=some (x,if x.scalar=0 then 0 else 1+x.scalar)/\0<=x.scalar/\x.scalar<=s.scalars.length/\0<=x.over/\x.over<=s.scalars.length:=by
 unfold gz at h;rw[af] at h;simp only at h;have aB:(l0 x.scalar x.over s).2=true:=by rw[(D3 _ _ _).1];exact h
 refine⟨?_,?_⟩
 .unfold declared;rw[af];simp only;rw[if_pos aB,(D3 _ _ _).2 aB]
 .unfold l0 at aB;split at aB
  .cases aB
  .omega
theorem ahY{n:Int}{s:Scope}(h:¬(kP n s).2=0):channel n s=none:=by
 unfold channel;unfold kP at h;cases aw:nth s.ax n with
 | none=>rfl
 | some c =>
  rw[aw] at h;simp only at h ⊢;rw[if_neg];intro aB;rw[(D3 _ _ _).1] at aB;simp only[Bool.and_eq_true] at aB;rw[if_pos aB.1] at h;exact h rfl
def ah0{n:Int}{s:Scope}{c:dZ}(h:(kP n s).2=0)(af:nth s.ax n=some c):channel n s=some (if c.scalar=0 then 0 else 1+c.scalar)/\0<=c.scalar/\c.scalar<=s.scalars.length:=by
 unfold kP at h;rw[af] at h;simp only at h;have h1:(hD c.scalar s).2=true:=by
  cases hk:(hD c.scalar s).2 with
  | true=>rfl
  | false=>rw[hk] at h;simp at h
 have aB:(l0 c.scalar 0 s).2=true:=by rw[(D3 _ _ _).1,h1];simp[hD]
 refine⟨?_,?_⟩
 .unfold channel;rw[af];simp only;rw[if_pos aB,(D3 _ _ _).2 aB]
 .unfold l0 at aB;split at aB
  .cases aB
  .omega
def lV(l:C_ Var)(n:Int)(s:Scope):Int×Int:=match declared l n s with | none=>(0,8) | some (v,k)=>if v.over≠0 then (0,9) else (k,0)
def A9(a:Act)(s:Scope):Int:=match declared s.vars a.to s with | none=>8 | some (v,k)=>if v.over=0 then 9 else if asked a.index (1+v.over) s≠0 then asked a.index (1+v.over) s else asked a.value k s
def lX(a:Act)(s:Scope)(comm:Bool):Int :=
 if a.kind<1\/5<a.kind then 3
 else if a.kind=2 then A9 a s
 else if a.kind=1\/a.kind=3 then (if (lV (if a.kind=3 then s.locals else s.vars) a.to s).2≠0 then (lV (if a.kind=3 then s.locals else s.vars) a.to s).2 else asked a.value (lV (if a.kind=3 then s.locals else s.vars) a.to s).1 s)
 else if comm=true then 7
 else match channel a.to s with
  | none=>8
  | some k=>if a.kind=4 then asked a.value k s else if (lV s.locals a.loc s).2≠0 then (lV s.locals a.loc s).2 else if (lV s.locals a.loc s).1≠k then 9 else 0
def arO(a:Act)(s:Scope)(comm:Bool):lX a s comm=if ib a&&comm then 7 else kX a s:=by
 by_cases ad:a.kind<1\/5<a.kind
 .have aB:ib a=false:=by unfold ib;rw[decide_eq_false_iff_not];omega
  unfold lX kX;rw[if_pos ad,aB,if_neg (by omega:¬(a.kind=1\/a.kind=2\/a.kind=3)),if_neg (by omega:¬(a.kind=4\/a.kind=5))];simp
 by_cases I:a.kind=2
 .have aB:ib a=false:=by unfold ib;rw[decide_eq_false_iff_not];omega
  unfold lX kX;rw[if_neg ad,if_pos I,aB,if_pos (by omega:a.kind=1\/a.kind=2\/a.kind=3)];simp only[Bool.false_and,Bool.false_eq_true,if_false];rw[if_neg (by omega:¬a.kind=3)];unfold A9;cases bb:declared s.vars a.to s with
  | none=>rfl
  | some q =>
   obtain⟨v,k⟩:=q;simp only[I,true_and];by_cases aF:v.over=0
   .simp[aF]
   .simp[aF]
 by_cases h1:a.kind=1\/a.kind=3
 .have aB:ib a=false:=by unfold ib;rw[decide_eq_false_iff_not];omega
  unfold lX kX;rw[if_neg ad,if_neg I,if_pos h1,aB,if_pos (by omega:a.kind=1\/a.kind=2\/a.kind=3)];simp only[Bool.false_and,Bool.false_eq_true,if_false];unfold lV;cases bb:declared (if a.kind=3 then s.locals else s.vars) a.to s with
  | none=>simp
  | some q =>
   obtain⟨v,k⟩:=q;simp only[I,false_and,if_false];by_cases aF:v.over=0
   .simp[aF]
   .simp[aF]
 .have akK:a.kind=4\/a.kind=5:=Ad
  have aB:ib a=true:=by unfold ib;rw[decide_eq_true_eq];omega
  unfold lX kX;rw[if_neg ad,if_neg I,if_neg h1,aB,if_neg (by omega:¬(a.kind=1\/a.kind=2\/a.kind=3)),if_pos akK];simp only[Bool.true_and];cases comm with
  | true=>simp
  | false =>
   simp only[Bool.false_eq_true,if_false];cases an:channel a.to s with
   | none=>rfl
   | some k =>
    simp only;by_cases aC:a.kind=4
    .rw[if_pos aC,if_neg (by omega:¬a.kind=5)]
    .rw[if_neg aC,if_pos (by omega:a.kind=5)];unfold lV Hl;cases bb:declared s.locals a.loc s with
     | none=>simp
     | some q =>
      obtain⟨v,k'⟩:=q;simp only;by_cases aF:v.over=0
      .simp[aF]
      .simp[aF]
end o
namespace Go.Proofs.R
open Go Go.RowKit a8
def afa(op:Int)(w:A_):Du F.Li #[.I op] w λv w'=>v = .I (o.fO op)/\w'=w:=by
 have key:∀n:Int,(if op=3 then (1:Int) else if 1<=op/\op<=8 then 0 else if op=9\/op=10 then 1 else if 11<=op/\op<=19 then 2 else -1)=n->o.fO op=n:=λ_ h=>h;refine bl E.Li ?_
 (repeat' (refine aI ?_;first | (refine I_ (λ_=>?_) (λ_=>?_)<;>try (exfalso;omega)) | refine N_ (λ_=>?_) (λ_=>?_)))<;>try refine aI ?_
 all_goals
  refine⟨?_,aK⟩;congr 1;refine(key _ ?_).symm
  (repeat' split)<;>first | rfl | (exfalso;omega)
def MJ{x:Int}(h:o.fO x=0):1<=x/\x<=8/\x≠3/\o.hf x=none:=by
 have h1:1<=x/\x<=8/\x≠3:=by unfold o.fO at h; (repeat' split at h)<;>omega
 exact⟨h1.1,h1.2.1,h1.2.2,o.Ta (by simp[o.zd];omega)⟩
def adh{x:Int}(h:o.fO x=1):x=3\/x=9\/x=10:=by unfold o.fO at h; (repeat' split at h)<;>omega
def MK{x:Int}(h:o.fO x=2):11<=x/\x<=19:=by unfold o.fO at h; (repeat' split at h)<;>omega
theorem adn{x:Int}(h:9<=x/\x<=19):∃ae,o.hf x=some ae/\ae.parts=o.fO x:=by
 cases aQ:o.hf x with
 | some ae=>exact⟨ae,rfl,(o.G8 aQ).1⟩
 | none =>
  exfalso;unfold o.hf at aQ
  (repeat' split at aQ)
  all_goals first | (cases aQ;done) | omega
theorem Pv{st:C_ Int}(h:1<=st.length):st.drop (st.length - 1)=[st[st.length - 1]]:=by
 rw[AF0 Ad,AE9 Ad]
theorem YB{st:C_ Int}(h:2<=st.length):st.drop (st.length - 2)=[st[st.length - 2],st[st.length - 1]]:=by
 rw[AF0 Ad];have e:st.length - 2+1=st.length - 1:=Ad
 congr 1;rw[e];exact Pv Ad
def Jk:∀y,∀u∈encI y,u.oneCell'=true:=λy u h=>by simp[encI] at h;subst h;rfl
def TO(n:Int)(cs:C_ B_)(s:o.Scope)(w:A_)(h:o.gg w cs s) :
  Du F.Lq #[.I n,.agg cs.toArray] w λv w'=>v = .bool (o.hD n s).2/\Ext w w':=by
 obtain⟨a0,bz,db,c1,a2,c2,a3,bu,a4,bB,rfl,ad,h1,I,ab,aC,eu,dz,dJ,dR,ee⟩:=h.form;refine bl E.Lq ?_;refine aI ?_;refine O_ λw1 b ak ag al=>?_
 (repeat' (refine aI ?_;first | (refine I_ (λ_=>?_) (λ_=>?_)<;>try (exfalso;omega)) | refine N_ (λ_=>?_) (λ_=>?_)))<;>try refine aI ?_
 all_goals
  refine⟨?_,fR⟩;congr 1;unfold o.hD
  (repeat' split)<;>first | rfl | (exfalso;omega) | (simp;omega)
def kindOf(n:Int):Int:=if n=0 then 0 else 1+n
def KU(n:Int)(w:A_)(h:0<=n/\n<=4611686018427387904):Du F.GU #[.I n] w λv w'=>v = .I (kindOf n)/\w'=w:=by
 refine bl E.GU ?_
 (repeat' (refine aI ?_;first | (refine I_ (λ_=>?_) (λ_=>?_)<;>try (exfalso;omega)) | refine N_ (λ_=>?_) (λ_=>?_)))<;>try refine aI ?_
 all_goals
  refine⟨?_,aK⟩;congr 1;unfold kindOf;split<;>first | rfl | (exfalso;omega)
def acs{n:Int}{s:o.Scope}(h:(o.hD n s).2=true):0<=n/\n<=s.scalars.length/\(o.hD n s).1=kindOf n:=by
 unfold o.hD kindOf at *
 (repeat' split at h) <;> (repeat' split)<;>first | (cases h;done) | (refine⟨Ad,Ad,?_⟩;first | rfl | omega) | (exfalso;omega)
def Ho(v:B_)(l:C_ o.Var)(n:Int)(cs:C_ B_)(s:o.Scope)(w:A_)(aE:o.hZ w v l)(h:o.gg w cs s) :
  Du F.Lk #[v,.I n,.agg cs.toArray] w λv w' =>
   (∃x:o.Var,v = .tuple #[.agg x.enc.toArray,.bool (o.gz l n s).2.2]/\((o.gz l n s).2.2=true->o.nth l n=some x))/\Ext w w':=by
 obtain⟨a0,bz,db,c1,a2,c2,a3,bu,a4,bB,rfl,_⟩:=h.form;obtain⟨aN,cap,rfl,hlen⟩:=aE.form;refine bl E.Lk ?_;refine aI ?_;refine O_ λw1 b ak ag al=>?_;refine aI ?_;refine O_ λaA bQ c7 ai ao=>?_;have he:=ag.trans ai;have et:=ai.obj al;refine aI ?_;refine I_ (λg1=>have hk:(o.gz l n s).2.2=false:=(by rw[o.gz,o.hs (.inl g1)]); ?_) (λg1=>?_);rotate_left;refine aI ?_;refine I_ (λg2=>have hk:(o.gz l n s).2.2=false:=(by rw[o.gz,o.hs (.inr Ad)]); ?_) (λg2=>?_);rotate_left;obtain⟨i,rfl⟩:=Nb (show 0<=n by omega);have U:i<l.length:=Ad
 have aw:o.nth l (i:Int)=some l[i]:=by rw[o.jd Ad Ad];simp only[Int.toNat_natCast]
 obtain⟨a,rfl⟩:=aE.addr;refine aI ?_;refine T_ (c:=[_,_,_,_,_,_]) et (Ext.refl _) rfl ?_;refine aI ?_;refine P_ _ (λw' e=>TO _ _ s w' (h.ext (he.trans e))) ?_;refine aI ?_;refine N_ (λg3=>?_) (λg3=>have hk:(o.gz l i s).2.2=false:=(by rw[o.gz,aw];simp only[g3,Bool.false_and]); ?_);refine aI ?_;refine T_ (c:=[_,_,_,_,_,_]) et (Ext.refl _) rfl ?_;refine aI ?_;refine P_ _ (λw' e=>TO _ _ s w' (h.ext (he.trans e))) ?_;refine aI ?_;cases g4:(o.hD l[i].over s).2
 case' false=>have hk:(o.gz l i s).2.2=false:=by rw[o.gz,aw];simp only[g4,Bool.and_false]
 case true =>
  have hk:(o.gz l i s).2.2=true:=by rw[o.gz,aw];simp only[g3,g4,Bool.and_true]
  refine aI ?_;intro aM ah;refine aI ?_;refine U_ (cs:=l[i].enc.toArray) (ah.obj ao) rfl rfl (by simp[o.Var.enc,Value.oneCell']) λaU dQ bo=>?_;refine aI ?_;refine T_ (c:=o.Var.enc _) bo (Ext.refl _) rfl ?_;refine aI ?_;exact⟨⟨_,by rw[hk],λ_=>aw⟩,dQ.ext (he.trans ah) (by have:=ag.size;omega)⟩
 all_goals
  refine aI ?_;intro aM ah;refine aI ?_;refine X_ (cs:=(⟨⟨#[]⟩,0,0,0,0,0⟩:o.Var).enc) (by simp[gC,o.Var.enc]) ?_;refine aI ?_;refine U_ (cs:=(⟨⟨#[]⟩,0,0,0,0,0⟩:o.Var).enc.toArray) (ah.obj ao) rfl rfl (by simp[o.Var.enc,Value.oneCell']) λaU dQ bo=>?_;refine aI ?_;refine T_ (c:=o.Var.enc _) bo (Ext.refl _) rfl ?_;refine aI ?_;exact⟨⟨_,by rw[hk],by rw[hk];intro h;cases h⟩,dQ.ext (he.trans ah) (by have:=ag.size;omega)⟩
def adY(n:Int)(cs:C_ B_)(s:o.Scope)(w:A_)(h:o.gg w cs s) :
  Du F.Lf #[.I n,.agg cs.toArray] w λv w' =>
   (∃x:o.dZ,v = .tuple #[.agg x.enc.toArray,.bool (decide ((o.kP n s).2=0))]/\((o.kP n s).2=0->o.nth s.ax n=some x))/\Ext w w':=by
 obtain⟨a0,bz,db,c1,a2,c2,a3,bu,a4,bB,rfl,ad,h1,I,ab,aC,eu,dz,dJ,dR,ee⟩:=h.form;refine bl E.Lf ?_;refine aI ?_;refine O_ λw1 b ak ag al=>?_;refine aI ?_;refine O_ λaA bQ c7 ai ao=>?_;have he:=ag.trans ai;have et:=ai.obj al;refine aI ?_;refine I_ (λg1=>have hk:(o.kP n s).2=8:=(by rw[o.kP,o.hs (.inl g1)]); ?_) (λg1=>?_);rotate_left;refine aI ?_;refine I_ (λg2=>have hk:(o.kP n s).2=8:=(by rw[o.kP,o.hs (.inr Ad)]); ?_) (λg2=>?_);rotate_left;obtain⟨i,rfl⟩:=Nb (show 0<=n by omega);have U:i<s.ax.length:=Ad
 have aw:o.nth s.ax (i:Int)=some s.ax[i]:=by rw[o.jd Ad Ad];simp only[Int.toNat_natCast]
 obtain⟨a,rfl⟩:=I.addr;refine aI ?_;refine T_ (c:=[_,_,_,_,_,_]) et (Ext.refl _) rfl ?_;refine aI ?_;refine P_ _ (λw' e=>TO _ _ s w' (h.ext (he.trans e))) ?_;refine aI ?_;cases g4:(o.hD s.ax[i].scalar s).2
 case' false=>have hk:(o.kP i s).2=8:=by rw[o.kP,aw];simp only[g4,Bool.false_eq_true,if_false]
 case true =>
  have hk:(o.kP i s).2=0:=by rw[o.kP,aw];simp only[g4,if_true]
  refine aI ?_;intro aM ah;refine aI ?_;refine U_ (cs:=s.ax[i].enc.toArray) (ah.obj ao) rfl rfl (by simp[o.dZ.enc,Value.oneCell']) λaU dQ bo=>?_;refine aI ?_;refine T_ (c:=o.dZ.enc _) bo (Ext.refl _) rfl ?_;refine aI ?_;exact⟨⟨_,by rw[hk];rfl,λ_=>aw⟩,dQ.ext (he.trans ah) (by have:=ag.size;omega)⟩
 all_goals
  refine aI ?_;intro aM ah;refine aI ?_;refine X_ (cs:=(⟨⟨#[]⟩,0,0,0,0,false⟩:o.dZ).enc) (by simp[gC,o.dZ.enc]) ?_;refine aI ?_;refine U_ (cs:=(⟨⟨#[]⟩,0,0,0,0,false⟩:o.dZ).enc.toArray) (ah.obj ao) rfl rfl (by simp[o.dZ.enc,Value.oneCell']) λaU dQ bo=>?_;refine aI ?_;refine T_ (c:=o.dZ.enc _) bo (Ext.refl _) rfl ?_;refine aI ?_;exact⟨⟨_,by rw[hk];rfl,by rw[hk];intro h;cases h⟩,dQ.ext (he.trans ah) (by have:=ag.size;omega)⟩
def SI{l:C_ o.Var}{n:Int}{s:o.Scope}{x:o.Var}(h:(o.gz l n s).2.2=true)(af:o.nth l n=some x) :
  (o.gz l n s).1=kindOf x.scalar/\(o.gz l n s).2.1=kindOf x.over/\0<=x.scalar/\x.scalar<=s.scalars.length/\0<=x.over/\x.over<=s.scalars.length:=by
 unfold o.gz at h ⊢;rw[af] at h ⊢;simp only[Bool.and_eq_true] at h ⊢;obtain⟨db,a2,a3⟩:=acs h.1;obtain⟨bx,bQ,bW⟩:=acs h.2;exact⟨a3,bW,db,a2,bx,bQ⟩
def asr(x:o.Node)(cs:C_ B_)(s:o.Scope)(w:A_)(af:x.ok)(h:o.gg w cs s)(mT:1<=x.op/\x.op<=8)(ab:x.op≠3)(t:Int) :
  Du F.Lo #[.agg x.enc.toArray,.agg cs.toArray] w λv w'=>v = .tuple #[.I (o.jy x s t).1,.I (o.jy x s t).2]/\Ext w w':=by
 obtain⟨a0,bz,db,c1,a2,c2,a3,bu,a4,bB,rfl,o7,c5,dA,ea,hg,eu,dz,dJ,dR,ee⟩:=h.form;refine bl E.Lo ?_;refine aI ?_;refine O_ λw1 bx cN ag al=>?_;refine aI ?_;refine O_ λaA bQ c7 ai ao=>?_;have he:=ag.trans ai;have cK:aA.heap[bx]? = some (.cells #[.I x.op,.I x.n] T.e):=ai.obj al;clear al;refine aI ?_;apply I_<;>intro g1
 .have hk:o.jy x s t=if o.within x.n then (0,0) else (0,10):=by rw[o.jy,if_pos g1]
  (repeat' (refine aI ?_;first | (refine I_ (λ_=>?_) (λ_=>?_)<;>try (exfalso;omega)) | refine N_ (λ_=>?_) (λ_=>?_)))<;>try refine aI ?_
  all_goals
   refine⟨?_,fR⟩;rw[hk];unfold o.within;split<;>first | rfl | (rename_i cR;simp at cR;exfalso;omega)
 by_cases aF:x.op=2\/x.op=4
 .have hk:o.jy x s t=(let q:=o.gz (if x.op=4 then s.locals else s.vars) x.n s;if q.2.2=false then (0,8) else if (x.op=3/\(q.2.1=0\/t≠q.2.1))\/(x.op≠3/\q.2.1≠0) then (0,9) else (q.1,0)):=by
   rw[o.jy,if_neg g1,if_pos Ad]
  by_cases g4:x.op=4
  .rw[if_pos g4] at hk;rw[hk];refine aI ?_;refine T_ (c:=[_,_,_,_,_,_]) ao (Ext.refl _) rfl ?_;refine aI ?_;refine J_ (Ho _ s.locals x.n _ s aA (hg.ext he) (h.ext he)) ?_;rintro _ aM ⟨⟨y,rfl,bE⟩,ah⟩;have c8:(o.gz s.locals x.n s).2.2=true->_:=λg=>SI g (bE g);clear bE hk;generalize o.gz s.locals x.n s=q at c8 ⊢;obtain⟨zp,Bo,Ts⟩:=q;refine aI ?_;refine _L (vs:=y.enc) (λ_=>by simp -dsimp only[dg,cH,Nat.reduceAdd,Nat.reduceEqDiff,reduceIte,reduceCtorEq,dm]) rfl rfl (by simp[o.Var.enc,Value.oneCell']) λaU c6 fT aq bo=>?_;have hC:aU.heap[c6]? = some (.cells #[.string y.name,.I y.scalar,.I y.over,.I y.aV,.I y.U,.I y.init] T.l):=bo;clear bo;refine aI ?_;refine N_ (λg5=>?_) (λg5=>?_);rotate_left
   .refine aI ?_;simp only[g5,if_true];exact ca
   obtain⟨fQ,z2,z3,z4,z5,uz⟩:=c8 g5;have yY:kindOf y.over=0↔y.over=0:=by unfold kindOf;split<;>omega
   have BL:zp=kindOf y.scalar:=fQ;have BM:Bo=kindOf y.over:=z2;refine aI ?_;apply I_<;>intro g6
   .refine aI ?_;refine J_ (KU y.scalar aU Ad) ?_;rintro _ _ ⟨rfl,rfl⟩;refine aI ?_;simp only[g5,Bool.true_eq_false,if_false,BL,BM];rw[if_neg (by rw[ne_eq,yY];omega)];exact ca
   .refine aI ?_;simp only[g5,Bool.true_eq_false,if_false,BL,BM];rw[if_pos (.inr ⟨ab,by rw[ne_eq,yY];exact g6⟩)];exact ca
  .rw[if_neg g4] at hk;rw[hk];refine aI ?_;refine T_ (c:=[_,_,_,_,_,_]) ao (Ext.refl _) rfl ?_;refine aI ?_;refine J_ (Ho _ s.vars x.n _ s aA (c5.ext he) (h.ext he)) ?_;rintro _ aM ⟨⟨y,rfl,bE⟩,ah⟩;have c8:(o.gz s.vars x.n s).2.2=true->_:=λg=>SI g (bE g);clear bE hk;generalize o.gz s.vars x.n s=q at c8 ⊢;obtain⟨zp,Bo,Ts⟩:=q;refine aI ?_;refine _L (vs:=y.enc) (λ_=>by simp -dsimp only[dg,cH,Nat.reduceAdd,Nat.reduceEqDiff,reduceIte,reduceCtorEq,dm]) rfl rfl (by simp[o.Var.enc,Value.oneCell']) λaU c6 fT aq bo=>?_;have hC:aU.heap[c6]? = some (.cells #[.string y.name,.I y.scalar,.I y.over,.I y.aV,.I y.U,.I y.init] T.l):=bo;clear bo;refine aI ?_;refine N_ (λg5=>?_) (λg5=>?_);rotate_left
   .refine aI ?_;simp only[g5,if_true];exact ca
   obtain⟨fQ,z2,z3,z4,z5,uz⟩:=c8 g5;have yY:kindOf y.over=0↔y.over=0:=by unfold kindOf;split<;>omega
   have BL:zp=kindOf y.scalar:=fQ;have BM:Bo=kindOf y.over:=z2;refine aI ?_;apply I_<;>intro g6
   .refine aI ?_;refine J_ (KU y.scalar aU Ad) ?_;rintro _ _ ⟨rfl,rfl⟩;refine aI ?_;simp only[g5,Bool.true_eq_false,if_false,BL,BM];rw[if_neg (by rw[ne_eq,yY];omega)];exact ca
   .refine aI ?_;simp only[g5,Bool.true_eq_false,if_false,BL,BM];rw[if_pos (.inr ⟨ab,by rw[ne_eq,yY];exact g6⟩)];exact ca
 have hk:o.jy x s t=o.mU x s:=by rw[o.jy,if_neg g1,if_neg Ad]
 rw[hk];clear hk;refine aI ?_;apply I_<;>intro g5
 ·(repeat' (refine aI ?_;first | (refine I_ (λ_=>?_) (λ_=>?_)<;>try (exfalso;omega)) | refine N_ (λ_=>?_) (λ_=>?_)))<;>try refine aI ?_
  all_goals
   refine⟨?_,fR⟩;rw[o.mU,if_pos g5];split<;>first | rfl | (exfalso;omega)
 refine aI ?_;apply I_<;>intro g6
 .have hk:o.mU x s=o.kP x.n s:=by rw[o.mU,if_neg g5,if_pos g6]
  rw[hk];have AM:(o.kP x.n s).1=0/\((o.kP x.n s).2=0\/(o.kP x.n s).2=8):=by
   unfold o.kP; (repeat' split)<;>simp
  refine aI ?_;refine T_ (c:=[_,_,_,_,_,_]) ao (Ext.refl _) rfl ?_;refine aI ?_;refine J_ (adY x.n _ s aA (h.ext he)) ?_;rintro _ aM ⟨⟨y,rfl,bE⟩,ah⟩;generalize o.kP x.n s=q at *;obtain⟨c5,dA⟩:=q;obtain⟨rfl,au⟩:=AM;refine aI ?_;refine _L (vs:=y.enc) (λ_=>by simp -dsimp only[dg,cH,Nat.reduceAdd,Nat.reduceEqDiff,reduceIte,reduceCtorEq,dm]) rfl rfl (by simp[o.dZ.enc,Value.oneCell']) λaU c6 fT aq bo=>?_;refine aI ?_;apply I_<;>intro g7
  .refine aI ?_;have g8:dA=0:=g7;rw[g8];exact ca
  .refine aI ?_
   have:dA=8:=au.resolve_left g7
   rw[this];exact ca
 refine aI ?_;apply I_<;>intro g7
 .have hk:o.mU x s=o.Dt x.n s:=by rw[o.mU,if_neg g5,if_neg g6,if_pos g7]
  rw[hk,o.Dt];refine aI ?_;apply I_<;>intro g1
  .refine aI ?_;intro aM ah;refine aI ?_;rw[if_neg Ad];exact ca
  rw[if_pos Ad];obtain⟨i,U⟩:=Nb (show 0<=x.n by omega);obtain⟨_,gT⟩:=af.n;rw[U] at gT;have au:x.n.tdiv 16=((i / 16:Nat):Int):=by rw[U];rfl
  have hm:x.n.tmod 16=((i % 16:Nat):Int):=by rw[U];rfl
  refine aI ?_;refine _C Ad ?_;rw[au];refine aI ?_;apply I_<;>intro g2
  .refine aI ?_;intro aM ah;refine aI ?_;rw[o.hs (.inr Ad)];exact ca
  have az:i / 16<s.procs.length:=Ad
  rw[o.jd Ad Ad];simp only[Int.toNat_natCast];refine aI ?_;refine _s Ad ?_;refine aI ?_;refine _C Ad ?_;rw[au];obtain⟨a,rfl⟩:=ea.addr;obtain⟨_,bY,dV,FX,_⟩:=ea.at (i / 16) az;have QR:w.cell? ((a.add (i / 16*5)).add 2)=some (.I s.procs[i / 16].cm):=FX 2 _ rfl;refine aI ?_;refine M_ ((ag.trans ai).cell QR) ?_;refine aI ?_;rw[hm];intro aM ah;refine aI ?_;apply I_<;>intro g3
  all_goals
   refine aI ?_;refine⟨?_,fR⟩
   first | rw[if_pos Ad] | rw[if_neg Ad]
 (repeat' (refine aI ?_;first | (refine I_ (λ_=>?_) (λ_=>?_)<;>try (exfalso;omega)) | refine N_ (λ_=>?_) (λ_=>?_)))<;>try refine aI ?_
 all_goals
  refine⟨?_,fR⟩;rw[o.mU,if_neg g5,if_neg g6,if_neg g7,if_pos Ad];split<;>first | rfl | (exfalso;omega)
def acz(ae:o.pU)(k:Int):o.o1 ae [k]=if ae.jQ = -1\/k=ae.jQ then (ae.makes,0) else (0,9):=by
 simp[o.o1]
def aoN(ae:o.pU)(a b:Int):o.o1 ae [a,b]=if (ae.jQ = -1\/a=ae.jQ)/\a=b then (ae.makes,0) else (0,9):=by
 simp only[o.o1,List.all_cons,List.all_nil,List.headD_cons,Bool.and_true,decide_true];by_cases h:a=b
 .subst h;simp
 .have br:¬b=a:=λe=>h e.symm;simp[h,br]
def vD(x:o.Node)(k:Int)(s:o.Scope):Int×Int:=match o.hf x.op with | some ae=>o.o1 ae [k] | none=>o.jy x s k
def asy(x:o.Node)(k:Int)(cs:C_ B_)(s:o.Scope)(w:A_)(h:o.gg w cs s)(mT:x.op=3\/x.op=9\/x.op=10) :
  Du F.Lp #[.agg x.enc.toArray,.I k,.agg cs.toArray] w λv w'=>v = .tuple #[.I (vD x k s).1,.I (vD x k s).2]/\Ext w w':=by
 obtain⟨a0,bz,db,c1,a2,c2,a3,bu,a4,bB,rfl,o7,c5,dA,ea,hg,eu,dz,dJ,dR,ee⟩:=h.form;refine bl E.Lp ?_;refine aI ?_;refine O_ λw1 bx cN ag al=>?_;refine aI ?_;refine O_ λaA bQ c7 ai ao=>?_;have he:=ag.trans ai;have cK:aA.heap[bx]? = some (.cells #[.I x.op,.I x.n] T.e):=ai.obj al;clear al;refine aI ?_;apply I_<;>intro g1
 .have aQ:o.hf x.op=none:=by rw[g1];rfl
  have hk:vD x k s=(let q:=o.gz s.vars x.n s;if q.2.2=false then (0,8) else if (x.op=3/\(q.2.1=0\/k≠q.2.1))\/(x.op≠3/\q.2.1≠0) then (0,9) else (q.1,0)):=by
   rw[vD,aQ];simp only;rw[o.jy,if_neg Ad,if_pos Ad];simp only[show ¬x.op=4 from Ad,if_false]
  rw[hk];refine aI ?_;refine T_ (c:=[_,_,_,_,_,_]) ao (Ext.refl _) rfl ?_;refine aI ?_;refine J_ (Ho _ s.vars x.n _ s aA (c5.ext he) (h.ext he)) ?_;rintro _ aM ⟨⟨y,rfl,bE⟩,ah⟩;have c8:(o.gz s.vars x.n s).2.2=true->_:=λg=>SI g (bE g);clear bE hk;generalize o.gz s.vars x.n s=q at c8 ⊢;obtain⟨zp,Bo,Ts⟩:=q;refine aI ?_;refine _L (vs:=y.enc) (λ_=>by simp -dsimp only[dg,cH,Nat.reduceAdd,Nat.reduceEqDiff,reduceIte,reduceCtorEq,dm]) rfl rfl (by simp[o.Var.enc,Value.oneCell']) λaU c6 fT aq bo=>?_;have hC:aU.heap[c6]? = some (.cells #[.string y.name,.I y.scalar,.I y.over,.I y.aV,.I y.U,.I y.init] T.l):=bo;clear bo;refine aI ?_;refine N_ (λg5=>?_) (λg5=>?_);rotate_left
  .refine aI ?_;simp only[g5,if_true];exact ca
  obtain⟨fQ,z2,z3,z4,z5,uz⟩:=c8 g5;have BL:zp=kindOf y.scalar:=fQ;have BM:Bo=kindOf y.over:=z2;have yY:Bo=if y.over=0 then 0 else 1+y.over:=BM
  refine aI ?_;apply I_<;>intro g6
  .refine aI ?_;simp only[g5,Bool.true_eq_false,if_false];rw[if_pos (.inl ⟨g1,.inl (by rw[yY,if_pos g6])⟩)];exact ca
  rw[if_neg g6] at yY;refine aI ?_;apply I_<;>intro g7;rotate_left
  .refine aI ?_;simp only[g5,Bool.true_eq_false,if_false];rw[if_pos (.inl ⟨g1,.inr Ad⟩)];exact ca
  refine aI ?_;refine J_ (KU y.scalar aU Ad) ?_;rintro _ _ ⟨rfl,rfl⟩;refine aI ?_;simp only[g5,Bool.true_eq_false,if_false,BL];rw[if_neg Ad];exact ca
 have ir:x.op=9->vD x k s=if k=1 then (1,0) else (0,9):=by
  intro e;rw[vD,e];show o.o1 _ [k]=_;rw[acz];simp
 have k1:x.op=10->vD x k s=if k=0 then (0,0) else (0,9):=by
  intro e;rw[vD,e];show o.o1 _ [k]=_;rw[acz];simp
 (repeat' (refine aI ?_;first | (refine I_ (λ_=>?_) (λ_=>?_)<;>try (exfalso;omega)) | refine N_ (λ_=>?_) (λ_=>?_)))<;>try refine aI ?_
 all_goals
  refine⟨?_,fR⟩;rcases mT with e | e | e
  .exact absurd e g1
  .rw[ir e];split<;>first | rfl | (exfalso;omega)
  .rw[k1 e];split<;>first | rfl | (exfalso;omega)
def HG(op a b:Int):Int×Int:=match o.hf op with | some ae=>o.o1 ae [a,b] | none=>(0,9)
def asE(op a b:Int)(w:A_)(mT:11<=op/\op<=19) :
  Du F.Lr #[.I op,.I a,.I b] w λv w'=>v = .tuple #[.I (HG op a b).1,.I (HG op a b).2]/\w'=w:=by
 have key:HG op a b=if a≠b then (0,9) else if op=14\/op=15 then (1,0) else if op=18\/op=19 then (if a=1 then (1,0) else (0,9)) else if op=16\/op=17 then (if a=0 then (1,0) else (0,9)) else (if a=0 then (0,0) else (0,9)):=by
  have an:op=11\/op=12\/op=13\/op=14\/op=15\/op=16\/op=17\/op=18\/op=19:=Ad
  rcases an with e | e | e | e | e | e | e | e | e<;>subst e <;> (show o.o1 _ [a,b]=_)<;>rw[aoN]<;>by_cases FG:a=b<;>simp[FG,o.Bw]
 refine bl E.Lr ?_
 (repeat' (refine aI ?_;first | (refine I_ (λ_=>?_) (λ_=>?_)<;>try (exfalso;omega)) | refine N_ (λ_=>?_) (λ_=>?_)))<;>try refine aI ?_
 all_goals
  refine⟨?_,aK⟩;rw[key]
  (repeat' split)<;>first | rfl | (exfalso;omega)
def ajK{s:o.Scope}{x:o.Node}{st:C_ Int}(h:o.fO x.op=0):o.fX s x st=o.jy x s (st.getLastD 0):=by
 unfold o.fX;rw[(MJ h).2.2.2]
theorem ajL{s:o.Scope}{x:o.Node}{st:C_ Int}(h:o.fO x.op=1)(aE:1<=st.length):o.fX s x st=vD x st[st.length - 1] s:=by
 unfold o.fX vD;cases aQ:o.hf x.op with
 | none=>simp only;rw[Fk st Ad]
 | some ae =>
  have:=(o.G8 aQ).1
  simp only;rw[show ae.parts.toNat=1 from Ad,Pv aE]
def ajM{s:o.Scope}{x:o.Node}{st:C_ Int}(h:o.fO x.op=2)(aE:2<=st.length):o.fX s x st=HG x.op st[st.length - 2] st[st.length - 1]:=by
 unfold o.fX HG;obtain⟨ae,aQ,ar⟩:=adn (show 9<=x.op/\x.op<=19 by have:=MK h;omega);rw[aQ];simp only;rw[show ae.parts.toNat=2 from Ad,YB aE]
def ad4(gP:B_)(e:C_ o.Node)(cs:C_ B_)(s:o.Scope)(w:A_)(he:o.eS w gP e)(h:o.gg w cs s) :
  Du F.Lh #[gP,.agg cs.toArray] w λv w'=>v = .tuple #[.I (o.kind e s).1,.I (o.kind e s).2]/\Ext w w':=by
 obtain⟨v0,v1,v2,v3,v4,rfl,_⟩:=h.ex;obtain⟨aN,cap,rfl,hlen⟩:=he.form;refine bl E.Lh ?_;refine aI ?_;refine O_ λw1 dx tR ag al=>?_;refine aI ?_;apply I_<;>intro g1
 .refine aI ?_;rw[o.kind,o.mY,if_pos Ad];exact ca
 refine aI ?_;apply I_<;>intro g2
 .refine aI ?_;rw[o.kind,o.mY,if_neg Ad,if_pos Ad];exact ca
 refine aI ?_;refine _h 7 e.length (λk S w' => ∃v st,S 6=v/\uG w1.heap.size w' v st/\o.gm (o.fX s) (e.take k) []=(0,st)/\(0<k->1<=st.length)/\st.length<=12/\Ext w1 w')
  (by simp -dsimp only[dg,cH,Nat.reduceAdd,Nat.reduceEqDiff,reduceIte,reduceCtorEq,dm]) ⟨.slice none 0 0,[],by simp -dsimp only[dg,cH,Nat.reduceAdd,Nat.reduceEqDiff,reduceIte,reduceCtorEq,dm],aJ.nil _ _ _ _ _,by simp[o.gm],CC,CC,Ext.refl _⟩ ?_
 rintro k S aA b5 hk cr ⟨v6,st,bJ,gx,h7,Fp,sA,ai⟩;have ad:=b5 0 rfl;have ab:=b5 3 rfl;simp only[bD,Nat.reduceAdd,Nat.reduceEqDiff,reduceIte,km,nW] at ad ab;clear b5;obtain⟨ug,tu,rfl,bS,iX⟩:=gx.form;have U:Ints aA _ st:=aJ.jN (enc:=encI) (sz:=1) (λ_=>rfl) gx;unfold maxLen at iX;refine eh (i_ ad (i_ ab (i_ bJ cr))) ?_;apply I_<;>intro g3;rotate_left
 .have a7:k=e.length:=Ad
  subst a7;rw[AE8] at h7;have h1:=Fp Ad;obtain⟨a,rfl⟩:=U.addr h1;have de:o.kind e s=if st.length > 1 then (0,5) else (st.headD 0,0):=by
   rw[o.kind,o.mY,if_neg Ad,if_neg Ad,h7,if_neg CC]
  rw[de];clear de;refine eh (i_ ad (i_ ab (i_ bJ cr))) ?_;apply I_<;>intro g4
  .refine aI ?_;rw[if_pos Ad];exact ca
  .refine eh (i_ ad (i_ ab (i_ bJ cr))) ?_;refine K_ 0 rfl Ad ?_;refine aI ?_;rw[if_neg Ad]
   have:st.headD 0=st[0]:=by
    cases st with
    | nil=>simp at h1
    | cons z st=>rfl
   rw[this];exact ca
 have a7:k<e.length:=Ad
 obtain⟨a,rfl⟩:=he.addr;have ny:=(he.at k a7).ok;have j8:=λad=>o.TP (f:=o.fX s) (e:=e) Ad a7 h7 ad;have Dm:=o.DQ a7 h7;have Fo:=ag.trans ai;have et:=ai.obj al;refine eh (i_ ad (i_ ab (i_ bJ cr))) ?_;refine J_ (afa e[k].op aA) ?_;rintro _ _ ⟨rfl,rfl⟩;generalize aw:o.fO e[k].op=n at *;have hc : -1<=n/\n<=2:=by rw[<-aw];unfold o.fO; (repeat' split)<;>omega
 refine eh (i_ ad (i_ ab (i_ bJ cr))) ?_;apply I_<;>intro g4
 .have aj:o.stepG (o.fX s) e[k] st=(3,st):=by unfold o.stepG;rw[aw,if_pos g4]
  rw[aj] at j8;refine aI ?_;rw[o.kind,j8 CC];exact ca
 refine eh (i_ ad (i_ ab (i_ bJ cr))) ?_;apply I_<;>intro g5
 .have aj:o.stepG (o.fX s) e[k] st=(4,st):=by unfold o.stepG;rw[aw,if_neg g4,if_pos g5]
  rw[aj] at j8;refine aI ?_;rw[o.kind,j8 CC];exact ca
 obtain⟨p,rfl⟩:=Nb (show 0<=n by omega);have k4:o.stepG (o.fX s) e[k] st=if (o.fX s e[k] st).2≠0 then ((o.fX s e[k] st).2,st) else if (st.take (st.length - p)++[(o.fX s e[k] st).1]).length > 12 then (12,st) else (0,st.take (st.length - p)++[(o.fX s e[k] st).1]):=by
  unfold o.stepG;rw[aw,if_neg g4,if_neg g5];simp only[Int.toNat_natCast]
 have mi:(st.take (st.length - p)++[(o.fX s e[k] st).1]).length=st.length - p+1:=by simp[List.length_take]
 rw[mi] at k4;have fin:p=0\/p=1\/p=2:=Ad
 rcases fin with AT | AT | AT
 case' inl =>
  have ay:=ajK (s:=s) (st:=st) (x:=e[k]) Ad;obtain⟨fQ,z2,z3,z4⟩:=MJ (x:=e[k].op) Ad;refine eh (i_ ad (i_ ab (i_ bJ cr))) ?_;refine T_ (c:=[_,_,_,_,_,_]) et (Ext.refl _) rfl ?_;refine eh (i_ ad (i_ ab (i_ bJ cr))) ?_;refine P_ _ (λw' e'=>asr e[k] _ s w' ny (h.ext (Fo.trans e')) ⟨fQ,z2⟩ z3 (st.getLastD 0)) ?_;rw[<-ay];refine eh (i_ ad (i_ ab (i_ bJ cr))) ?_
 case' inr.inl =>
  have ay:=ajL (s:=s) (st:=st) (x:=e[k]) Ad Ad;obtain⟨nK,rfl⟩:=U.addr;refine eh (i_ ad (i_ ab (i_ bJ cr))) ?_;refine K_ (st.length - 1) Ad Ad ?_;refine eh (i_ ad (i_ ab (i_ bJ cr))) ?_;refine T_ (c:=[_,_,_,_,_,_]) et (Ext.refl _) rfl ?_;refine eh (i_ ad (i_ ab (i_ bJ cr))) ?_;refine P_ _ (λw' e'=>asy e[k] _ _ s w' (h.ext (Fo.trans e')) (adh Ad)) ?_;rw[<-ay];refine eh (i_ ad (i_ ab (i_ bJ cr))) ?_
 case' inr.inr =>
  have ay:=ajM (s:=s) (st:=st) (x:=e[k]) Ad Ad;obtain⟨nK,rfl⟩:=U.addr;refine eh (i_ ad (i_ ab (i_ bJ cr))) ?_;refine K_ (st.length - 2) Ad Ad ?_;refine eh (i_ ad (i_ ab (i_ bJ cr))) ?_;refine K_ (st.length - 1) Ad Ad ?_;refine eh (i_ ad (i_ ab (i_ bJ cr))) ?_;refine P_ _ (λw' e'=>(asE e[k].op _ _ w' (MK Ad)).mono λv bM h=>⟨h.1,h.2 ▸ Ext.refl _⟩) ?_;rw[<-ay];refine eh (i_ ad (i_ ab (i_ bJ cr))) ?_
 all_goals
  intro aM ah;refine eh (i_ ad (i_ ab (i_ bJ cr))) ?_;apply I_<;>intro g6;rotate_left
  .rw[if_pos g6] at k4;refine aI ?_;rw[o.kind,j8 (by rw[k4];exact g6),k4];exact ca
  rw[if_neg (by simpa using g6)] at k4;have eT:=gx.ext ah;refine eh (i_ ad (i_ ab (i_ bJ cr))) ?_;refine _D (cs:=[]) (by simp[List.range,List.range.loop,gC]) λaU c6 fT aq bo=>?_;have z12:=ai.size;have z23:=ah.size;have afL:=aq.size;have Qa:uG w1.heap.size aU (.slice (some ⟨c6,0,none⟩) 0 0) []:=aJ.empty Ad bo;have dD:=eT.ext aq;have dM:uG w1.heap.size aU (.slice _ (st.length - p) _) (st.take (st.length - p)):=aJ.head (enc:=encI) (sz:=1) (xs:=st) (λ_=>rfl) dD (st.length - p) (Nat.sub_le _ _);have cu:(st.take (st.length - p)).length=st.length - p:=by simp[List.length_take]
  refine eh (i_ ad (i_ ab (i_ bJ cr))) ?_;refine _i (st.length - p) (by refine cd bJ ?_;first | rfl | (congr 1;omega)) Ad ?_;refine aI ?_;refine _n (xs:=[]) (ys:=st.take (st.length - p)) Qa dM (λ_=>rfl) Jk (by rw[cu];simp only[List.length_nil];omega) (by rw[cu];simp only[List.length_nil,maxLen];omega) Ad λv5 bh AX mP=>?_;have F3:Ext aM bh:=aq.grown mP λq au=>by simp[Value.ownBlock] at au;omega
  rw[AF9] at AX;have z35:=F3.size;refine aI ?_;refine _D (cs:=[(o.fX s e[k] st).1].flatMap encI) (by simp[List.range,List.range.loop,gC,lay,dc,bD,Value.cells,encI]) λbq dC e5 aD bS=>?_;have UE:=aD.size;have dn:=AX.ext aD;refine aI ?_;refine _j (xs:=st.take (st.length - p)) (ys:=[(o.fX s e[k] st).1]) dn (λ_=>rfl) (im bS) rfl Jk (by rw[cu];simp only[List.length_cons,List.length_nil];omega) (by rw[cu];simp only[List.length_cons,List.length_nil,maxLen];omega) Ad λafp bH dU ko=>?_;have bc:Ext w1 bH:=Ext.grown (((ai.trans ah).trans F3).trans aD) ko λq au=>(dn.lt q au).1;obtain⟨ap5,qH,rfl,_⟩:=dU.form;rw[mi] at dU ⊢;by_cases g7:12<st.length - p+1
  .rw[if_pos Ad] at k4
   first
    | (exfalso;omega)
    | (refine aI ?_
       rw[o.kind,j8 (by rw[k4];simp),k4];exact⟨aK,ag.trans bc⟩)
  rw[if_neg Ad] at k4;refine eh cr ?_;refine⟨a7,aK,_,_,rfl,dU,by rw[Dm,k4],λ_=>by rw[mi];omega,by rw[mi];omega,bc⟩
end Go.Proofs.R