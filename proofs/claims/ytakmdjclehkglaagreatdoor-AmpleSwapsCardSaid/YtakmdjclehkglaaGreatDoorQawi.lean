/- Parts. -/
import Derived.Test.YtakmdjclehkglaaGreatDoorQawh
set_option linter.all false
set_option maxRecDepth 8000
set_option maxHeartbeats 4000000
section
namespace Go.Proofs.R
open Go Go.RowKit a7
theorem ade(f:o.Node->C_ Int->Int×Int)(two:o.ph->C_ Int->Int×Int)(leaf:o.Node->C_ Int->Int×Int)(av:L4 f two leaf)(cA:Int->Prop)
  (b:Nat)(w0 w:A_)(Cl:Ext w0 w)(sa:w0.heap.size<=b)(gQ nc v2:B_)(e:C_ o.Node)(he:o.eL w0 gQ e)(an:w.heap[b]? = some (.cells #[.slice none 0 0,.map none] T.ni))
  (EL:∀x st,x.ok->(∀z∈st,cA z)->0<=o.fe x.op->o.fe x.op<=st.length->(f x st).2=0->cA (f x st).1)
  (Qa:∀x st base m w',x.ok->Mod (fun k=>k=b) w w'->qO base b w' m st->(∀z∈st,cA z)->0<=o.fe x.op->o.fe x.op<=st.length->o.gJ x.op=none->∀w1 cK t,Ext w' w1 ->
   (∀bM,Ext w1 bM->cK (.tuple #[.I (leaf x st).1,.I (leaf x st).2]) bM)->AR Tryz.prog nc [.agg x.enc.toArray] w1 cK t)
  (Fg:∀ae ep fc l w' cK t,Mod (fun k=>k=b) w w'->Dl w' ae ep->(∃x,o.gJ x=some ae)->ae.parts=l.length->Ints w' fc l ->
   (∀bM,Ext w' bM->cK (.tuple #[.I (two ae l).1,.I (two ae l).2]) bM)->xo Tryz.prog v2 [ep,fc] w' cK t) :
  Dz F.eq #[.pointer (some ⟨b,0,none⟩),gQ,nc,v2] w fun v w' =>
   v = .tuple #[.I (o.lh f e).1,.I (o.lh f e).2]/\Mod (fun k=>k=b) w w':=by
 obtain⟨aO,cap,rfl,hlen⟩:=he.form;refine bl E.eq ?_;refine ay ?_;apply I_<;>intro g1
 .refine ay ?_;rw[o.lh,if_pos Aw];exact⟨rfl,Mod.refl _ _⟩
 refine ay ?_;apply I_<;>intro g2
 .refine ay ?_;rw[o.lh,if_neg Aw,if_pos Aw];exact⟨rfl,Mod.refl _ _⟩
 refine ay ?_;refine J_ (ao1 w) ?_;rintro m w1 ⟨E4,ah⟩;refine ay ?_;refine _E (ah.obj an) BJ (by obtain⟨r,_,_,_,e,_⟩:=E4;rw[e];rfl) fun aB nD au=>?_;have zF:aB.heap[b]? = some (.cells #[.slice none 0 0,m] T.ni):=au;clear au;have alI:qP aB m:=E4.mod (A:=fun k=>k=b) (nD.mod rfl) fun k ae h1 I hk=>by
  subst hk;rw[ah.obj an] at h1;injection h1 with h1
  rcases I with ⟨es,c,I⟩ | ⟨cs,I⟩
  .rw[I] at h1;cases h1
  .rw[I] at h1;injection h1 with _ h1
   cases h1
 have ZL:Mod (fun k=>k=b) w aB:=ah.mod.trans (nD.mod rfl);have b4:b<aB.heap.size:=cr zF;refine ay ?_;refine _i 27 e.length (fun k S w'=>Mod (fun k=>k=b) aB w'/\∃st,o.eP f (e.take k) []=(0,st)/\qO aB.heap.size b w' m st/\(0<k->1<=st.length)/\st.length<=12/\∀z∈st,cA z)
  (by simp -dsimp only[cV,cu,Nat.reduceAdd,Nat.reduceEqDiff,reduceIte,reduceCtorEq,c3]) ⟨Mod.refl _ _,[],by simp[o.eP],⟨⟨_,zF,aP.nil _ _ _ _ _⟩,b4,Gf _⟩,Bh,Bh,Bh⟩ ?_
 rintro k S aK b3 hk oQ ⟨wv,st,hV,zS,Ec,r7,tp⟩;have ad:=b3 0 rfl;have h1:=b3 1 rfl;have I:=b3 2 rfl;have ab:=b3 3 rfl;have uC:=b3 25 rfl;have mj:=b3 26 rfl;simp only[bL,Nat.reduceAdd,Nat.reduceEqDiff,reduceIte,j4,nr] at ad h1 I ab uC mj;clear b3;have Ju:Mod (fun k=>k=b) w aK:=ZL.trans wv;refine dh (i_ ad (i_ h1 (i_ I (i_ ab (i_ uC (i_ mj oQ)))))) ?_;apply I_<;>intro g3
 .have aV:k<e.length:=Aw
  have atZ:Ext w0 aK:=Ju.ext Cl fun q ao e=>Aw
  obtain⟨a,rfl⟩:=he.addr;have uP:=(he.at k aV).ok;have kL:=fun ad=>o.St (f:=f) (e:=e) Aw aV hV ad;have uM:=o.w4 aV hV;have alJ:qP aK m:=alI.mod (A:=fun k=>k=b) wv fun k ae h1 I hk=>by
   subst hk;rw[zF] at h1;injection h1 with h1
   rcases I with ⟨es,c,I⟩ | ⟨cs,I⟩
   .rw[I] at h1;cases h1
   .rw[I] at h1;injection h1 with _ h1
    cases h1
  refine dh (i_ ad (i_ h1 (i_ I (i_ ab (i_ uC (i_ mj oQ)))))) ?_;generalize af:e[k]=x at *;refine _M (vs:=x.enc) (fun _=>by simp -dsimp only[cV,cu,Nat.reduceAdd,Nat.reduceEqDiff,reduceIte,reduceCtorEq,c3]) rfl rfl (by simp[o.Node.enc,Value.oneCell']) fun aR cx e3 aw bf=>?_;refine dh (i_ ad (i_ h1 (i_ I (i_ ab (i_ uC (i_ mj oQ)))))) ?_;refine R_ (c:=x.enc) bf (Ext.refl _) rfl ?_;refine dh (i_ ad (i_ h1 (i_ I (i_ ab (i_ uC (i_ mj oQ)))))) ?_;have Qd:Mod (fun k=>k=b) w aR:=Ju.trans aw.mod;refine J_ (ar5 f two leaf av x aB.heap.size b aR m nc v2 st (zS.ext aw) (alJ.ext aw) Aw
   (fun cO de dQ w' cK t Fk hk=>Qa x st _ m aR uP Qd (zS.ext aw) tp cO de dQ w' cK t Fk hk)
   (fun ae ep fc w' cK t Fk cO de dQ gK hk=>Fg ae ep fc _ w' cK t (Qd.trans Fk.mod) de ⟨_,cO⟩ (by have:=RK cO;simp[List.length_drop];omega) gK hk)) ?_
  rintro _ bo ⟨rfl,ly,aaj⟩;have alk:Mod (fun k=>k=b) w bo:=Qd.then ly fun i U h=>by
   rcases h with h | h
   .exact h
   .have:=ZL.size;omega
  refine dh (i_ ad (i_ h1 (i_ I (i_ ab (i_ uC (i_ mj oQ)))))) ?_;apply I_<;>intro g4;rotate_left
  .refine dh (i_ ad (i_ h1 (i_ I (i_ ab (i_ uC (i_ mj oQ)))))) ?_;rw[kL g4];exact⟨aL,alk⟩
  have EX:=o.ar4 g4;have akZ:∀z∈(o.stepG f x st).2,cA z:=by
   have aH:=EL x st uP tp;clear kL uM EX aaj;unfold o.stepG at g4 ⊢;by_cases cO:o.fe x.op<0
   .rw[if_pos cO] at g4;cases g4
   by_cases de:(st.length:Int)<o.fe x.op
   .rw[if_neg cO,if_pos de] at g4;cases g4
   by_cases dQ:(f x st).2≠0
   .rw[if_neg cO,if_neg de,if_pos dQ] at g4;exact absurd g4 dQ
   by_cases gK:(st.take (st.length - (o.fe x.op).toNat)++[(f x st).1]).length > 12
   .rw[if_neg cO,if_neg de,if_neg dQ,if_pos gK] at g4;cases g4
   rw[if_neg cO,if_neg de,if_neg dQ,if_neg gK];intro z bw;rcases List.mem_append.1 bw with bw | bw
   .exact tp z (AJ9 bw)
   .simp at bw;subst bw;exact aH Aw Aw (by simpa using dQ)
  refine dh (i_ ad (i_ h1 (i_ I (i_ ab (i_ uC (i_ mj oQ)))))) ?_;refine⟨aV,aL,?_,(o.stepG f x st).2,?_,aaj g4,fun _=>EX.1,EX.2,akZ⟩
  .refine(wv.trans aw.mod).then ly fun i U h=>?_;rcases h with h | h
   .exact h
   .omega
  .rw[uM];exact Prod.ext g4 rfl
 .have aV:k=e.length:=Aw
  subst aV;rw[AF1] at hV;obtain⟨Az,cN,fK⟩:=zS.ex;obtain⟨kN,p9,rfl,EB,ic⟩:=fK.form;have U:Ints aK _ st:=aP.jg (enc:=encI) (sz:=1) (fun _=>rfl) fK;have h1:=Ec Aw;obtain⟨a,rfl⟩:=U.addr h1;have dI:o.lh f e=if st.length > 1 then (0,5) else (st.headD 0,0):=by
   rw[o.lh,if_neg Aw,if_neg Aw,hV,if_neg Bh]
  rw[dI];clear dI;refine dh (i_ ad (i_ h1 (i_ I (i_ ab (i_ uC (i_ mj oQ)))))) ?_;apply I_<;>intro g4
  .refine ay ?_;rw[if_pos Aw];exact⟨rfl,Ju⟩
  .refine dh (i_ ad (i_ h1 (i_ I (i_ ab (i_ uC (i_ mj oQ)))))) ?_;refine K_ 0 rfl Aw ?_;refine ay ?_;rw[if_neg Aw]
   have:st.headD 0=st[0]:=by
    cases st with
    | nil=>simp at h1
    | cons z st=>rfl
   rw[this];exact⟨aL,Ju⟩
theorem anj(ae:o.ph)(u fc:B_)(l:C_ Int)(w:A_)(az:Ints w fc l) :
  Dz F.px #[.agg #[.I ae.parts,.I ae.jC,.I ae.makes,u],fc] w fun v w'=>v = .tuple #[.I (o.oq ae l).1,.I (o.oq ae l).2]/\Ext w w':=by
 obtain⟨aO,cap,rfl,hlen⟩:=az.form;refine bl E.px ?_;refine ay ?_;refine O_ fun w1 b an ah al=>?_;refine ay ?_;refine _i 10 l.length (fun k S w'=>w'=w1/\(l.take k).all (fun k=>(decide (ae.jC = -1)||decide (k=ae.jC))&&decide (k=l.headD 0))=true) (by simp -dsimp only[cV,cu,Nat.reduceAdd,Nat.reduceEqDiff,reduceIte,reduceCtorEq,c3]) ⟨rfl,Bh⟩ ?_;rintro k S aB b3 hk kG ⟨rfl,du⟩;have h1:=b3 1 rfl;have I:=b3 2 rfl;have dF:=b3 8 rfl;have js:=b3 9 rfl;simp only[bL,Nat.reduceAdd,Nat.reduceEqDiff,reduceIte,j4,nr] at h1 I dF js;clear b3;refine dh (i_ h1 (i_ I (i_ dF (i_ js kG)))) ?_;apply I_<;>intro g1;rotate_left
 .rw[Lj Aw] at du;refine dh (i_ h1 (i_ I (i_ dF (i_ js kG)))) ?_;rw[o.oq,if_pos du];exact b5
 have aV:k<l.length:=Aw
 obtain⟨a,rfl⟩:=az.addr;have yq:l.take (k+1)=l.take k++[l[k]]:=L1 aV;have BT:=AJ0 (xs:=l.take (k+1)) (ys:=l.drop (k+1)) (f:=fun k=>(decide (ae.jC = -1)||decide (k=ae.jC))&&decide (k=l.headD 0));rw[AH8,yq,AJ0] at BT;have ad:l.headD 0=l[0]:=by
  cases l with
  | nil=>simp at aV
  | cons z l=>rfl
 have YN:((decide (ae.jC = -1)||decide (l[k]=ae.jC))&&decide (l[k]=l.headD 0))=false->o.oq ae l=(0,9):=by
  intro h;rw[o.oq,if_neg (by rw[BT];simp only[List.all_cons,List.all_nil,h];simp)]
 have EL:((decide (ae.jC = -1)||decide (l[k]=ae.jC))&&decide (l[k]=l.headD 0))=true->(l.take (k+1)).all (fun k=>(decide (ae.jC = -1)||decide (k=ae.jC))&&decide (k=l.headD 0))=true:=by
  intro h;rw[yq,AJ0,du];simp only[List.all_cons,List.all_nil,h];rfl
 rw[ad] at YN;clear BT;have aq:0<l.length:=Aw
 have oV:Ints aB (.slice (some a) l.length cap) l:=az.ext ah;have B5:=EL;rw[ad] at EL du
 (repeat' first
 | (refine I_ (fun _=>?_) (fun _=>?_)<;>try (exfalso;omega))
 | (refine N_ (fun _=>?_) (fun _=>?_))
 | assumption
 | exact Ext.refl _
 | refine Ext.trans ?_ Br
 | refine Q_ Aw ?_
 | refine _L Br ?_ rfl ?_
 | refine _C Br ?_ rfl ?_
 | refine _Q Br ?_ Aw rfl ?_
 | refine _R Br ?_ Aw rfl ?_
 | refine _S Br ?_ Aw rfl ?_
 | refine _V Aw ?_
 | refine _T (by first | assumption | omega) ?_
 | refine _U (by first | assumption | omega) ?_
 | refine _F Br ?_
 | refine _G Br ?_
 | simp -dsimp only[cV,cu,Nat.reduceAdd,Nat.reduceEqDiff,reduceIte,reduceCtorEq,c3,h1,I,dF,js,kG])
 all_goals first
  | (have cN:=YN (by simp;omega);rw[cN];refine⟨aL,ah⟩)
  | (refine⟨Aw,aL,trivial,?_⟩;rw[ad];exact EL (by simp;omega))
theorem am8(x:o.Node)(cs:C_ B_)(s:o.Scope)(base b pm dk:Nat)(w:A_)(m:B_)(st:C_ Int)(SV:F_)(af:x.ok)(h:o.fU w cs s)(hm:qO base b w m st)(ab:x.op=3->0<st.length)
  (wA:w.heap[pm]? = some (.cells #[.pointer (some ⟨b,0,none⟩)] SV))(tt:w.heap[dk]? = some (.cells cs.toArray T.w)) :
  Dz F.qd #[.agg x.enc.toArray,.pointer (some ⟨pm,0,none⟩),.pointer (some ⟨dk,0,none⟩)] w fun v w' =>
   v = .tuple #[.I (o.jc x s (st.getLastD 0)).1,.I (o.jc x s (st.getLastD 0)).2]/\Ext w w':=by
 obtain⟨v0,v1,v2,v3,v4,rfl,_⟩:=h.ex;refine bl E.qd ?_;refine ay ?_;refine O_ fun w1 br cF ah al=>?_;have cq:w1.heap[br]? = some (.cells x.enc.toArray T.e):=al;refine ay ?_;refine R_ (c:=x.enc) cq (Ext.refl _) rfl ?_;refine ay ?_;refine R_ tt ah rfl ?_;refine ay ?_;refine J_ (anb x _ s base b w1 m st af (h.ext ah) (hm.ext ah) ab) ?_;rintro _ aB ⟨rfl,aj⟩;refine ay ?_;exact b5
theorem aij(s:o.Scope):L4 (o.fk s) o.oq fun x st=>o.jc x s (st.getLastD 0):=fun _ _=>rfl
theorem aa3(gQ:B_)(e:C_ o.Node)(cs:C_ B_)(s:o.Scope)(w:A_)(he:o.eL w gQ e)(h:o.fU w cs s) :
  Dz F.HN #[gQ,.agg cs.toArray] w fun v w'=>v = .tuple #[.I (o.kind e s).1,.I (o.kind e s).2]/\Ext w w':=by
 obtain⟨v0,v1,v2,v3,v4,rfl,_⟩:=h.ex;refine bl E.HN ?_;refine ay ?_;refine O_ fun w1 dk tt ah al=>?_;refine ay ?_;refine W_ (cs:=[.slice none 0 0,.map none]) (by simp[eZ]) ?_;refine ay ?_;refine O_ fun aB b an aj au=>?_;refine ay ?_;refine O_ fun aK pm wA ag bh=>?_;refine ay ?_;refine _W bh BJ rfl fun aR dq bf=>?_;have Pr:aR.heap[pm]? = some (.cells #[.pointer (some ⟨b,0,none⟩)] T.xN):=bf;have aw:Ext aB aR:=dq.ext ag wA;have Qs:=cr au;have Z7:=cr al;have zL:Ext w aR:=(ah.trans aj).trans aw;clear bf dq ag bh;have e3:=aw.obj au;have lb:=aw.obj (aj.obj al);have gq:=ah.size;refine ay ?_;refine J_ (ade (o.fk s) o.oq (fun x st=>o.jc x s (st.getLastD 0)) (aij s) (fun _=>True) b w aR zL Aw gQ _ _ e he e3 (fun _ _ _ _ _ _ _=>trivial) ?_ ?_) ?_
 .intro x st base m w' af hm zS _ cO de dQ S6 cK t hh hk;refine V_ (first:=[]) (cap:=[.pointer (some ⟨pm,0,none⟩),.pointer (some ⟨dk,0,none⟩)]) Cq
   (am8 x _ s base b pm dk S6 m st _ af (h.ext ((hm.ext zL (by intro k hk e;omega)).trans hh)) (zS.ext hh) ?_ (hh.obj (hm.obj Aw Pr)) (hh.obj (hm.obj Aw lb))) fun v bM ⟨h1,I⟩=>by subst h1;exact hk bM I
  intro ab
  have:o.fe x.op=1:=by rw[ab];rfl
  omega
 .rintro ae ep fc l w' cK t hm ⟨u,rfl,a6⟩ _ az U hk;exact _e (first:=[]) (cap:=[]) Cq (anj ae u fc l w' U) fun v bM ⟨h1,I⟩=>by subst h1;exact hk bM I
 rintro _ bo ⟨rfl,ly⟩;have aF:Ext w bo:=ly.ext zL (by intro k hk e;omega);refine ay ?_;exact b5
end Go.Proofs.R
end
section
namespace o
open Go Go.RowKit a7
def TZ(v:B_):H_ (Var×Int)->Prop
 | some q=>v = .tuple #[.agg q.1.enc.toArray,.int .i64 q.2,.bool true]
 | none => ∃(x:Var) (k:Int),v = .tuple #[.agg x.enc.toArray,.int .i64 k,.bool false]
end o
namespace Go.Proofs.R
open Go Go.RowKit a7
theorem W6(a b:Int)(cs:C_ B_)(s:o.Scope)(w:A_)(h:o.fU w cs s) :
  Dz F.f7 #[.I a,.I b,.agg cs.toArray] w fun v w'=>v = .tuple #[.I (o.lG a b s).1,.bool (o.lG a b s).2]/\Ext w w':=by
 obtain⟨a0,bu,cZ,c1,a2,c2,a3,bp,a4,bB,rfl,ad,h1,I,ab,aE,eU,eh,eo,dY,ew⟩:=h.form;refine bl E.f7 ?_;refine aa ?_;intro w1 b an ah al;refine aa ?_
 (repeat' (refine ay ?_;first | (refine I_ (fun _=>?_) (fun _=>?_)<;>try (exfalso;omega)) | refine N_ (fun _=>?_) (fun _=>?_)))<;>try refine ay ?_
 all_goals
  refine⟨?_,fE⟩;unfold o.lG
  (repeat' split)<;>first | rfl | (exfalso;omega)
theorem Xc(v:B_)(l:C_ o.Var)(n:Int)(cs:C_ B_)(s:o.Scope)(w:A_)(az:o.hR w v l)(h:o.fU w cs s) :
  Dz F.Bk #[v,.I n,.agg cs.toArray] w fun v w'=>o.TZ v (o.declared l n s)/\Ext w w':=by
 obtain⟨v0,v1,v2,v3,v4,rfl,_⟩:=h.ex;obtain⟨aO,cap,rfl,hlen⟩:=az.form;refine bl E.Bk ?_;refine aa ?_;intro w1 br cF ah al;refine aa ?_;intro aB bP db aj au;have he:=ah.trans aj;refine aa ?_;apply I_<;>intro g1
 .refine aa ?_;intro aK fY bh;refine aa ?_;rw[o.declared,o.gI (.inl g1)];exact⟨⟨(⟨⟨#[]⟩,0,0,0,0,0⟩:o.Var),0,rfl⟩,fY.ext he (by have:=ah.size;omega)⟩
 refine aa ?_;apply I_<;>intro g2
 .refine aa ?_;intro aK fY bh;refine aa ?_;rw[o.declared,o.gI (.inr Aw)];exact⟨⟨(⟨⟨#[]⟩,0,0,0,0,0⟩:o.Var),0,rfl⟩,fY.ext he (by have:=ah.size;omega)⟩
 obtain⟨i,rfl⟩:=Rt (show 0<=n by omega);have U:i<l.length:=Aw
 rw[o.declared,o.iv Aw Aw];simp only[Int.toNat_natCast];obtain⟨a,rfl⟩:=az.addr;refine aa ?_;refine P_ _ (fun w' e=>W6 _ _ _ s w' (h.ext (he.trans e))) ?_;refine aa ?_;intro aK ag;have au:=ag.obj au;refine aa ?_;intro aR dq bf;refine aa ?_;refine⟨?_,dq.ext (he.trans ag) (by have:=ah.size;omega)⟩;by_cases an:(o.lG l[i].scalar l[i].over s).2=true
 .rw[if_pos an,an];rfl
 .rw[if_neg an,Bool.eq_false_iff.2 an];exact⟨_,_,rfl⟩
theorem agw(n:Int)(cs:C_ B_)(s:o.Scope)(w:A_)(h:o.fU w cs s) :
  Dz F.Bl #[.I n,.agg cs.toArray] w fun v w'=>v = .tuple #[.I ((o.channel n s).getD 0),.bool (o.channel n s).isSome]/\Ext w w':=by
 obtain⟨a0,bu,cZ,c1,a2,c2,a3,bp,a4,bB,rfl,ad,h1,I,ab,aE,eU,eh,eo,dY,ew⟩:=h.form;refine bl E.Bl ?_;refine aa ?_;intro w1 br cF ah al;refine aa ?_;apply I_<;>intro g1
 .refine aa ?_;rw[o.channel,o.gI (.inl g1)];exact b5
 refine aa ?_;apply I_<;>intro g2
 .refine aa ?_;rw[o.channel,o.gI (.inr Aw)];exact b5
 obtain⟨i,rfl⟩:=Rt (show 0<=n by omega);have U:i<s.ar.length:=Aw
 rw[o.channel,o.iv Aw Aw];simp only[Int.toNat_natCast];obtain⟨a,rfl⟩:=I.addr;refine aa ?_;refine P_ _ (fun w' e=>W6 _ _ _ s w' (h.ext (ah.trans e))) ?_;refine aa ?_;intro aB aj;refine aa ?_;refine⟨?_,fE⟩;by_cases an:(o.lG s.ar[i].scalar 0 s).2=true
 .rw[if_pos an,an];rfl
 .rw[if_neg an,Bool.eq_false_iff.2 an];rw[o.ash (Bool.eq_false_iff.2 an)];rfl
theorem Nz(gQ:B_)(e:C_ o.Node)(k:Int)(cs:C_ B_)(s:o.Scope)(w:A_)(ax:o.eL w gQ e)(h:o.fU w cs s) :
  Dz F.Ie #[gQ,.I k,.agg cs.toArray] w fun v w'=>v = .I (o.asked e k s)/\Ext w w':=by
 obtain⟨v0,v1,v2,v3,v4,rfl,_⟩:=h.ex;refine bl E.Ie ?_;refine aa ?_;intro w1 br cF ah al;refine aa ?_;refine J_ (aa3 gQ e _ s w1 (ax.ext ah) (h.ext ah)) ?_;rintro _ aB ⟨rfl,aj⟩;refine aa ?_;rw[o.asked];apply I_<;>intro g1
 .rw[if_neg (by simpa using g1)];refine aa ?_;apply I_<;>intro g2
  .refine aa ?_;rw[if_neg (by simpa using g2)];exact b5
  refine aa ?_;rw[if_pos g2];exact b5
 refine aa ?_;rw[if_pos g1];exact b5
theorem SQ(a:o.Act)(bH bV:B_)(w:A_):Dz F.Ig #[.agg (a.enc bH bV).toArray] w fun v w'=>v = .bool (o.hn a)/\Ext w w':=by
 refine bl E.Ig ?_;refine aa ?_;intro w1 br cF ah al;refine aa ?_;rw[o.hn];apply I_<;>intro g1
 .refine aa ?_;refine⟨?_,fE⟩;congr 1;simp[g1]
 refine aa ?_;refine⟨?_,fE⟩;congr 1;simp[g1]
theorem aqp(a:o.Act)(bH bV:B_)(k:Int)(cs:C_ B_)(s:o.Scope)(w:A_)(h:o.fU w cs s) :
  Dz F.Ix #[.agg (a.enc bH bV).toArray,.I k,.agg cs.toArray] w fun v w'=>v = .I (o.F6 a k s)/\Ext w w':=by
 obtain⟨v0,v1,v2,v3,v4,rfl,ad,h1,I,ab,aE,_⟩:=h.ex;refine bl E.Ix ?_;refine aa ?_;intro w1 br cF ah al;refine aa ?_;intro aB bP db aj au;have he:=ah.trans aj;refine aa ?_;refine J_ (Xc v4 s.locals a.loc _ s aB (aE.ext he) (h.ext he)) ?_;rintro q aK ⟨ao,ag⟩;rw[o.F6];cases a6:o.declared s.locals a.loc s with
 | none =>
  rw[a6] at ao;obtain⟨x,k',rfl⟩:=ao;refine aa ?_;intro aR cx e3 aw bf;refine aa ?_;exact b5
 | some q =>
  obtain⟨x,k'⟩:=q;rw[a6] at ao;subst ao;refine aa ?_;intro aR cx e3 aw bf;refine aa ?_;apply I_<;>intro g1
  .refine aa ?_;apply I_<;>intro g2
   .refine aa ?_;simp only[g1,g2,ne_eq,not_true_eq_false,or_self,if_false];exact b5
   refine aa ?_;simp only[g2,ne_eq,not_false_eq_true,or_true,if_true];exact b5
  refine aa ?_;simp only[g1,ne_eq,not_false_eq_true,true_or,if_true];exact b5
end Go.Proofs.R
end
section
namespace o
open Go Go.RowKit a7
theorem Nq{s:Scope}{l:C_ Act}{k:Nat}{t:Bool}(h:k<l.length) :
  kV s (l.drop k) k t=if hn l[k]&&t then (2+(k:Int),7) else if kA l[k] s≠0 then (2+(k:Int),kA l[k] s) else kV s (l.drop (k+1)) (k+1) (t||hn l[k]):=by
 rw[AF3 h];rfl
end o
namespace Go.Proofs.R
open Go Go.RowKit a7
theorem Nk(k:Int)(a:o.Act)(bH bV:B_)(cs:C_ B_)(s:o.Scope)(w:A_)(br bP:Nat)(cF:w.heap[br]? = some (.cells (a.enc bH bV).toArray T.y))(db:w.heap[bP]? = some (.cells cs.toArray T.w))
  (aD:o.eL w bV a.value)(h:o.fU w cs s) :
  Dz F.Iw #[.I k,.pointer (some ⟨br,0,none⟩),.pointer (some ⟨bP,0,none⟩)] w fun v w'=>v = .I (o.asked a.value k s)/\Ext w w':=by
 obtain⟨v0,v1,v2,v3,v4,rfl,_⟩:=h.ex;refine bl E.Iw ?_;refine aa ?_;refine J_ (Nz bV a.value k _ s w aD h) ?_;rintro _ aB ⟨rfl,aj⟩;refine aa ?_;exact b5
theorem ae5(a:o.Act)(bH bV:B_)(cs:C_ B_)(s:o.Scope)(w:A_)(U:o.eL w bH a.index)(aD:o.eL w bV a.value)(h:o.fU w cs s) :
  Dz F.Ih #[.agg (a.enc bH bV).toArray,.agg cs.toArray] w fun v w'=>v = .I (o.kA a s)/\Ext w w':=by
 obtain⟨v0,v1,v2,v3,v4,rfl,ad,h1,I,ab,aE,eU⟩:=h.ex;refine bl E.Ih ?_;refine aa ?_;intro w1 br cF ah al;refine aa ?_;intro aB bP db aj au;have he:=ah.trans aj;have al:=aj.obj al;by_cases q:a.kind=1\/a.kind=2\/a.kind=3
 .rw[o.kA,if_pos q];generalize cM:(if a.kind=3 then s.locals else s.vars)=L;have qj:∀nc n,nc=(if a.kind=3 then v4 else v1)->Dz F.Bk #[nc,.I n,.agg #[v0,v1,v2,v3,v4,.I s.self]] aB fun v w'=>o.TZ v (o.declared L n s)/\Ext aB w':=by
   rintro nc n rfl;refine Xc _ L n _ s aB ?_ (h.ext he);rw[<-cM];split
   .exact aE.ext he
   .exact h1.ext he
  by_cases rC:a.kind=2
  .refine aa ?_;refine J_ (qj _ _ (by simp[rC])) ?_;rintro u aK ⟨ao,ag⟩;have al:=ag.obj al;have au:=ag.obj au;have wh:=he.trans ag;cases a6:o.declared L a.to s with
   | none =>
    rw[a6] at ao;obtain⟨x,k',rfl⟩:=ao;refine aa ?_;intro aR cx e3 aw bf;refine aa ?_;exact b5
   | some u =>
    obtain⟨x,k'⟩:=u;rw[a6] at ao;subst ao;have Qq:=o.ag3 a6;simp only at Qq;refine aa ?_;intro aR cx e3 aw bf;have al:=aw.obj al;have au:=aw.obj au;have ql:=wh.trans aw;refine aa ?_;refine _7 Cq ?_;refine aa ?_;by_cases de:x.over=0
    .refine _F (by simp[rC,de]) ?_;refine aa ?_;exact⟨by simp[rC,de],fE⟩
    refine _G (by simp[rC,de]) ?_;refine aa ?_;refine J_ (Nz bH a.index _ _ s aR (U.ext ql) (h.ext ql)) ?_;rintro _ bo ⟨rfl,aF⟩;have al:=aF.obj al;have au:=aF.obj au;have Ji:=ql.trans aF;refine aa ?_;refine I_ (fun dQ=>?_) (fun dQ=>?_)
    .refine aa ?_;refine V_ (first:=[]) (cap:=[_,_]) Cq (Nk k' a bH bV _ s bo br bP al au (aD.ext Ji) (h.ext Ji)) ?_;rintro _ bt ⟨rfl,aI⟩;refine aa ?_;exact⟨by simp[rC,de,dQ],fE⟩
    .refine aa ?_;exact⟨by simp[rC,de,dQ],fE⟩
  have tS:a.kind=1\/a.kind=3:=Aw
  clear q;rcases tS with q | q
  all_goals
   refine aa ?_;refine J_ (qj _ _ (by simp[q])) ?_;rintro u aK ⟨ao,ag⟩;have al:=ag.obj al;have au:=ag.obj au;have wh:=he.trans ag;cases a6:o.declared L a.to s with
   | none =>
    rw[a6] at ao;obtain⟨x,k',rfl⟩:=ao;refine aa ?_;intro aR cx e3 aw bf;refine aa ?_;exact b5
   | some u =>
    obtain⟨x,k'⟩:=u;rw[a6] at ao;subst ao;refine aa ?_;intro aR cx e3 aw bf;have al:=aw.obj al;have au:=aw.obj au;have ql:=wh.trans aw;refine aa ?_;refine _7 Cq ?_;refine aa ?_;by_cases de:x.over=0
    .refine _G (by simp[q,de]) ?_;refine aa ?_;refine V_ (first:=[]) (cap:=[_,_]) Cq (Nk k' a bH bV _ s aR br bP al au (aD.ext ql) (h.ext ql)) ?_;rintro _ bt ⟨rfl,aI⟩;refine aa ?_;exact⟨by simp[q,de],fE⟩
    .refine _F (by simp[q,de]) ?_;refine aa ?_;exact⟨by simp[q,de],fE⟩
 by_cases gK:a.kind=4\/a.kind=5
 .rw[o.kA,if_neg q,if_pos gK];have R5:a.kind≠3:=Aw
  have CB:a.kind≠1:=Aw
  have R6:a.kind≠2:=Aw
  have step:∀(w':A_),Ext aB w'->Dz F.Bl #[.I a.to,.agg #[v0,v1,v2,v3,v4,.I s.self]] w' fun v bM=>v = .tuple #[.I ((o.channel a.to s).getD 0),.bool (o.channel a.to s).isSome]/\Ext w' bM :=
   fun w' e=>agw a.to _ s w' (h.ext (he.trans e))
  rcases gK with gK | gK
  .refine aa ?_;refine J_ (step aB (Ext.refl _)) ?_;rintro _ aK ⟨rfl,ag⟩;have al:=ag.obj al;have au:=ag.obj au;have wh:=he.trans ag;cases a6:o.channel a.to s with
   | none =>
    simp only[Option.isSome_none,Option.getD_none];refine aa ?_;exact b5
   | some k =>
    simp only[Option.isSome_some,Option.getD_some];refine aa ?_;refine V_ (first:=[]) (cap:=[_,_]) Cq (Nk k a bH bV _ s aK br bP al au (aD.ext wh) (h.ext wh)) ?_;rintro _ bt ⟨rfl,aI⟩;refine aa ?_;exact⟨by simp[gK],fE⟩
  .refine aa ?_;refine J_ (step aB (Ext.refl _)) ?_;rintro _ aK ⟨rfl,ag⟩;have al:=ag.obj al;have au:=ag.obj au;have wh:=he.trans ag;cases a6:o.channel a.to s with
   | none =>
    simp only[Option.isSome_none,Option.getD_none];refine aa ?_;exact b5
   | some k =>
    simp only[Option.isSome_some,Option.getD_some];refine aa ?_;refine J_ (aqp a bH bV k _ s aK (h.ext wh)) ?_;rintro _ bt ⟨rfl,aI⟩;refine aa ?_;exact⟨by simp[gK],fE⟩
 rw[o.kA,if_neg q,if_neg gK];have R5:a.kind≠3:=Aw
 have CB:a.kind≠1:=Aw
 have R6:a.kind≠2:=Aw
 have aco:a.kind≠4:=Aw
 have avZ:a.kind≠5:=Aw
 refine aa ?_;exact b5
end Go.Proofs.R
end
section
namespace o
open Go
theorem akM{c:dr}{n:Int}(h:head c n=0):isName c.name=true/\0<=c.from_/\c.from_<n/\0<=c.to/\c.to<n/\c.bE.length<=6:=by
 unfold head at h;by_cases h1:isName c.name=false
 .rw[if_pos h1] at h;cases h
 rw[if_neg h1] at h;by_cases I:c.from_<0\/n<=c.from_\/c.to<0\/n<=c.to
 .rw[if_pos I] at h;cases h
 rw[if_neg I] at h;by_cases ab:c.bE.length > 6
 .rw[if_pos ab] at h;cases h
 exact⟨by simpa using h1,Aw,Aw,Aw,Aw,Aw⟩
end o
end
section
namespace o
open Go Go.RowKit a7
theorem WW{l:C_ Act}{k:Nat}(h:k<l.length):comm (l.drop k)=if hn l[k] then (l[k].kind,l[k].to) else comm (l.drop (k+1)):=by
 rw[AF3 h];rfl
end o
namespace Go.Proofs.R
open Go Go.RowKit a7
theorem Zn(n:Int)(p:o.dw)(pM rB:B_)(w:A_)(b:Nat)(an:w.heap[b]? = some (.cells (p.enc pM rB).toArray T.k)) :
  Dz F.Iv #[.I n,.pointer (some ⟨b,0,none⟩)] w fun v w'=>v = .bool (decide (n<0\/p.b2<=n))/\w'=w:=by
 refine bl E.Iv ?_;refine aa ?_;apply I_<;>intro g1
 .refine aa ?_;exact⟨by simp[g1],aL⟩
 refine aa ?_;exact⟨by simp[g1],aL⟩
theorem akN(c:o.dr)(e6 dn:B_)(p:o.dw)(pM rB:B_)(w:A_)(aJ:gF w)(ax:o.jB c.name)(aU:o.lK w dn c.bE) :
  Dz F.Ic #[.agg (c.enc e6 dn).toArray,.agg (p.enc pM rB).toArray] w fun v w'=>v = .I (o.head c p.b2)/\Ext w w':=by
 obtain⟨aO,cap,rfl,hlen⟩:=aU.form;refine bl E.Ic ?_;refine aa ?_;intro w1 br cF ah al;refine aa ?_;intro aB bP db aj au;have he:=ah.trans aj;have al:=aj.obj al;refine aa ?_;refine J_ (Ll c.name aB (aJ.ext he) ax) ?_;rintro _ aK ⟨rfl,ag⟩;have al:=ag.obj al;have au:=ag.obj au;have wh:=he.trans ag;rw[o.head];refine aa ?_;refine N_ (fun g1=>?_) (fun g1=>?_);rotate_left
 .refine aa ?_;exact⟨by simp[g1],fE⟩
 refine aa ?_;refine V_ (first:=[]) (cap:=[_]) Cq (Zn c.from_ p pM rB aK bP au) ?_;rintro _ _ ⟨rfl,rfl⟩;refine aa ?_;apply I_<;>intro g2
 .refine aa ?_;refine⟨?_,fE⟩;rw[if_neg (by simp[g1]),if_pos Aw]
 refine aa ?_;refine V_ (first:=[]) (cap:=[_]) Cq (Zn c.to p pM rB _ bP au) ?_;rintro _ _ ⟨rfl,rfl⟩;refine aa ?_;apply I_<;>intro g3
 .refine aa ?_;refine⟨?_,fE⟩;rw[if_neg (by simp[g1]),if_pos Aw]
 refine aa ?_;apply I_<;>intro g4
 .refine aa ?_;refine⟨?_,fE⟩;rw[if_neg (by simp[g1]),if_neg Aw,if_pos Aw]
 .refine aa ?_;refine⟨?_,fE⟩;rw[if_neg (by simp[g1]),if_neg Aw,if_neg Aw]
theorem WX(c:o.dr)(e6 dn:B_)(w:A_)(aU:o.lK w dn c.bE) :
  Dz F.dS #[.agg (c.enc e6 dn).toArray] w fun v w'=>v = .tuple #[.I (o.comm c.bE).1,.I (o.comm c.bE).2]/\Ext w w':=by
 obtain⟨aO,cap,rfl,hlen⟩:=aU.form;refine bl E.dS ?_;refine aa ?_;intro w1 br cF ah al;refine aa ?_;refine L_ 9 c.bE.length [7,8] (fun _=>[]) () (fun k _ w'=>Ext w w'/\o.comm c.bE=o.comm (c.bE.drop k)) a8 a8 ⟨ah,Bh⟩ ?_;rintro k _ S aB hk ⟨aj,aX⟩;refine aa ?_;apply I_<;>intro g1
 .have aV:k<c.bE.length:=Aw
  obtain⟨a,rfl⟩:=aU.addr;obtain⟨bH,bV,gj,eM,qz⟩:=aU.at k aV;obtain⟨_,_,rfl,_⟩:=eM.form;obtain⟨_,_,rfl,_⟩:=qz.form;rw[o.WW aV] at aX;refine aa ?_
  try (refine Z_ (gj.ext aj) rfl ?_;refine aa ?_)
  intro aK bR e9 ag bh;refine aa ?_;refine J_ (SQ c.bE[k] _ _ aK) ?_;rintro _ aR ⟨rfl,aw⟩;refine aa ?_;refine N_ (fun g2=>?_) (fun g2=>?_)
  .refine aa ?_;intro bo aF;refine aa ?_;rw[aX,if_pos g2];exact b5
  refine aa ?_;rw[if_neg (by simp[g2])] at aX;exact⟨aV,aL,(),by trivial,fE,aX⟩
 .refine aa ?_;rw[aX,AF0 Aw];exact b5
theorem agH(c:o.dr)(e6 dn:B_)(p:o.dw)(pM rB:B_)(cs:C_ B_)(s:o.Scope)(w:A_)(aJ:gF w)(ax:o.jB c.name)(aH:o.eL w e6 c.guard)(aU:o.lK w dn c.bE)
  (aD:o.hR w pM p.vars)(ai:o.rO w rB p.cy)(h:o.fU w cs s) :
  Dz F.H4 #[.agg (c.enc e6 dn).toArray,.agg (p.enc pM rB).toArray,.agg cs.toArray] w fun v w' =>
   v = .tuple #[.I (o.jn c p.b2 s).1,.I (o.jn c p.b2 s).2]/\Ext w w':=by
 obtain⟨a0,bu,cZ,c1,a2,c2,a3,bp,a4,bB,rfl,_⟩:=h.form;obtain⟨aO,cap,rfl,hlen⟩:=aU.form;obtain⟨gn,af3,rfl,alh⟩:=aH.form;obtain⟨_,_,rfl,_⟩:=aD.form;obtain⟨_,_,rfl,_⟩:=ai.form;refine bl E.H4 ?_;refine aa ?_;intro w1 br cF ah al;refine aa ?_;intro aB bP db aj au;refine aa ?_;intro aK bR e9 ag bh;have he:=(ah.trans aj).trans ag;have al:=(aj.trans ag).obj al;have au:=ag.obj au;refine aa ?_;refine J_ (akN c _ _ p _ _ aK (aJ.ext he) ax (aU.ext he)) ?_;rintro _ aR ⟨rfl,aw⟩;have al:=aw.obj al;have bh:=aw.obj bh;have ql:=he.trans aw;rw[o.jn];refine aa ?_;apply I_<;>intro g1;rotate_left
 .refine aa ?_;exact⟨by simp[g1],fE⟩
 rw[if_neg (by simpa using g1)];have bz:=(o.akM g1).2.2.2.2.2;refine dO ?_;refine S_ [3,4,5] (fun _=>[]) (fun(_:Unit) w'=>Ext aR w'/\¬(c.guard.length > 0/\o.asked c.guard 1 s≠0)) ?_ ?_
 .refine aa ?_;apply I_<;>intro g2
  .refine aa ?_;refine J_ (Nz _ c.guard 1 _ s aR (aH.ext ql) (h.ext ql)) ?_;rintro _ bo ⟨rfl,aF⟩;refine aa ?_;apply I_<;>intro g3
   .refine aa ?_;exact⟨(),trivial,fE,fun cN=>cN.2 g3⟩
   .refine aa ?_;rw[if_pos ⟨Aw,g3⟩];exact b5
  .refine aa ?_;exact⟨(),trivial,fE,fun cN=>g2 Aw⟩
 rintro _ S bo ⟨aF,tp⟩;have al:=aF.obj al;have bh:=aF.obj bh;have Ji:=ql.trans aF;rw[if_neg tp];refine aa ?_;refine L_ 34 c.bE.length [3,4,5,32,33] (fun b=>[(10,.bool b)]) false (fun k b w'=>Ext bo w'/\o.kV s c.bE 0 false=o.kV s (c.bE.drop k) k b) a8 a8 ⟨Ext.refl _,Bh⟩ ?_;rintro k b S bt hk ⟨aI,aX⟩;have wi:=Ji.trans aI;refine aa ?_;apply I_<;>intro g1
 .have aV:k<c.bE.length:=Aw
  obtain⟨a,rfl⟩:=aU.addr;obtain⟨bH,bV,gj,eM,qz⟩:=aU.at k aV;obtain⟨_,_,rfl,_⟩:=eM.form;obtain⟨_,_,rfl,_⟩:=qz.form;rw[o.Nq aV] at aX;refine aa ?_;intro bG iC ia bm cf;refine dO ?_;intro cQ iK cn;have wk:=iK.ext bm ia;have Jk:=wi.trans wk;have bh:=(aI.trans wk).obj bh;refine dO ?_;refine S_ [3,5,10,11,12,32,33,34] (fun _=>[]) (fun(_:Unit) w'=>Ext cQ w'/\¬(o.hn c.bE[k]&&b)=true) ?_ ?_
  .refine aa ?_;refine J_ (SQ c.bE[k] _ _ cQ) ?_;rintro _ cS ⟨rfl,bT⟩;refine aa ?_;refine N_ (fun g2=>?_) (fun g2=>?_)
   .refine aa ?_;refine N_ (fun g3=>?_) (fun g3=>?_)
    .refine aa ?_;rw[aX,if_pos (by simp[g2,g3])];exact b5
    .refine aa ?_;exact⟨(),trivial,fE,by simp[g3]⟩
   .refine aa ?_;exact⟨(),trivial,fE,by simp[g2]⟩
  rintro _ S cS ⟨bT,g2⟩;rw[if_neg g2] at aX;have cn:=bT.obj cn;have bh:=bT.obj bh;refine dO ?_;refine S_ [3,5,11,12,32,33,34] (fun u=>[(10,.bool u)]) (fun u w'=>Ext cS w'/\u=(b||o.hn c.bE[k])) ?_ ?_
  .refine aa ?_;refine N_ (fun g3=>?_) (fun g3=>?_)
   .refine aa ?_;exact⟨true,a8,fE,by simp[g3]⟩
   .refine aa ?_;refine J_ (SQ c.bE[k] _ _ cS) ?_;rintro _ eG ⟨rfl,ch⟩;refine aa ?_;exact⟨o.hn c.bE[k],a8,fE,by simp[g3]⟩
  rintro _ S eG ⟨ch,rfl⟩;have cn:=ch.obj cn;have bh:=ch.obj bh;have PN:=(Jk.trans bT).trans ch;have auD:=((aI.trans wk).trans bT).trans ch;refine aa ?_;refine J_ (ae5 c.bE[k] _ _ _ s eG (eM.ext PN) (qz.ext PN) (h.ext PN)) ?_;rintro _ fN ⟨rfl,eg⟩;refine aa ?_;apply I_<;>intro g3
  .refine aa ?_;rw[if_neg (by simpa using g3)] at aX;exact⟨aV,aL,_,a8,fE,aX⟩
  .refine aa ?_;rw[aX,if_pos g3];exact b5
 .refine aa ?_;rw[aX,AF0 Aw];exact b5
theorem asV(c:o.dr)(e6 dn dL:B_)(l:C_ o.dg)(w:A_)(aU:o.lK w dn c.bE)(az:o.mC w dL l) :
  Dz F.d0 #[.agg (c.enc e6 dn).toArray,dL] w fun v w'=>v = .I (o.ways c l)/\Ext w w':=by
 obtain⟨aO,cap,rfl,hlen⟩:=az.form;obtain⟨aoD,zg,rfl,EW⟩:=aU.form;refine bl E.d0 ?_;refine aa ?_;intro w1 br cF ah al;refine aa ?_;refine J_ (WX c e6 _ w1 (aU.ext ah)) ?_;rintro _ aB ⟨rfl,aj⟩;rw[o.ways];refine aa ?_;apply I_<;>intro g1;rotate_left
 .refine aa ?_;exact⟨by simp[g1],fE⟩
 rw[if_pos g1];refine aa ?_;apply I_<;>intro g2;rotate_left
 .refine aa ?_;rw[o.gI (.inl Aw)];exact b5
 refine aa ?_;apply I_<;>intro g3;rotate_left
 .refine aa ?_;rw[o.gI (.inr Aw)];exact b5
 rw[o.iv Aw Aw];obtain⟨a,rfl⟩:=az.addr;have U:(o.comm c.bE).2.toNat<l.length:=Aw
 refine aa ?_;refine K_ (o.comm c.bE).2.toNat Aw U ?_;refine aa ?_;refine N_ (fun g4=>?_) (fun g4=>?_)
 .refine aa ?_;exact⟨by simp[g4],fE⟩
 .refine aa ?_;exact⟨by simp[g4],fE⟩
end Go.Proofs.R
end
section
namespace o
theorem abq{s:Scope}{l:C_ Var}{k:Nat}(h:k<l.length):qE s (l.drop k) k=if l[k].over≠0 then ((k:Int),9) else if s.vars.any (fun x=>decide (x.name=l[k].name)) then ((k:Int),7) else qE s (l.drop (k+1)) (k+1):=by
 rw[AF3 h];rfl
theorem WU{own:Scope}{b2:Int}{all l:C_ dr}{k:Nat}(h:k<l.length):lO own b2 all (l.drop k) k=if (jn l[k] b2 own).2≠0 then (2+(k:Int),(jn l[k] b2 own).1,(jn l[k] b2 own).2)
  else if (all.take k).any (fun x=>decide (x.name=l[k].name)) then (2+(k:Int),0,7) else lO own b2 all (l.drop (k+1)) (k+1):=by
 rw[AF3 h];rfl
end o
namespace Go.Proofs.R
open Go Go.RowKit a7
theorem asX(p:o.dw)(bQ bZ:H_ Addr)(o5 bp bB:Nat)(cs:C_ B_)(s:o.Scope)(w:A_)(aJ:gF w)(ax:o.jB p.name)(h:o.fU w cs s) :
  Dz F.el #[.agg (p.enc (.slice bQ o5 bp) (.slice bZ p.cy.length bB)).toArray,.agg cs.toArray] w fun v w'=>v = .I (o.whole p s)/\Ext w w':=by
 obtain⟨a0,bu,cZ,c1,a2,c2,a3,d3,a4,d4,rfl,ad,h1,I,ab,aE,eU,eh,eo,dY,ew⟩:=h.form;refine bl E.el ?_;refine aa ?_;intro w1 br cF ah al;refine aa ?_;intro aB bP db aj au;have cY:∀{w'},Ext aB w'->Ext w w':=fun e=>(ah.trans aj).trans e;have al:=aj.obj al;refine aa ?_;refine J_ (Ll p.name aB (aJ.ext (cY (Ext.refl _))) ax) ?_;rintro _ aK ⟨rfl,ag⟩;have al:=ag.obj al;have au:=ag.obj au;rw[o.whole];refine aa ?_;refine N_ (fun g1=>?_) (fun g1=>?_);rotate_left
 .refine aa ?_;exact⟨by rw[if_pos g1],cY ag⟩
 rw[if_neg (by simp[g1])];refine aa ?_;apply I_<;>intro g2
 .refine aa ?_;exact⟨by rw[if_pos (.inl g2)],cY ag⟩
 refine aa ?_;apply I_<;>intro g3
 .refine aa ?_;exact⟨by rw[if_pos (.inr Aw)],cY ag⟩
 rw[if_neg Aw];refine aa ?_;apply I_<;>intro g4
 .refine aa ?_;exact⟨by rw[if_pos (.inl g4)],cY ag⟩
 refine aa ?_;apply I_<;>intro g5
 .refine aa ?_;exact⟨by rw[if_pos (.inr Aw)],cY ag⟩
 rw[if_neg Aw];refine aa ?_;apply I_<;>intro g6
 .refine aa ?_;exact⟨by rw[if_pos Aw],cY ag⟩
 refine aa ?_;exact⟨by rw[if_neg Aw],cY ag⟩
theorem anR(x v:o.Var)(b:Nat)(w:A_)(ai:w.heap[b]? = some (.cells v.enc.toArray T.l)) :
  Dz F.be #[.agg x.enc.toArray,.pointer (some ⟨b,0,none⟩)] w fun u w'=>u = .bool (decide (x.name=v.name))/\Ext w w':=by
 refine bl E.be ?_;refine aa ?_;intro w1 br cF ah al;refine aa ?_;exact b5
theorem agG(x c:o.dr)(bI bO bQ bZ:H_ Addr)(jy ke o5 tJ c1 c2 bp bB:Nat)(b:Nat)(w:A_)(ai:w.heap[b]? = some (.cells (c.enc (.slice bQ o5 bp) (.slice bZ tJ bB)).toArray T.s)) :
  Dz F.a9 #[.agg (x.enc (.slice bI jy c1) (.slice bO ke c2)).toArray,.pointer (some ⟨b,0,none⟩)] w fun u w'=>u = .bool (decide (x.name=c.name))/\Ext w w':=by
 refine bl E.a9 ?_;refine aa ?_;intro w1 br cF ah al;refine aa ?_;exact b5
theorem anS(p:o.dw)(bQ bZ:H_ Addr)(bp tJ bB:Nat)(cs:C_ B_)(s:o.Scope)(w:A_)(aJ:gF w)(aD:o.hR w (.slice bQ p.vars.length bp) p.vars)(h:o.fU w cs s) :
  Dz F.em #[.agg (p.enc (.slice bQ p.vars.length bp) (.slice bZ tJ bB)).toArray,.agg cs.toArray] w fun v w'=>v = .tuple #[.I (o.lE p s).1,.I (o.lE p s).2]/\Ext w w':=by
 obtain⟨a0,bu,cZ,c1,a2,c2,a3,d3,a4,d4,rfl,ad,h1,I,ab,aE,eU,eh,eo,dY,ew⟩:=h.form;have fc:p.vars.length<=9223372036854775807:=by have:=(bg.len aD).2;unfold maxLen at this;omega
 refine bl E.em ?_;refine aa ?_;intro w1 br cF ah al;refine aa ?_;intro aB bP db aj au;have cY:∀{w'},Ext aB w'->Ext w w':=fun e=>(ah.trans aj).trans e;have al:=aj.obj al;refine aa ?_;refine J_ (ad1 _ _ p.vars s.scalars 4 aB (aJ.ext (cY (Ext.refl _))) (aD.ext (cY (Ext.refl _))) (ad.ext (cY (Ext.refl _)))) ?_;rintro _ aK ⟨rfl,ag⟩;have al:=ag.obj al;have au:=ag.obj au;rw[o.lE];refine aa ?_;apply I_<;>intro g1;rotate_left
 .refine aa ?_;exact⟨by rw[if_pos g1],cY ag⟩
 rw[if_neg (by simpa using g1)];have fD:∀{w'},Ext aK w'->Ext w w':=fun e=>cY (ag.trans e);refine aa ?_;refine L_ 25 p.vars.length [3,23,24] (fun _=>[]) () (fun k _ w'=>Ext aK w'/\o.qE s p.vars 0=o.qE s (p.vars.drop k) k) a8 a8 ⟨Ext.refl _,Bh⟩ ?_;rintro k _ S aR hk ⟨aw,aX⟩;refine aa ?_;apply I_<;>intro g2
 .have aV:k<p.vars.length:=Aw
  obtain⟨a,rfl⟩:=aD.addr;replace aD:=aD.ext (fD (Ext.refl _));rw[o.abq aV] at aX;refine aa ?_;intro C1 j0 lT nx q9;refine aa ?_;intro bo e4 bY;have aF:=e4.ext nx lT;refine aa ?_;apply I_<;>intro g3;rotate_left
  .refine aa ?_;exact⟨by rw[aX,if_pos g3],fD (aw.trans aF)⟩
  rw[if_neg (by simpa using g3)] at aX;refine aa ?_;refine J_ (W5 lz E.OR E.uB _ s.vars bo (h1.ext (fD (aw.trans aF))) F.be Cq [] [_] (fun x=>decide (x.name=p.vars[k].name)) ?_) ?_
  .rintro i U iU w' e ⟨rfl,_⟩;exact anR _ _ j0 w' (e.obj bY)
  rintro _ bt ⟨rfl,aI⟩;refine aa ?_;refine N_ (fun g4=>?_) (fun g4=>?_)
  .refine aa ?_;exact⟨by rw[aX,if_pos g4],fD ((aw.trans aF).trans aI)⟩
  .refine aa ?_;exact⟨aV,aL,(),trivial,(aw.trans aF).trans aI,by rw[aX,if_neg (by simp[g4])]⟩
 .refine aa ?_;exact⟨by rw[aX,AF0 Aw];rfl,fD aw⟩
theorem apr(p:o.dw)(FT cs:C_ B_)(s:o.Scope)(w:A_)(aJ:gF w)(aq:o.xD w FT p)(h:o.fU w cs s)(aH:s.cA)(oZ:p.cA) :
  Dz F.HI #[.agg FT.toArray,.agg cs.toArray] w fun v w'=>v = .tuple #[.I (o.hX p s).1,.I (o.hX p s).2.1,.I (o.hX p s).2.2]/\Ext w w':=by
 obtain⟨a0,bu,cZ,c1,a2,c2,a3,d3,a4,d4,rfl,ad,h1,I,ab,aE,eU,eh,eo,dY,ew⟩:=h.form;obtain⟨ax,pM,rB,rfl,aD,nw⟩:=aq;obtain⟨bQ,bp,rfl,fc⟩:=aD.form;obtain⟨bZ,bB,rfl,lc⟩:=nw.form;have oS:p.cy.length<=140737488351232:=by have:=oZ.cy;unfold o.ea at this;omega
 refine bl E.HI ?_;refine aa ?_;intro w1 br cF ah al;refine aa ?_;intro aB bP db aj au;have cY:∀{w'},Ext aB w'->Ext w w':=fun e=>(ah.trans aj).trans e;replace al:=aj.obj al;refine aa ?_;refine J_ (asX p _ _ _ _ _ _ s aB (aJ.ext (cY (Ext.refl _))) ax (h.ext (cY (Ext.refl _)))) ?_;rintro _ aK ⟨rfl,ag⟩;replace al:=ag.obj al;replace au:=ag.obj au;have fD:∀{w'},Ext aK w'->Ext w w':=fun e=>cY (ag.trans e);rw[o.hX];refine aa ?_;apply I_<;>intro g1;rotate_left
 .refine aa ?_;exact⟨by rw[if_pos g1],fD (Ext.refl _)⟩
 rw[if_neg (by simpa using g1)];refine aa ?_;refine J_ (anS p _ _ _ _ _ _ s aK (aJ.ext (fD (Ext.refl _))) (aD.ext (fD (Ext.refl _))) (h.ext (fD (Ext.refl _)))) ?_;rintro _ aR ⟨rfl,aw⟩;replace al:=aw.obj al;replace au:=aw.obj au;have dW:∀{w'},Ext aR w'->Ext w w':=fun e=>fD (aw.trans e);refine aa ?_;apply I_<;>intro g2;rotate_left
 .refine aa ?_;exact⟨by rw[if_pos g2],dW (Ext.refl _)⟩
 rw[if_neg (by simpa using g2)];refine aa ?_;refine J_ (aay p _ _ _ _ _ _ _ _ _ _ _ _ _ _ _ _ _ _ _ _ _ _ aR) ?_;rintro _ bo ⟨rfl,aF⟩;replace al:=aF.obj al;have ix:∀{w'},Ext bo w'->Ext w w':=fun e=>dW (aF.trans e);refine aa ?_;intro bt qY wb aI b1;replace al:=aI.obj al;have hq:∀{w'},Ext bt w'->Ext w w':=fun e=>ix (aI.trans e);have fs:∀w',Ext w w'->o.fU w' [.slice a0 s.scalars.length bu,.slice cZ s.vars.length c1,.slice a2 s.ar.length c2,.slice a3 s.procs.length d3,.slice bQ p.vars.length bp,.I p.over] (o.inner p s):=fun w' e =>
  ⟨(aH.inner oZ).rF.1,_,_,_,_,_,rfl,ad.ext e,h1.ext e,I.ext e,ab.ext e,aD.ext e,(aH.inner oZ).rF.2⟩
 refine aa ?_;refine L_ 37 p.cy.length [2,10,35,36] (fun _=>[]) () (fun k _ w'=>Ext bt w'/\o.lO (o.inner p s) p.b2 p.cy p.cy 0=o.lO (o.inner p s) p.b2 p.cy (p.cy.drop k) k) a8 a8 ⟨Ext.refl _,Bh⟩ ?_;rintro k _ S bG hk ⟨bm,aX⟩;replace al:=bm.obj al;replace b1:=bm.obj b1;refine aa ?_;apply I_<;>intro g3
 .have aV:k<p.cy.length:=Aw
  obtain⟨a,rfl⟩:=nw.addr;obtain⟨ak,e6,dn,fR,yr,wD⟩:=nw.at k aV;obtain⟨gn,gz,rfl,anJ⟩:=yr.form;obtain⟨aO,fz,rfl,qD⟩:=wD.form;rw[o.WU aV] at aX;replace fR:=fR.ext (hq (Ext.refl _));refine aa ?_;intro C1 Bi tj nx q9;refine aa ?_;intro cQ iK cn;have bA:=iK.ext nx tj;replace al:=bA.obj al;replace b1:=bA.obj b1;have hr:∀{w'},Ext cQ w'->Ext w w':=fun e=>hq ((bm.trans bA).trans e);clear q9 nx;refine aa ?_;refine J_ (agH p.cy[k] _ _ p _ _ _ (o.inner p s) cQ (aJ.ext (hr (Ext.refl _))) ak (yr.ext (hr (Ext.refl _))) (wD.ext (hr (Ext.refl _))) (aD.ext (hr (Ext.refl _))) (nw.ext (hr (Ext.refl _))) (fs _ (hr (Ext.refl _)))) ?_;rintro _ cS ⟨rfl,bT⟩;replace al:=bT.obj al;replace cn:=bT.obj cn;have gR:∀{w'},Ext cS w'->Ext w w':=fun e=>hr (bT.trans e);refine aa ?_;apply I_<;>intro g4;rotate_left
  .refine aa ?_;exact⟨by rw[aX,if_pos g4],gR (Ext.refl _)⟩
  rw[if_neg (by simpa using g4)] at aX;have hS:=(bg.len nw).2.1;refine aa ?_;refine _N (k:=.i64) k (by rfl) Aw ?_;refine aa ?_;refine J_ (W5 lz E.OQ E.IE _ (p.cy.take k) cS ((nw.head k Aw).ext o.y4.ext (gR (Ext.refl _))) F.a9 Cq [] [_] (fun x=>decide (x.name=p.cy[k].name)) ?_) ?_
  .rintro i U iU w' e ⟨_,awu,oE,rfl,amw,Q1⟩;obtain⟨_,_,rfl,_⟩:=amw.form;obtain⟨_,_,rfl,_⟩:=Q1.form;exact agG _ _ _ _ _ _ _ _ _ _ _ _ _ _ Bi w' (e.obj cn)
  rintro _ eG ⟨rfl,ch⟩;refine aa ?_;refine N_ (fun g5=>?_) (fun g5=>?_)
  .refine aa ?_;exact⟨by rw[aX,if_pos g5],gR ch⟩
  .refine aa ?_;exact⟨aV,aL,(),trivial,((bm.trans bA).trans bT).trans ch,by rw[aX,if_neg (by simp[g5])]⟩
 .refine aa ?_;exact⟨by rw[aX,AF0 Aw];rfl,hq bm⟩
end Go.Proofs.R
end
section
namespace a7
open Go Go.RowKit
theorem bg.NG{α:Type}{R:A_->Addr->α->Prop}{C:A_->C_ B_->α->Prop}{sz:Nat}[Rel R C sz]{w:A_}{b n:Nat}{e:F_}{cells:C_ B_}{xs:C_ α}(cd:C_ (e8 sz))(an:w.heap[b]? = some (.cells cells.toArray e))(akq:cells=cd.flatMap j2)
  (az:cd.length=xs.length)(ax:n=xs.length)(hm:xs.length<=maxLen)(ai:∀i (h1:i<cd.length) (I:i<xs.length),C w cd[i].1 xs[i]):bg sz R w (.slice (some ⟨b,0,none⟩) n n) xs:=by
 subst akq;exact bg.FQ az (bg.cm (enc:=j2) j3 an Aw Aw fun _ _ _ h=>h) ai
end a7
namespace o
open Go
theorem o3{n:Int}(h : -1000<=n/\n<=1000):dP n:=by unfold dP;omega
theorem CW(a b:Int)(s:Scope):(lG a b s).2=((hy a s).2&&(hy b s).2)/\((lG a b s).2=true->(lG a b s).1=(if a=0 then 0 else 1+a)):=by
 unfold lG hy;constructor
 ·(repeat' split)<;>first | rfl | (exfalso;omega)
 .intro h
  (repeat' split)<;>first | rfl | (exfalso;omega) | simp_all
theorem Xb{l:C_ Var}{n:Int}{s:Scope}(h:(gg l n s).2.2=false):declared l n s=none:=by
 unfold declared;unfold gg at h;cases ax:nth l n with
 | none=>rfl
 | some v =>
  rw[ax] at h;simp only at h ⊢;rw[if_neg];rw[(CW _ _ _).1,h];simp
theorem Xd{l:C_ Var}{n:Int}{s:Scope}{x:Var}(h:(gg l n s).2.2=true)(af:nth l n=some x):declared l n s=some (x,if x.scalar=0 then 0 else 1+x.scalar)/\0<=x.scalar/\x.scalar<=s.scalars.length/\0<=x.over/\x.over<=s.scalars.length:=by
 unfold gg at h;rw[af] at h;simp only at h;have aA:(lG x.scalar x.over s).2=true:=by rw[(CW _ _ _).1];exact h
 refine⟨?_,?_⟩
 .unfold declared;rw[af];simp only;rw[if_pos aA,(CW _ _ _).2 aA]
 .unfold lG at aA;split at aA
  .cases aA
  .omega
theorem agv{n:Int}{s:Scope}(h:¬(ks n s).2=0):channel n s=none:=by
 unfold channel;unfold ks at h;cases ax:nth s.ar n with
 | none=>rfl
 | some c =>
  rw[ax] at h;simp only at h ⊢;rw[if_neg];intro aA;rw[(CW _ _ _).1] at aA;simp only[Bool.and_eq_true] at aA;rw[if_pos aA.1] at h;exact h rfl
theorem agx{n:Int}{s:Scope}{c:dg}(h:(ks n s).2=0)(af:nth s.ar n=some c):channel n s=some (if c.scalar=0 then 0 else 1+c.scalar)/\0<=c.scalar/\c.scalar<=s.scalars.length:=by
 unfold ks at h;rw[af] at h;simp only at h;have h1:(hy c.scalar s).2=true:=by
  cases hk:(hy c.scalar s).2 with
  | true=>rfl
  | false=>rw[hk] at h;simp at h
 have aA:(lG c.scalar 0 s).2=true:=by rw[(CW _ _ _).1,h1];simp[hy]
 refine⟨?_,?_⟩
 .unfold channel;rw[af];simp only;rw[if_pos aA,(CW _ _ _).2 aA]
 .unfold lG at aA;split at aA
  .cases aA
  .omega
def lD(l:C_ Var)(n:Int)(s:Scope):Int×Int:=match declared l n s with | none=>(0,8) | some (v,k)=>if v.over≠0 then (0,9) else (k,0)
def Ab(a:Act)(s:Scope):Int:=match declared s.vars a.to s with | none=>8 | some (v,k)=>if v.over=0 then 9 else if asked a.index (1+v.over) s≠0 then asked a.index (1+v.over) s else asked a.value k s
def lF(a:Act)(s:Scope)(comm:Bool):Int :=
 if a.kind<1\/5<a.kind then 3
 else if a.kind=2 then Ab a s
 else if a.kind=1\/a.kind=3 then (if (lD (if a.kind=3 then s.locals else s.vars) a.to s).2≠0 then (lD (if a.kind=3 then s.locals else s.vars) a.to s).2 else asked a.value (lD (if a.kind=3 then s.locals else s.vars) a.to s).1 s)
 else if comm=true then 7
 else match channel a.to s with
  | none=>8
  | some k=>if a.kind=4 then asked a.value k s else if (lD s.locals a.loc s).2≠0 then (lD s.locals a.loc s).2 else if (lD s.locals a.loc s).1≠k then 9 else 0
theorem aqf(a:Act)(s:Scope)(comm:Bool):lF a s comm=if hn a&&comm then 7 else kA a s:=by
 by_cases ad:a.kind<1\/5<a.kind
 .have aA:hn a=false:=by unfold hn;rw[decide_eq_false_iff_not];omega
  unfold lF kA;rw[if_pos ad,aA,if_neg (by omega:¬(a.kind=1\/a.kind=2\/a.kind=3)),if_neg (by omega:¬(a.kind=4\/a.kind=5))];simp
 by_cases I:a.kind=2
 .have aA:hn a=false:=by unfold hn;rw[decide_eq_false_iff_not];omega
  unfold lF kA;rw[if_neg ad,if_pos I,aA,if_pos (by omega:a.kind=1\/a.kind=2\/a.kind=3)];simp only[Bool.false_and,Bool.false_eq_true,if_false];rw[if_neg (by omega:¬a.kind=3)];unfold Ab;cases a6:declared s.vars a.to s with
  | none=>rfl
  | some q =>
   obtain⟨v,k⟩:=q;simp only[I,true_and];by_cases aD:v.over=0
   .simp[aD]
   .simp[aD]
 by_cases h1:a.kind=1\/a.kind=3
 .have aA:hn a=false:=by unfold hn;rw[decide_eq_false_iff_not];omega
  unfold lF kA;rw[if_neg ad,if_neg I,if_pos h1,aA,if_pos (by omega:a.kind=1\/a.kind=2\/a.kind=3)];simp only[Bool.false_and,Bool.false_eq_true,if_false];unfold lD;cases a6:declared (if a.kind=3 then s.locals else s.vars) a.to s with
  | none=>simp
  | some q =>
   obtain⟨v,k⟩:=q;simp only[I,false_and,if_false];by_cases aD:v.over=0
   .simp[aD]
   .simp[aD]
 .have aji:a.kind=4\/a.kind=5:=Aw
  have aA:hn a=true:=by unfold hn;rw[decide_eq_true_eq];omega
  unfold lF kA;rw[if_neg ad,if_neg I,if_neg h1,aA,if_neg (by omega:¬(a.kind=1\/a.kind=2\/a.kind=3)),if_pos aji];simp only[Bool.true_and];cases comm with
  | true=>simp
  | false =>
   simp only[Bool.false_eq_true,if_false];cases ai:channel a.to s with
   | none=>rfl
   | some k =>
    simp only;by_cases aE:a.kind=4
    .rw[if_pos aE,if_neg (by omega:¬a.kind=5)]
    .rw[if_neg aE,if_pos (by omega:a.kind=5)];unfold lD F6;cases a6:declared s.locals a.loc s with
     | none=>simp
     | some q =>
      obtain⟨v,k'⟩:=q;simp only;by_cases aD:v.over=0
      .simp[aD]
      .simp[aD]
end o
end
section
namespace Go.Proofs.R
open Go Go.RowKit a7
theorem adL(op:Int)(w:A_):Dz F.Ki #[.I op] w fun v w'=>v = .I (o.fe op)/\w'=w:=by
 have key:∀n:Int,(if op=3 then (1:Int) else if 1<=op/\op<=8 then 0 else if op=9\/op=10 then 1 else if 11<=op/\op<=19 then 2 else -1)=n->o.fe op=n:=fun _ h=>h;refine bl E.Ki ?_
 (repeat' (refine ay ?_;first | (refine I_ (fun _=>?_) (fun _=>?_)<;>try (exfalso;omega)) | refine N_ (fun _=>?_) (fun _=>?_)))<;>try refine ay ?_
 all_goals
  refine⟨?_,aL⟩;congr 1;refine(key _ ?_).symm
  (repeat' split)<;>first | rfl | (exfalso;omega)
theorem Lq{x:Int}(h:o.fe x=0):1<=x/\x<=8/\x≠3/\o.gJ x=none:=by
 have h1:1<=x/\x<=8/\x≠3:=by unfold o.fe at h; (repeat' split at h)<;>omega
 exact⟨h1.1,h1.2.1,h1.2.2,o.RR (by simp[o.yv];omega)⟩
theorem abO{x:Int}(h:o.fe x=1):x=3\/x=9\/x=10:=by unfold o.fe at h; (repeat' split at h)<;>omega
theorem Lr{x:Int}(h:o.fe x=2):11<=x/\x<=19:=by unfold o.fe at h; (repeat' split at h)<;>omega
theorem ab0{x:Int}(h:9<=x/\x<=19):∃ae,o.gJ x=some ae/\ae.parts=o.fe x:=by
 cases aJ:o.gJ x with
 | some ae=>exact⟨ae,rfl,(o.FR aJ).1⟩
 | none =>
  exfalso;unfold o.gJ at aJ
  (repeat' split at aJ)
  all_goals first | (cases aJ;done) | omega
theorem Of{st:C_ Int}(h:1<=st.length):st.drop (st.length - 1)=[st[st.length - 1]]:=by
 rw[AF3 Aw,AF0 Aw]
theorem Xf{st:C_ Int}(h:2<=st.length):st.drop (st.length - 2)=[st[st.length - 2],st[st.length - 1]]:=by
 rw[AF3 Aw];have e:st.length - 2+1=st.length - 1:=Aw
 congr 1;rw[e];exact Of Aw
theorem r5:∀y,∀u∈encI y,u.oneCell'=true:=fun y u h=>by simp[encI] at h;subst h;rfl
end Go.Proofs.R
end
section
namespace Go.Proofs.R
open Go Go.RowKit a7
theorem Ss(n:Int)(cs:C_ B_)(s:o.Scope)(w:A_)(h:o.fU w cs s) :
  Dz F.Kq #[.I n,.agg cs.toArray] w fun v w'=>v = .bool (o.hy n s).2/\Ext w w':=by
 obtain⟨a0,bu,cZ,c1,a2,c2,a3,bp,a4,bB,rfl,ad,h1,I,ab,aE,eU,eh,eo,dY,ew⟩:=h.form;refine bl E.Kq ?_;refine ay ?_;refine O_ fun w1 b an ah al=>?_
 (repeat' (refine ay ?_;first | (refine I_ (fun _=>?_) (fun _=>?_)<;>try (exfalso;omega)) | refine N_ (fun _=>?_) (fun _=>?_)))<;>try refine ay ?_
 all_goals
  refine⟨?_,fE⟩;congr 1;unfold o.hy
  (repeat' split)<;>first | rfl | (exfalso;omega) | (simp;omega)
def kindOf(n:Int):Int:=if n=0 then 0 else 1+n
theorem JT(n:Int)(w:A_)(h:0<=n/\n<=4611686018427387904):Dz F.FD #[.I n] w fun v w'=>v = .I (kindOf n)/\w'=w:=by
 refine bl E.FD ?_
 (repeat' (refine ay ?_;first | (refine I_ (fun _=>?_) (fun _=>?_)<;>try (exfalso;omega)) | refine N_ (fun _=>?_) (fun _=>?_)))<;>try refine ay ?_
 all_goals
  refine⟨?_,aL⟩;congr 1;unfold kindOf;split<;>first | rfl | (exfalso;omega)
theorem aa5{n:Int}{s:o.Scope}(h:(o.hy n s).2=true):0<=n/\n<=s.scalars.length/\(o.hy n s).1=kindOf n:=by
 unfold o.hy kindOf at *
 (repeat' split at h) <;> (repeat' split)<;>first | (cases h;done) | (refine⟨Aw,Aw,?_⟩;first | rfl | omega) | (exfalso;omega)
theorem Gb(v:B_)(l:C_ o.Var)(n:Int)(cs:C_ B_)(s:o.Scope)(w:A_)(az:o.hR w v l)(h:o.fU w cs s) :
  Dz F.Kk #[v,.I n,.agg cs.toArray] w fun v w' =>
   (∃x:o.Var,v = .tuple #[.agg x.enc.toArray,.bool (o.gg l n s).2.2]/\((o.gg l n s).2.2=true->o.nth l n=some x))/\Ext w w':=by
 obtain⟨a0,bu,cZ,c1,a2,c2,a3,bp,a4,bB,rfl,_⟩:=h.form;obtain⟨aO,cap,rfl,hlen⟩:=az.form;refine bl E.Kk ?_;refine ay ?_;refine O_ fun w1 b an ah al=>?_;refine ay ?_;refine O_ fun aB bP db aj au=>?_;have he:=ah.trans aj;have dX:=aj.obj al;refine ay ?_;apply I_<;>intro g1
 .have hk:(o.gg l n s).2.2=false:=by rw[o.gg,o.gI (.inl g1)]
  refine ay ?_;intro aK ag;refine ay ?_;refine W_ (cs:=(⟨⟨#[]⟩,0,0,0,0,0⟩:o.Var).enc) (by simp[eZ,o.Var.enc]) ?_;refine ay ?_;refine T_ (cs:=(⟨⟨#[]⟩,0,0,0,0,0⟩:o.Var).enc.toArray) (ag.obj au) rfl rfl (by simp[o.Var.enc,Value.oneCell']) fun aR dq bf=>?_;refine ay ?_;refine R_ (c:=o.Var.enc _) bf (Ext.refl _) rfl ?_;refine ay ?_;exact⟨⟨_,by rw[hk],by rw[hk];intro h;cases h⟩,dq.ext (he.trans ag) (by have:=ah.size;omega)⟩
 refine ay ?_;apply I_<;>intro g2
 .have hk:(o.gg l n s).2.2=false:=by rw[o.gg,o.gI (.inr Aw)]
  refine ay ?_;intro aK ag;refine ay ?_;refine W_ (cs:=(⟨⟨#[]⟩,0,0,0,0,0⟩:o.Var).enc) (by simp[eZ,o.Var.enc]) ?_;refine ay ?_;refine T_ (cs:=(⟨⟨#[]⟩,0,0,0,0,0⟩:o.Var).enc.toArray) (ag.obj au) rfl rfl (by simp[o.Var.enc,Value.oneCell']) fun aR dq bf=>?_;refine ay ?_;refine R_ (c:=o.Var.enc _) bf (Ext.refl _) rfl ?_;refine ay ?_;exact⟨⟨_,by rw[hk],by rw[hk];intro h;cases h⟩,dq.ext (he.trans ag) (by have:=ah.size;omega)⟩
 obtain⟨i,rfl⟩:=Rt (show 0<=n by omega);have U:i<l.length:=Aw
 have ax:o.nth l (i:Int)=some l[i]:=by rw[o.iv Aw Aw];simp only[Int.toNat_natCast]
 obtain⟨a,rfl⟩:=az.addr;refine ay ?_;refine R_ (c:=[_,_,_,_,_,_]) dX (Ext.refl _) rfl ?_;refine ay ?_;refine P_ _ (fun w' e=>Ss _ _ s w' (h.ext (he.trans e))) ?_;refine ay ?_;refine N_ (fun g3=>?_) (fun g3=>?_);rotate_left
 .have hk:(o.gg l i s).2.2=false:=by rw[o.gg,ax];simp only[g3,Bool.false_and]
  refine ay ?_;intro aK ag;refine ay ?_;refine W_ (cs:=(⟨⟨#[]⟩,0,0,0,0,0⟩:o.Var).enc) (by simp[eZ,o.Var.enc]) ?_;refine ay ?_;refine T_ (cs:=(⟨⟨#[]⟩,0,0,0,0,0⟩:o.Var).enc.toArray) (ag.obj au) rfl rfl (by simp[o.Var.enc,Value.oneCell']) fun aR dq bf=>?_;refine ay ?_;refine R_ (c:=o.Var.enc _) bf (Ext.refl _) rfl ?_;refine ay ?_;exact⟨⟨_,by rw[hk],by rw[hk];intro h;cases h⟩,dq.ext (he.trans ag) (by have:=ah.size;omega)⟩
 refine ay ?_;refine R_ (c:=[_,_,_,_,_,_]) dX (Ext.refl _) rfl ?_;refine ay ?_;refine P_ _ (fun w' e=>Ss _ _ s w' (h.ext (he.trans e))) ?_;refine ay ?_;cases g4:(o.hy l[i].over s).2 with
 | false =>
  have hk:(o.gg l i s).2.2=false:=by rw[o.gg,ax];simp only[g4,Bool.and_false]
  refine ay ?_;intro aK ag;refine ay ?_;refine W_ (cs:=(⟨⟨#[]⟩,0,0,0,0,0⟩:o.Var).enc) (by simp[eZ,o.Var.enc]) ?_;refine ay ?_;refine T_ (cs:=(⟨⟨#[]⟩,0,0,0,0,0⟩:o.Var).enc.toArray) (ag.obj au) rfl rfl (by simp[o.Var.enc,Value.oneCell']) fun aR dq bf=>?_;refine ay ?_;refine R_ (c:=o.Var.enc _) bf (Ext.refl _) rfl ?_;refine ay ?_;exact⟨⟨_,by rw[hk],by rw[hk];intro h;cases h⟩,dq.ext (he.trans ag) (by have:=ah.size;omega)⟩
 | true =>
  have hk:(o.gg l i s).2.2=true:=by rw[o.gg,ax];simp only[g3,g4,Bool.and_true]
  refine ay ?_;intro aK ag;refine ay ?_;refine T_ (cs:=l[i].enc.toArray) (ag.obj au) rfl rfl (by simp[o.Var.enc,Value.oneCell']) fun aR dq bf=>?_;refine ay ?_;refine R_ (c:=o.Var.enc _) bf (Ext.refl _) rfl ?_;refine ay ?_;exact⟨⟨_,by rw[hk],fun _=>ax⟩,dq.ext (he.trans ag) (by have:=ah.size;omega)⟩
theorem acE(n:Int)(cs:C_ B_)(s:o.Scope)(w:A_)(h:o.fU w cs s) :
  Dz F.Kf #[.I n,.agg cs.toArray] w fun v w' =>
   (∃x:o.dg,v = .tuple #[.agg x.enc.toArray,.bool (decide ((o.ks n s).2=0))]/\((o.ks n s).2=0->o.nth s.ar n=some x))/\Ext w w':=by
 obtain⟨a0,bu,cZ,c1,a2,c2,a3,bp,a4,bB,rfl,ad,h1,I,ab,aE,eU,eh,eo,dY,ew⟩:=h.form;refine bl E.Kf ?_;refine ay ?_;refine O_ fun w1 b an ah al=>?_;refine ay ?_;refine O_ fun aB bP db aj au=>?_;have he:=ah.trans aj;have dX:=aj.obj al;refine ay ?_;apply I_<;>intro g1
 .have hk:(o.ks n s).2=8:=by rw[o.ks,o.gI (.inl g1)]
  refine ay ?_;intro aK ag;refine ay ?_;refine W_ (cs:=(⟨⟨#[]⟩,0,0,0,0,false⟩:o.dg).enc) (by simp[eZ,o.dg.enc]) ?_;refine ay ?_;refine T_ (cs:=(⟨⟨#[]⟩,0,0,0,0,false⟩:o.dg).enc.toArray) (ag.obj au) rfl rfl (by simp[o.dg.enc,Value.oneCell']) fun aR dq bf=>?_;refine ay ?_;refine R_ (c:=o.dg.enc _) bf (Ext.refl _) rfl ?_;refine ay ?_;exact⟨⟨_,by rw[hk];rfl,by rw[hk];intro h;cases h⟩,dq.ext (he.trans ag) (by have:=ah.size;omega)⟩
 refine ay ?_;apply I_<;>intro g2
 .have hk:(o.ks n s).2=8:=by rw[o.ks,o.gI (.inr Aw)]
  refine ay ?_;intro aK ag;refine ay ?_;refine W_ (cs:=(⟨⟨#[]⟩,0,0,0,0,false⟩:o.dg).enc) (by simp[eZ,o.dg.enc]) ?_;refine ay ?_;refine T_ (cs:=(⟨⟨#[]⟩,0,0,0,0,false⟩:o.dg).enc.toArray) (ag.obj au) rfl rfl (by simp[o.dg.enc,Value.oneCell']) fun aR dq bf=>?_;refine ay ?_;refine R_ (c:=o.dg.enc _) bf (Ext.refl _) rfl ?_;refine ay ?_;exact⟨⟨_,by rw[hk];rfl,by rw[hk];intro h;cases h⟩,dq.ext (he.trans ag) (by have:=ah.size;omega)⟩
 obtain⟨i,rfl⟩:=Rt (show 0<=n by omega);have U:i<s.ar.length:=Aw
 have ax:o.nth s.ar (i:Int)=some s.ar[i]:=by rw[o.iv Aw Aw];simp only[Int.toNat_natCast]
 obtain⟨a,rfl⟩:=I.addr;refine ay ?_;refine R_ (c:=[_,_,_,_,_,_]) dX (Ext.refl _) rfl ?_;refine ay ?_;refine P_ _ (fun w' e=>Ss _ _ s w' (h.ext (he.trans e))) ?_;refine ay ?_;cases g4:(o.hy s.ar[i].scalar s).2 with
 | false =>
  have hk:(o.ks i s).2=8:=by rw[o.ks,ax];simp only[g4,Bool.false_eq_true,if_false]
  refine ay ?_;intro aK ag;refine ay ?_;refine W_ (cs:=(⟨⟨#[]⟩,0,0,0,0,false⟩:o.dg).enc) (by simp[eZ,o.dg.enc]) ?_;refine ay ?_;refine T_ (cs:=(⟨⟨#[]⟩,0,0,0,0,false⟩:o.dg).enc.toArray) (ag.obj au) rfl rfl (by simp[o.dg.enc,Value.oneCell']) fun aR dq bf=>?_;refine ay ?_;refine R_ (c:=o.dg.enc _) bf (Ext.refl _) rfl ?_;refine ay ?_;exact⟨⟨_,by rw[hk];rfl,by rw[hk];intro h;cases h⟩,dq.ext (he.trans ag) (by have:=ah.size;omega)⟩
 | true =>
  have hk:(o.ks i s).2=0:=by rw[o.ks,ax];simp only[g4,if_true]
  refine ay ?_;intro aK ag;refine ay ?_;refine T_ (cs:=s.ar[i].enc.toArray) (ag.obj au) rfl rfl (by simp[o.dg.enc,Value.oneCell']) fun aR dq bf=>?_;refine ay ?_;refine R_ (c:=o.dg.enc _) bf (Ext.refl _) rfl ?_;refine ay ?_;exact⟨⟨_,by rw[hk];rfl,fun _=>ax⟩,dq.ext (he.trans ag) (by have:=ah.size;omega)⟩
end Go.Proofs.R
end
section
namespace Go.Proofs.R
open Go Go.RowKit a7
theorem Rn{l:C_ o.Var}{n:Int}{s:o.Scope}{x:o.Var}(h:(o.gg l n s).2.2=true)(af:o.nth l n=some x) :
  (o.gg l n s).1=kindOf x.scalar/\(o.gg l n s).2.1=kindOf x.over/\0<=x.scalar/\x.scalar<=s.scalars.length/\0<=x.over/\x.over<=s.scalars.length:=by
 unfold o.gg at h ⊢;rw[af] at h ⊢;simp only[Bool.and_eq_true] at h ⊢;obtain⟨cZ,a2,a3⟩:=aa5 h.1;obtain⟨br,bP,bR⟩:=aa5 h.2;exact⟨a3,bR,cZ,a2,br,bP⟩
theorem aqN(x:o.Node)(cs:C_ B_)(s:o.Scope)(w:A_)(af:x.ok)(h:o.fU w cs s)(lW:1<=x.op/\x.op<=8)(ab:x.op≠3)(t:Int) :
  Dz F.Ko #[.agg x.enc.toArray,.agg cs.toArray] w fun v w'=>v = .tuple #[.I (o.jc x s t).1,.I (o.jc x s t).2]/\Ext w w':=by
 obtain⟨a0,bu,cZ,c1,a2,c2,a3,bp,a4,bB,rfl,o6,cO,de,dQ,gK,eU,eh,eo,dY,ew⟩:=h.form;refine bl E.Ko ?_;refine ay ?_;refine O_ fun w1 br cF ah al=>?_;refine ay ?_;refine O_ fun aB bP db aj au=>?_;have he:=ah.trans aj;have cq:aB.heap[br]? = some (.cells #[.I x.op,.I x.n] T.e):=aj.obj al;clear al;refine ay ?_;apply I_<;>intro g1
 .have hk:o.jc x s t=if o.within x.n then (0,0) else (0,10):=by rw[o.jc,if_pos g1]
  (repeat' (refine ay ?_;first | (refine I_ (fun _=>?_) (fun _=>?_)<;>try (exfalso;omega)) | refine N_ (fun _=>?_) (fun _=>?_)))<;>try refine ay ?_
  all_goals
   refine⟨?_,fE⟩;rw[hk];unfold o.within;split<;>first | rfl | (rename_i cN;simp at cN;exfalso;omega)
 by_cases aD:x.op=2\/x.op=4
 .have hk:o.jc x s t=(let q:=o.gg (if x.op=4 then s.locals else s.vars) x.n s;if q.2.2=false then (0,8) else if (x.op=3/\(q.2.1=0\/t≠q.2.1))\/(x.op≠3/\q.2.1≠0) then (0,9) else (q.1,0)):=by
   rw[o.jc,if_neg g1,if_pos Aw]
  by_cases g4:x.op=4
  .rw[if_pos g4] at hk;rw[hk];refine ay ?_;refine R_ (c:=[_,_,_,_,_,_]) au (Ext.refl _) rfl ?_;refine ay ?_;refine J_ (Gb _ s.locals x.n _ s aB (gK.ext he) (h.ext he)) ?_;rintro _ aK ⟨⟨y,rfl,bK⟩,ag⟩;have c5:(o.gg s.locals x.n s).2.2=true->_:=fun g=>Rn g (bK g);clear bK hk;generalize o.gg s.locals x.n s=q at c5 ⊢;obtain⟨yI,Aq,R7⟩:=q;refine ay ?_;refine _M (vs:=y.enc) (fun _=>by simp -dsimp only[cV,cu,Nat.reduceAdd,Nat.reduceEqDiff,reduceIte,reduceCtorEq,c3]) rfl rfl (by simp[o.Var.enc,Value.oneCell']) fun aR cx e3 aw bf=>?_;have hK:aR.heap[cx]? = some (.cells #[.string y.name,.I y.scalar,.I y.over,.I y.aQ,.I y.U,.I y.init] T.l):=bf;clear bf;refine ay ?_;refine N_ (fun g5=>?_) (fun g5=>?_);rotate_left
   .refine ay ?_;simp only[g5,if_true];exact b5
   obtain⟨gq,z2,z3,z4,z5,AO⟩:=c5 g5;have yl:kindOf y.over=0↔y.over=0:=by unfold kindOf;split<;>omega
   have AL:yI=kindOf y.scalar:=gq;have AM:Aq=kindOf y.over:=z2;refine ay ?_;apply I_<;>intro g6
   .refine ay ?_;refine J_ (JT y.scalar aR Aw) ?_;rintro _ _ ⟨rfl,rfl⟩;refine ay ?_;simp only[g5,Bool.true_eq_false,if_false,AL,AM];rw[if_neg (by rw[ne_eq,yl];omega)];exact b5
   .refine ay ?_;simp only[g5,Bool.true_eq_false,if_false,AL,AM];rw[if_pos (.inr ⟨ab,by rw[ne_eq,yl];exact g6⟩)];exact b5
  .rw[if_neg g4] at hk;rw[hk];refine ay ?_;refine R_ (c:=[_,_,_,_,_,_]) au (Ext.refl _) rfl ?_;refine ay ?_;refine J_ (Gb _ s.vars x.n _ s aB (cO.ext he) (h.ext he)) ?_;rintro _ aK ⟨⟨y,rfl,bK⟩,ag⟩;have c5:(o.gg s.vars x.n s).2.2=true->_:=fun g=>Rn g (bK g);clear bK hk;generalize o.gg s.vars x.n s=q at c5 ⊢;obtain⟨yI,Aq,R7⟩:=q;refine ay ?_;refine _M (vs:=y.enc) (fun _=>by simp -dsimp only[cV,cu,Nat.reduceAdd,Nat.reduceEqDiff,reduceIte,reduceCtorEq,c3]) rfl rfl (by simp[o.Var.enc,Value.oneCell']) fun aR cx e3 aw bf=>?_;have hK:aR.heap[cx]? = some (.cells #[.string y.name,.I y.scalar,.I y.over,.I y.aQ,.I y.U,.I y.init] T.l):=bf;clear bf;refine ay ?_;refine N_ (fun g5=>?_) (fun g5=>?_);rotate_left
   .refine ay ?_;simp only[g5,if_true];exact b5
   obtain⟨gq,z2,z3,z4,z5,AO⟩:=c5 g5;have yl:kindOf y.over=0↔y.over=0:=by unfold kindOf;split<;>omega
   have AL:yI=kindOf y.scalar:=gq;have AM:Aq=kindOf y.over:=z2;refine ay ?_;apply I_<;>intro g6
   .refine ay ?_;refine J_ (JT y.scalar aR Aw) ?_;rintro _ _ ⟨rfl,rfl⟩;refine ay ?_;simp only[g5,Bool.true_eq_false,if_false,AL,AM];rw[if_neg (by rw[ne_eq,yl];omega)];exact b5
   .refine ay ?_;simp only[g5,Bool.true_eq_false,if_false,AL,AM];rw[if_pos (.inr ⟨ab,by rw[ne_eq,yl];exact g6⟩)];exact b5
 have hk:o.jc x s t=o.mq x s:=by rw[o.jc,if_neg g1,if_neg Aw]
 rw[hk];clear hk;refine ay ?_;apply I_<;>intro g5
 ·(repeat' (refine ay ?_;first | (refine I_ (fun _=>?_) (fun _=>?_)<;>try (exfalso;omega)) | refine N_ (fun _=>?_) (fun _=>?_)))<;>try refine ay ?_
  all_goals
   refine⟨?_,fE⟩;rw[o.mq,if_pos g5];split<;>first | rfl | (exfalso;omega)
 refine ay ?_;apply I_<;>intro g6
 .have hk:o.mq x s=o.ks x.n s:=by rw[o.mq,if_neg g5,if_pos g6]
  rw[hk];have zN:(o.ks x.n s).1=0/\((o.ks x.n s).2=0\/(o.ks x.n s).2=8):=by
   unfold o.ks; (repeat' split)<;>simp
  refine ay ?_;refine R_ (c:=[_,_,_,_,_,_]) au (Ext.refl _) rfl ?_;refine ay ?_;refine J_ (acE x.n _ s aB (h.ext he)) ?_;rintro _ aK ⟨⟨y,rfl,bK⟩,ag⟩;generalize o.ks x.n s=q at *;obtain⟨cO,de⟩:=q;obtain⟨rfl,ao⟩:=zN;refine ay ?_;refine _M (vs:=y.enc) (fun _=>by simp -dsimp only[cV,cu,Nat.reduceAdd,Nat.reduceEqDiff,reduceIte,reduceCtorEq,c3]) rfl rfl (by simp[o.dg.enc,Value.oneCell']) fun aR cx e3 aw bf=>?_;refine ay ?_;apply I_<;>intro g7
  .refine ay ?_;have g8:de=0:=g7;rw[g8];exact b5
  .refine ay ?_
   have:de=8:=ao.resolve_left g7
   rw[this];exact b5
 refine ay ?_;apply I_<;>intro g7
 .have hk:o.mq x s=o.Co x.n s:=by rw[o.mq,if_neg g5,if_neg g6,if_pos g7]
  rw[hk,o.Co];refine ay ?_;apply I_<;>intro g1
  .refine ay ?_;intro aK ag;refine ay ?_;rw[if_neg Aw];exact b5
  rw[if_pos Aw];obtain⟨i,U⟩:=Rt (show 0<=x.n by omega);obtain⟨_,ft⟩:=af.n;rw[U] at ft;have ao:x.n.tdiv 16=((i / 16:Nat):Int):=by rw[U];rfl
  have hm:x.n.tmod 16=((i % 16:Nat):Int):=by rw[U];rfl
  refine ay ?_;refine _J Aw ?_;rw[ao];refine ay ?_;apply I_<;>intro g2
  .refine ay ?_;intro aK ag;refine ay ?_;rw[o.gI (.inr Aw)];exact b5
  have aC:i / 16<s.procs.length:=Aw
  rw[o.iv Aw Aw];simp only[Int.toNat_natCast];refine ay ?_;refine _s Aw ?_;refine ay ?_;refine _J Aw ?_;rw[ao];obtain⟨a,rfl⟩:=dQ.addr;obtain⟨_,bV,dL,EB,_⟩:=dQ.at (i / 16) aC;have PG:w.cell? ((a.add (i / 16*5)).add 2)=some (.I s.procs[i / 16].b2):=EB 2 _ rfl;refine ay ?_;refine M_ ((ah.trans aj).cell PG) ?_;refine ay ?_;rw[hm];intro aK ag;refine ay ?_;apply I_<;>intro g3
  all_goals
   refine ay ?_;refine⟨?_,fE⟩
   first | rw[if_pos Aw] | rw[if_neg Aw]
 (repeat' (refine ay ?_;first | (refine I_ (fun _=>?_) (fun _=>?_)<;>try (exfalso;omega)) | refine N_ (fun _=>?_) (fun _=>?_)))<;>try refine ay ?_
 all_goals
  refine⟨?_,fE⟩;rw[o.mq,if_neg g5,if_neg g6,if_neg g7,if_pos Aw];split<;>first | rfl | (exfalso;omega)
end Go.Proofs.R
end
section
namespace Go.Proofs.R
open Go Go.RowKit a7
theorem abb(ae:o.ph)(k:Int):o.oq ae [k]=if ae.jC = -1\/k=ae.jC then (ae.makes,0) else (0,9):=by
 simp[o.oq]
theorem ani(ae:o.ph)(a b:Int):o.oq ae [a,b]=if (ae.jC = -1\/a=ae.jC)/\a=b then (ae.makes,0) else (0,9):=by
 simp only[o.oq,List.all_cons,List.all_nil,List.headD_cons,Bool.and_true,decide_true];by_cases h:a=b
 .subst h;simp
 .have bk:¬b=a:=fun e=>h e.symm;simp[h,bk]
def u5(x:o.Node)(k:Int)(s:o.Scope):Int×Int:=match o.gJ x.op with | some ae=>o.oq ae [k] | none=>o.jc x s k
theorem aqT(x:o.Node)(k:Int)(cs:C_ B_)(s:o.Scope)(w:A_)(h:o.fU w cs s)(lW:x.op=3\/x.op=9\/x.op=10) :
  Dz F.Kp #[.agg x.enc.toArray,.I k,.agg cs.toArray] w fun v w'=>v = .tuple #[.I (u5 x k s).1,.I (u5 x k s).2]/\Ext w w':=by
 obtain⟨a0,bu,cZ,c1,a2,c2,a3,bp,a4,bB,rfl,o6,cO,de,dQ,gK,eU,eh,eo,dY,ew⟩:=h.form;refine bl E.Kp ?_;refine ay ?_;refine O_ fun w1 br cF ah al=>?_;refine ay ?_;refine O_ fun aB bP db aj au=>?_;have he:=ah.trans aj;have cq:aB.heap[br]? = some (.cells #[.I x.op,.I x.n] T.e):=aj.obj al;clear al;refine ay ?_;apply I_<;>intro g1
 .have aJ:o.gJ x.op=none:=by rw[g1];rfl
  have hk:u5 x k s=(let q:=o.gg s.vars x.n s;if q.2.2=false then (0,8) else if (x.op=3/\(q.2.1=0\/k≠q.2.1))\/(x.op≠3/\q.2.1≠0) then (0,9) else (q.1,0)):=by
   rw[u5,aJ];simp only;rw[o.jc,if_neg Aw,if_pos Aw];simp only[show ¬x.op=4 from Aw,if_false]
  rw[hk];refine ay ?_;refine R_ (c:=[_,_,_,_,_,_]) au (Ext.refl _) rfl ?_;refine ay ?_;refine J_ (Gb _ s.vars x.n _ s aB (cO.ext he) (h.ext he)) ?_;rintro _ aK ⟨⟨y,rfl,bK⟩,ag⟩;have c5:(o.gg s.vars x.n s).2.2=true->_:=fun g=>Rn g (bK g);clear bK hk;generalize o.gg s.vars x.n s=q at c5 ⊢;obtain⟨yI,Aq,R7⟩:=q;refine ay ?_;refine _M (vs:=y.enc) (fun _=>by simp -dsimp only[cV,cu,Nat.reduceAdd,Nat.reduceEqDiff,reduceIte,reduceCtorEq,c3]) rfl rfl (by simp[o.Var.enc,Value.oneCell']) fun aR cx e3 aw bf=>?_;have hK:aR.heap[cx]? = some (.cells #[.string y.name,.I y.scalar,.I y.over,.I y.aQ,.I y.U,.I y.init] T.l):=bf;clear bf;refine ay ?_;refine N_ (fun g5=>?_) (fun g5=>?_);rotate_left
  .refine ay ?_;simp only[g5,if_true];exact b5
  obtain⟨gq,z2,z3,z4,z5,AO⟩:=c5 g5;have AL:yI=kindOf y.scalar:=gq;have AM:Aq=kindOf y.over:=z2;have yl:Aq=if y.over=0 then 0 else 1+y.over:=AM
  refine ay ?_;apply I_<;>intro g6
  .refine ay ?_;simp only[g5,Bool.true_eq_false,if_false];rw[if_pos (.inl ⟨g1,.inl (by rw[yl,if_pos g6])⟩)];exact b5
  rw[if_neg g6] at yl;refine ay ?_;apply I_<;>intro g7;rotate_left
  .refine ay ?_;simp only[g5,Bool.true_eq_false,if_false];rw[if_pos (.inl ⟨g1,.inr Aw⟩)];exact b5
  refine ay ?_;refine J_ (JT y.scalar aR Aw) ?_;rintro _ _ ⟨rfl,rfl⟩;refine ay ?_;simp only[g5,Bool.true_eq_false,if_false,AL];rw[if_neg Aw];exact b5
 have js:x.op=9->u5 x k s=if k=1 then (1,0) else (0,9):=by
  intro e;rw[u5,e];show o.oq _ [k]=_;rw[abb];simp
 have kG:x.op=10->u5 x k s=if k=0 then (0,0) else (0,9):=by
  intro e;rw[u5,e];show o.oq _ [k]=_;rw[abb];simp
 (repeat' (refine ay ?_;first | (refine I_ (fun _=>?_) (fun _=>?_)<;>try (exfalso;omega)) | refine N_ (fun _=>?_) (fun _=>?_)))<;>try refine ay ?_
 all_goals
  refine⟨?_,fE⟩;rcases lW with e | e | e
  .exact absurd e g1
  .rw[js e];split<;>first | rfl | (exfalso;omega)
  .rw[kG e];split<;>first | rfl | (exfalso;omega)
def Gv(op a b:Int):Int×Int:=match o.gJ op with | some ae=>o.oq ae [a,b] | none=>(0,9)
theorem aq0(op a b:Int)(w:A_)(lW:11<=op/\op<=19) :
  Dz F.Kr #[.I op,.I a,.I b] w fun v w'=>v = .tuple #[.I (Gv op a b).1,.I (Gv op a b).2]/\w'=w:=by
 have key:Gv op a b=if a≠b then (0,9) else if op=14\/op=15 then (1,0) else if op=18\/op=19 then (if a=1 then (1,0) else (0,9)) else if op=16\/op=17 then (if a=0 then (1,0) else (0,9)) else (if a=0 then (0,0) else (0,9)):=by
  have ai:op=11\/op=12\/op=13\/op=14\/op=15\/op=16\/op=17\/op=18\/op=19:=Aw
  rcases ai with e | e | e | e | e | e | e | e | e<;>subst e <;> (show o.oq _ [a,b]=_)<;>rw[ani]<;>by_cases Ep:a=b<;>simp[Ep,o.Au]
 refine bl E.Kr ?_
 (repeat' (refine ay ?_;first | (refine I_ (fun _=>?_) (fun _=>?_)<;>try (exfalso;omega)) | refine N_ (fun _=>?_) (fun _=>?_)))<;>try refine ay ?_
 all_goals
  refine⟨?_,aL⟩;rw[key]
  (repeat' split)<;>first | rfl | (exfalso;omega)
end Go.Proofs.R
end
section
namespace Go.Proofs.R
open Go Go.RowKit a7
theorem aif{s:o.Scope}{x:o.Node}{st:C_ Int}(h:o.fe x.op=0):o.fk s x st=o.jc x s (st.getLastD 0):=by
 unfold o.fk;rw[(Lq h).2.2.2]
theorem aih{s:o.Scope}{x:o.Node}{st:C_ Int}(h:o.fe x.op=1)(az:1<=st.length):o.fk s x st=u5 x st[st.length - 1] s:=by
 unfold o.fk u5;cases aJ:o.gJ x.op with
 | none=>simp only;rw[D6 st Aw]
 | some ae =>
  have:=(o.FR aJ).1
  simp only;rw[show ae.parts.toNat=1 from Aw,Of az]
theorem aii{s:o.Scope}{x:o.Node}{st:C_ Int}(h:o.fe x.op=2)(az:2<=st.length):o.fk s x st=Gv x.op st[st.length - 2] st[st.length - 1]:=by
 unfold o.fk Gv;obtain⟨ae,aJ,aq⟩:=ab0 (show 9<=x.op/\x.op<=19 by have:=Lr h;omega);rw[aJ];simp only;rw[show ae.parts.toNat=2 from Aw,Xf az]
theorem acJ(gQ:B_)(e:C_ o.Node)(cs:C_ B_)(s:o.Scope)(w:A_)(he:o.eL w gQ e)(h:o.fU w cs s) :
  Dz F.Kh #[gQ,.agg cs.toArray] w fun v w'=>v = .tuple #[.I (o.kind e s).1,.I (o.kind e s).2]/\Ext w w':=by
 obtain⟨v0,v1,v2,v3,v4,rfl,_⟩:=h.ex;obtain⟨aO,cap,rfl,hlen⟩:=he.form;refine bl E.Kh ?_;refine ay ?_;refine O_ fun w1 dk tt ah al=>?_;refine ay ?_;apply I_<;>intro g1
 .refine ay ?_;rw[o.kind,o.lh,if_pos Aw];exact b5
 refine ay ?_;apply I_<;>intro g2
 .refine ay ?_;rw[o.kind,o.lh,if_neg Aw,if_pos Aw];exact b5
 refine ay ?_;refine _i 7 e.length (fun k S w' => ∃v st,S 6=v/\nf w1.heap.size w' v st/\o.eP (o.fk s) (e.take k) []=(0,st)/\(0<k->1<=st.length)/\st.length<=12/\Ext w1 w')
  (by simp -dsimp only[cV,cu,Nat.reduceAdd,Nat.reduceEqDiff,reduceIte,reduceCtorEq,c3]) ⟨.slice none 0 0,[],by simp -dsimp only[cV,cu,Nat.reduceAdd,Nat.reduceEqDiff,reduceIte,reduceCtorEq,c3],aP.nil _ _ _ _ _,by simp[o.eP],Bh,Bh,Ext.refl _⟩ ?_
 rintro k S aB b3 hk b0 ⟨v6,st,bz,fK,hV,Ec,r7,aj⟩;have ad:=b3 0 rfl;have ab:=b3 3 rfl;simp only[bL,Nat.reduceAdd,Nat.reduceEqDiff,reduceIte,j4,nr] at ad ab;clear b3;obtain⟨qF,s5,rfl,b1,jN⟩:=fK.form;have U:Ints aB _ st:=aP.jg (enc:=encI) (sz:=1) (fun _=>rfl) fK;unfold maxLen at jN;refine dh (i_ ad (i_ ab (i_ bz b0))) ?_;apply I_<;>intro g3;rotate_left
 .have aV:k=e.length:=Aw
  subst aV;rw[AF1] at hV;have h1:=Ec Aw;obtain⟨a,rfl⟩:=U.addr h1;have dI:o.kind e s=if st.length > 1 then (0,5) else (st.headD 0,0):=by
   rw[o.kind,o.lh,if_neg Aw,if_neg Aw,hV,if_neg Bh]
  rw[dI];clear dI;refine dh (i_ ad (i_ ab (i_ bz b0))) ?_;apply I_<;>intro g4
  .refine ay ?_;rw[if_pos Aw];exact b5
  .refine dh (i_ ad (i_ ab (i_ bz b0))) ?_;refine K_ 0 rfl Aw ?_;refine ay ?_;rw[if_neg Aw]
   have:st.headD 0=st[0]:=by
    cases st with
    | nil=>simp at h1
    | cons z st=>rfl
   rw[this];exact b5
 have aV:k<e.length:=Aw
 obtain⟨a,rfl⟩:=he.addr;have uP:=(he.at k aV).ok;have kL:=fun ad=>o.St (f:=o.fk s) (e:=e) Aw aV hV ad;have uM:=o.w4 aV hV;have Ea:=ah.trans aj;have dX:=aj.obj al;refine dh (i_ ad (i_ ab (i_ bz b0))) ?_;refine J_ (adL e[k].op aB) ?_;rintro _ _ ⟨rfl,rfl⟩;generalize ax:o.fe e[k].op=n at *;have iH : -1<=n/\n<=2:=by rw[<-ax];unfold o.fe; (repeat' split)<;>omega
 refine dh (i_ ad (i_ ab (i_ bz b0))) ?_;apply I_<;>intro g4
 .have ak:o.stepG (o.fk s) e[k] st=(3,st):=by unfold o.stepG;rw[ax,if_pos g4]
  rw[ak] at kL;refine ay ?_;rw[o.kind,kL Bh];exact b5
 refine dh (i_ ad (i_ ab (i_ bz b0))) ?_;apply I_<;>intro g5
 .have ak:o.stepG (o.fk s) e[k] st=(4,st):=by unfold o.stepG;rw[ax,if_neg g4,if_pos g5]
  rw[ak] at kL;refine ay ?_;rw[o.kind,kL Bh];exact b5
 obtain⟨p,rfl⟩:=Rt (show 0<=n by omega);have eK:o.stepG (o.fk s) e[k] st=if (o.fk s e[k] st).2≠0 then ((o.fk s e[k] st).2,st) else if (st.take (st.length - p)++[(o.fk s e[k] st).1]).length > 12 then (12,st) else (0,st.take (st.length - p)++[(o.fk s e[k] st).1]):=by
  unfold o.stepG;rw[ax,if_neg g4,if_neg g5];simp only[Int.toNat_natCast]
 have ic:(st.take (st.length - p)++[(o.fk s e[k] st).1]).length=st.length - p+1:=by simp[List.length_take]
 rw[ic] at eK;have fin:p=0\/p=1\/p=2:=Aw
 rcases fin with zT | zT | zT
 .have av:=aif (s:=s) (st:=st) (x:=e[k]) Aw;obtain⟨gq,z2,z3,z4⟩:=Lq (x:=e[k].op) Aw;refine dh (i_ ad (i_ ab (i_ bz b0))) ?_;refine R_ (c:=[_,_,_,_,_,_]) dX (Ext.refl _) rfl ?_;refine dh (i_ ad (i_ ab (i_ bz b0))) ?_;refine P_ _ (fun w' e'=>aqN e[k] _ s w' uP (h.ext (Ea.trans e')) ⟨gq,z2⟩ z3 (st.getLastD 0)) ?_;rw[<-av];refine dh (i_ ad (i_ ab (i_ bz b0))) ?_;intro aK ag;refine dh (i_ ad (i_ ab (i_ bz b0))) ?_;apply I_<;>intro g6;rotate_left
  .rw[if_pos g6] at eK;refine ay ?_;rw[o.kind,kL (by rw[eK];exact g6),eK];exact b5
  rw[if_neg (by simpa using g6)] at eK;have dG:=fK.ext ag;refine dh (i_ ad (i_ ab (i_ bz b0))) ?_;refine Y_ (cs:=[]) (by simp[List.range,List.range.loop,eZ]) fun aR cx e3 aw bf=>?_;have z12:=aj.size;have z23:=ag.size;have C5:=aw.size;have th:nf w1.heap.size aR (.slice (some ⟨cx,0,none⟩) 0 0) []:=aP.empty Aw bf;have dz:=dG.ext aw;have dt:nf w1.heap.size aR (.slice _ (st.length - p) _) (st.take (st.length - p)):=aP.head (enc:=encI) (sz:=1) (xs:=st) (fun _=>rfl) dz (st.length - p) (AI0 _ _);have b4:(st.take (st.length - p)).length=st.length - p:=by simp[List.length_take]
  refine dh (i_ ad (i_ ab (i_ bz b0))) ?_;refine _N (st.length - p) (by refine b7 bz ?_;first | rfl | (congr 1;omega)) Aw ?_;refine ay ?_;refine _j (xs:=[]) (ys:=st.take (st.length - p)) th dt (fun _=>rfl) r5 (by rw[b4];simp only[List.length_nil];omega) (by rw[b4];simp only[List.length_nil,maxLen];omega) Aw fun v5 bo mS gT=>?_;have oc:Ext aK bo:=aw.grown gT fun q ao=>by simp[Value.ownBlock] at ao;omega
  rw[AF9] at mS;have z35:=oc.size;refine ay ?_;refine Y_ (cs:=[(o.fk s e[k] st).1].flatMap encI) (by simp[List.range,List.range.loop,eZ,lay,c0,bL,Value.cells,encI]) fun bt ee gf aI b1=>?_;have AN:=aI.size;have c9:=mS.ext aI;refine ay ?_;refine _O (xs:=st.take (st.length - p)) (ys:=[(o.fk s e[k] st).1]) c9 (fun _=>rfl) (gN b1) rfl r5 (by rw[b4];simp only[List.length_cons,List.length_nil];omega) (by rw[b4];simp only[List.length_cons,List.length_nil,maxLen];omega) Aw fun CX bG dM kJ=>?_;have bm:Ext w1 bG:=Ext.grown (((aj.trans ag).trans oc).trans aI) kJ fun q ao=>(c9.lt q ao).1;obtain⟨FP,nj,rfl,_⟩:=dM.form;rw[ic] at dM ⊢;by_cases g7:12<st.length - p+1
  .rw[if_pos Aw] at eK
   first
    | (exfalso;omega)
    | (refine ay ?_
       rw[o.kind,kL (by rw[eK];simp),eK];exact⟨aL,ah.trans bm⟩)
  rw[if_neg Aw] at eK;refine dh b0 ?_;refine⟨aV,aL,_,_,rfl,dM,by rw[uM,eK],fun _=>by rw[ic];omega,by rw[ic];omega,bm⟩
 .have av:=aih (s:=s) (st:=st) (x:=e[k]) Aw Aw;obtain⟨nh,rfl⟩:=U.addr;refine dh (i_ ad (i_ ab (i_ bz b0))) ?_;refine K_ (st.length - 1) Aw Aw ?_;refine dh (i_ ad (i_ ab (i_ bz b0))) ?_;refine R_ (c:=[_,_,_,_,_,_]) dX (Ext.refl _) rfl ?_;refine dh (i_ ad (i_ ab (i_ bz b0))) ?_;refine P_ _ (fun w' e'=>aqT e[k] _ _ s w' (h.ext (Ea.trans e')) (abO Aw)) ?_;rw[<-av];refine dh (i_ ad (i_ ab (i_ bz b0))) ?_;intro aK ag;refine dh (i_ ad (i_ ab (i_ bz b0))) ?_;apply I_<;>intro g6;rotate_left
  .rw[if_pos g6] at eK;refine ay ?_;rw[o.kind,kL (by rw[eK];exact g6),eK];exact b5
  rw[if_neg (by simpa using g6)] at eK;have dG:=fK.ext ag;refine dh (i_ ad (i_ ab (i_ bz b0))) ?_;refine Y_ (cs:=[]) (by simp[List.range,List.range.loop,eZ]) fun aR cx e3 aw bf=>?_;have z12:=aj.size;have z23:=ag.size;have C5:=aw.size;have th:nf w1.heap.size aR (.slice (some ⟨cx,0,none⟩) 0 0) []:=aP.empty Aw bf;have dz:=dG.ext aw;have dt:nf w1.heap.size aR (.slice _ (st.length - p) _) (st.take (st.length - p)):=aP.head (enc:=encI) (sz:=1) (xs:=st) (fun _=>rfl) dz (st.length - p) (AI0 _ _);have b4:(st.take (st.length - p)).length=st.length - p:=by simp[List.length_take]
  refine dh (i_ ad (i_ ab (i_ bz b0))) ?_;refine _N (st.length - p) (by refine b7 bz ?_;first | rfl | (congr 1;omega)) Aw ?_;refine ay ?_;refine _j (xs:=[]) (ys:=st.take (st.length - p)) th dt (fun _=>rfl) r5 (by rw[b4];simp only[List.length_nil];omega) (by rw[b4];simp only[List.length_nil,maxLen];omega) Aw fun v5 bo mS gT=>?_;have oc:Ext aK bo:=aw.grown gT fun q ao=>by simp[Value.ownBlock] at ao;omega
  rw[AF9] at mS;have z35:=oc.size;refine ay ?_;refine Y_ (cs:=[(o.fk s e[k] st).1].flatMap encI) (by simp[List.range,List.range.loop,eZ,lay,c0,bL,Value.cells,encI]) fun bt ee gf aI b1=>?_;have AN:=aI.size;have c9:=mS.ext aI;refine ay ?_;refine _O (xs:=st.take (st.length - p)) (ys:=[(o.fk s e[k] st).1]) c9 (fun _=>rfl) (gN b1) rfl r5 (by rw[b4];simp only[List.length_cons,List.length_nil];omega) (by rw[b4];simp only[List.length_cons,List.length_nil,maxLen];omega) Aw fun CX bG dM kJ=>?_;have bm:Ext w1 bG:=Ext.grown (((aj.trans ag).trans oc).trans aI) kJ fun q ao=>(c9.lt q ao).1;obtain⟨FP,nj,rfl,_⟩:=dM.form;rw[ic] at dM ⊢;by_cases g7:12<st.length - p+1
  .rw[if_pos Aw] at eK
   first
    | (exfalso;omega)
    | (refine ay ?_
       rw[o.kind,kL (by rw[eK];simp),eK];exact⟨aL,ah.trans bm⟩)
  rw[if_neg Aw] at eK;refine dh b0 ?_;refine⟨aV,aL,_,_,rfl,dM,by rw[uM,eK],fun _=>by rw[ic];omega,by rw[ic];omega,bm⟩
 .have av:=aii (s:=s) (st:=st) (x:=e[k]) Aw Aw;obtain⟨nh,rfl⟩:=U.addr;refine dh (i_ ad (i_ ab (i_ bz b0))) ?_;refine K_ (st.length - 2) Aw Aw ?_;refine dh (i_ ad (i_ ab (i_ bz b0))) ?_;refine K_ (st.length - 1) Aw Aw ?_;refine dh (i_ ad (i_ ab (i_ bz b0))) ?_;refine P_ _ (fun w' e'=>(aq0 e[k].op _ _ w' (Lr Aw)).mono fun v bM h=>⟨h.1,h.2 ▸ Ext.refl _⟩) ?_;rw[<-av];refine dh (i_ ad (i_ ab (i_ bz b0))) ?_;intro aK ag;refine dh (i_ ad (i_ ab (i_ bz b0))) ?_;apply I_<;>intro g6;rotate_left
  .rw[if_pos g6] at eK;refine ay ?_;rw[o.kind,kL (by rw[eK];exact g6),eK];exact b5
  rw[if_neg (by simpa using g6)] at eK;have dG:=fK.ext ag;refine dh (i_ ad (i_ ab (i_ bz b0))) ?_;refine Y_ (cs:=[]) (by simp[List.range,List.range.loop,eZ]) fun aR cx e3 aw bf=>?_;have z12:=aj.size;have z23:=ag.size;have C5:=aw.size;have th:nf w1.heap.size aR (.slice (some ⟨cx,0,none⟩) 0 0) []:=aP.empty Aw bf;have dz:=dG.ext aw;have dt:nf w1.heap.size aR (.slice _ (st.length - p) _) (st.take (st.length - p)):=aP.head (enc:=encI) (sz:=1) (xs:=st) (fun _=>rfl) dz (st.length - p) (AI0 _ _);have b4:(st.take (st.length - p)).length=st.length - p:=by simp[List.length_take]
  refine dh (i_ ad (i_ ab (i_ bz b0))) ?_;refine _N (st.length - p) (by refine b7 bz ?_;first | rfl | (congr 1;omega)) Aw ?_;refine ay ?_;refine _j (xs:=[]) (ys:=st.take (st.length - p)) th dt (fun _=>rfl) r5 (by rw[b4];simp only[List.length_nil];omega) (by rw[b4];simp only[List.length_nil,maxLen];omega) Aw fun v5 bo mS gT=>?_;have oc:Ext aK bo:=aw.grown gT fun q ao=>by simp[Value.ownBlock] at ao;omega
  rw[AF9] at mS;have z35:=oc.size;refine ay ?_;refine Y_ (cs:=[(o.fk s e[k] st).1].flatMap encI) (by simp[List.range,List.range.loop,eZ,lay,c0,bL,Value.cells,encI]) fun bt ee gf aI b1=>?_;have AN:=aI.size;have c9:=mS.ext aI;refine ay ?_;refine _O (xs:=st.take (st.length - p)) (ys:=[(o.fk s e[k] st).1]) c9 (fun _=>rfl) (gN b1) rfl r5 (by rw[b4];simp only[List.length_cons,List.length_nil];omega) (by rw[b4];simp only[List.length_cons,List.length_nil,maxLen];omega) Aw fun CX bG dM kJ=>?_;have bm:Ext w1 bG:=Ext.grown (((aj.trans ag).trans oc).trans aI) kJ fun q ao=>(c9.lt q ao).1;obtain⟨FP,nj,rfl,_⟩:=dM.form;rw[ic] at dM ⊢;by_cases g7:12<st.length - p+1
  .rw[if_pos Aw] at eK
   first
    | (exfalso;omega)
    | (refine ay ?_
       rw[o.kind,kL (by rw[eK];simp),eK];exact⟨aL,ah.trans bm⟩)
  rw[if_neg Aw] at eK;refine dh b0 ?_;refine⟨aV,aL,_,_,rfl,dM,by rw[uM,eK],fun _=>by rw[ic];omega,by rw[ic];omega,bm⟩
end Go.Proofs.R
end