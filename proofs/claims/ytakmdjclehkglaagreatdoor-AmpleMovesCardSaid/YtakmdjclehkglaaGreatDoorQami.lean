/- Parts. -/
import Derived.Test.YtakmdjclehkglaaGreatDoorQamh
set_option linter.all false
set_option maxRecDepth 8000
set_option maxHeartbeats 4000000
namespace Go.Proofs.R
open Go Go.RowKit ba o
def aeY(f:o.Node->C_ Int->Int×Int)(two:p6->C_ Int->Int×Int)(leaf:o.Node->C_ Int->Int×Int)(ax:NG f two leaf)(cr:Int->Prop)
  (b:Nat)(w0 w:A_)(KS:Ext w0 w)(rZ:w0.heap.size<=b)(gX nQ v2:B_)(e:C_ o.Node)(he:eW w0 gX e)(ak:w.heap[b]? = some (.cells #[.slice none 0 0,.map none] T.nV))
  (Gv:∀x st,x.ok->(∀z∈st,cr z)->0<=fR x.op->fR x.op<=st.length->(f x st).2=0->cr (f x st).1)
  (RD:∀x st base m w',x.ok->Mod (λk=>k=b) w w'->rH base b w' m st->(∀z∈st,cr z)->0<=fR x.op->fR x.op<=st.length->hp x.op=none->∀w1 cO t,Ext w' w1 ->
   (∀bO,Ext w1 bO->cO (.tuple #[.I (leaf x st).1,.I (leaf x st).2]) bO)->B8 Tryz.prog nQ [.agg x.enc.toArray] w1 cO t)
  (Sh:∀ae ei fa l w' cO t,Mod (λk=>k=b) w w'->EP w' ae ei->(∃x,hp x=some ae)->ae.parts=l.length->Ints w' fa l ->
   (∀bO,Ext w' bO->cO (.tuple #[.I (two ae l).1,.I (two ae l).2]) bO)->yf Tryz.prog v2 [ei,fa] w' cO t) :
  Ei F.b5 #[.pointer (some ⟨b,0,none⟩),gX,nQ,v2] w λv w' =>
   v = .tuple #[.I (nm f e).1,.I (nm f e).2]/\Mod (λk=>k=b) w w':=by
 obtain⟨aN,cap,rfl,hlen⟩:=he.form;refine bk E.b5 ?_;refine aI ?_;apply I_<;>intro g1
 .refine aI ?_;rw[nm,if_pos Aw];exact⟨rfl,Mod.refl _ _⟩
 refine aI ?_;apply I_<;>intro g2
 .refine aI ?_;rw[nm,if_neg Aw,if_pos Aw];exact⟨rfl,Mod.refl _ _⟩
 refine aI ?_;refine J_ (aq0 w) ?_;rintro m w1 ⟨GL,af⟩;refine aI ?_;refine _H (af.obj ak) BS (by obtain⟨r,_,_,_,e,_⟩:=GL;rw[e];rfl) λaz ov ao=>?_;have Ga:az.heap[b]? = some (.cells #[.slice none 0 0,m] T.nV):=ao;clear ao;have anX:rI az m:=GL.mod (A:=λk=>k=b) (ov.mod rfl) λk ae h1 J hk=>by
  subst hk;rw[af.obj ak] at h1;injection h1 with h1
  rcases J with ⟨es,c,J⟩ | ⟨cs,J⟩
  .rw[J] at h1;cases h1
  .rw[J] at h1;injection h1 with _ h1
   cases h1
 have abv:Mod (λk=>k=b) w az:=af.mod.trans (ov.mod rfl);have cu:b<az.heap.size:=cq Ga;refine aI ?_;refine _h 27 e.length (λk S w'=>Mod (λk=>k=b) az w'/\∃st,gq f (e.take k) []=(0,st)/\rH az.heap.size b w' m st/\(0<k->1<=st.length)/\st.length<=12/\∀z∈st,cr z)
  (by simp -dsimp only[dg,cK,Nat.reduceAdd,Nat.reduceEqDiff,reduceIte,reduceCtorEq,dq]) ⟨Mod.refl _ _,[],by simp[gq],⟨⟨_,Ga,aK.nil _ _ _ _ _⟩,cu,E1 _⟩,CC,CC,CC⟩ ?_
 rintro k S aM b7 hk pH ⟨xk,st,ih,Bb,FN,sN,uc⟩;have ad:=b7 0 rfl;have h1:=b7 1 rfl;have J:=b7 2 rfl;have ab:=b7 3 rfl;have vk:=b7 25 rfl;have mU:=b7 26 rfl;simp only[bE,Nat.reduceAdd,Nat.reduceEqDiff,reduceIte,kx,oe] at ad h1 J ab vk mU;clear b7;have KB:Mod (λk=>k=b) w aM:=abv.trans xk;refine en (i_ ad (i_ h1 (i_ J (i_ ab (i_ vk (i_ mU pH)))))) ?_;apply I_<;>intro g3
 .have a1:k<e.length:=Aw
  have av5:Ext w0 aM:=KB.ext KS λq av e=>Aw
  obtain⟨a,rfl⟩:=he.addr;have nJ:=(he.at k a1).ok;have kf:=λad=>Ub (f:=f) (e:=e) Aw a1 ih ad;have DG:=Ec a1 ih;have anY:rI aM m:=anX.mod (A:=λk=>k=b) xk λk ae h1 J hk=>by
   subst hk;rw[Ga] at h1;injection h1 with h1
   rcases J with ⟨es,c,J⟩ | ⟨cs,J⟩
   .rw[J] at h1;cases h1
   .rw[J] at h1;injection h1 with _ h1
    cases h1
  refine en (i_ ad (i_ h1 (i_ J (i_ ab (i_ vk (i_ mU pH)))))) ?_;generalize ah:e[k]=x at *;refine _N (vs:=x.enc) (λ_=>by simp -dsimp only[dg,cK,Nat.reduceAdd,Nat.reduceEqDiff,reduceIte,reduceCtorEq,dq]) rfl rfl (by simp[o.Node.enc,Value.oneCell']) λaR cQ fD aq bn=>?_;refine en (i_ ad (i_ h1 (i_ J (i_ ab (i_ vk (i_ mU pH)))))) ?_;refine T_ (c:=x.enc) bn (Ext.refl _) rfl ?_;refine en (i_ ad (i_ h1 (i_ J (i_ ab (i_ vk (i_ mU pH)))))) ?_;have RG:Mod (λk=>k=b) w aR:=KB.trans aq.mod;refine J_ (aub f two leaf ax x az.heap.size b aR m nQ v2 st (Bb.ext aq) (anY.ext aq) Aw
   (λc7 dE ed w' cO t G1 hk=>RD x st _ m aR nJ RG (Bb.ext aq) uc c7 dE ed w' cO t G1 hk)
   (λae ei fa w' cO t G1 c7 dE ed gW hk=>Sh ae ei fa _ w' cO t (RG.trans G1.mod) dE ⟨_,c7⟩ (by have:=Tl c7;simp[List.length_drop];omega) gW hk)) ?_
  rintro _ bg ⟨rfl,l2,ab2⟩;have anz:Mod (λk=>k=b) w bg:=RG.then l2 λi U h=>by
   rcases h with h | h
   .exact h
   .have:=abv.size;omega
  refine en (i_ ad (i_ h1 (i_ J (i_ ab (i_ vk (i_ mU pH)))))) ?_;apply I_<;>intro g4;rotate_left
  .refine en (i_ ad (i_ h1 (i_ J (i_ ab (i_ vk (i_ mU pH)))))) ?_;rw[kf g4];exact⟨aJ,anz⟩
  have GF:=aua g4;have anb:∀z∈(o.stepG f x st).2,cr z:=by
   have aG:=Gv x st nJ uc;clear kf DG GF ab2;unfold o.stepG at g4 ⊢;by_cases c7:fR x.op<0
   .rw[if_pos c7] at g4;cases g4
   by_cases dE:(st.length:Int)<fR x.op
   .rw[if_neg c7,if_pos dE] at g4;cases g4
   by_cases ed:(f x st).2≠0
   .rw[if_neg c7,if_neg dE,if_pos ed] at g4;exact absurd g4 ed
   by_cases gW:(st.take (st.length - (fR x.op).toNat)++[(f x st).1]).length > 12
   .rw[if_neg c7,if_neg dE,if_neg ed,if_pos gW] at g4;cases g4
   rw[if_neg c7,if_neg dE,if_neg ed,if_neg gW];intro z bB;rcases List.mem_append.1 bB with bB | bB
   .exact uc z (AK2 bB)
   .simp at bB;subst bB;exact aG Aw Aw (by simpa using ed)
  refine en (i_ ad (i_ h1 (i_ J (i_ ab (i_ vk (i_ mU pH)))))) ?_;refine⟨a1,aJ,?_,(o.stepG f x st).2,?_,ab2 g4,λ_=>GF.1,GF.2,anb⟩
  .refine(xk.trans aq.mod).then l2 λi U h=>?_;rcases h with h | h
   .exact h
   .omega
  .rw[DG];exact Prod.ext g4 rfl
 .have a1:k=e.length:=Aw
  subst a1;rw[AE8] at ih;obtain⟨BV,cI,gz⟩:=Bb.ex;obtain⟨iQ,qS,rfl,Gh,l4⟩:=gz.form;have U:Ints aM _ st:=aK.iR (enc:=encI) (sz:=1) (λ_=>rfl) gz;have h1:=FN Aw;obtain⟨a,rfl⟩:=U.addr h1;have de:nm f e=if st.length > 1 then (0,5) else (st.headD 0,0):=by
   rw[nm,if_neg Aw,if_neg Aw,ih,if_neg CC]
  rw[de];clear de;refine en (i_ ad (i_ h1 (i_ J (i_ ab (i_ vk (i_ mU pH)))))) ?_;apply I_<;>intro g4
  .refine aI ?_;rw[if_pos Aw];exact⟨rfl,KB⟩
  .refine en (i_ ad (i_ h1 (i_ J (i_ ab (i_ vk (i_ mU pH)))))) ?_;refine K_ 0 rfl Aw ?_;refine aI ?_;rw[if_neg Aw]
   have:st.headD 0=st[0]:=by
    cases st with
    | nil=>simp at h1
    | cons z st=>rfl
   rw[this];exact⟨aJ,KB⟩
theorem apg(ae:p6)(u fa:B_)(l:C_ Int)(w:A_)(aE:Ints w fa l) :
  Ei F.fO #[.agg #[.I ae.parts,.I ae.jW,.I ae.makes,u],fa] w λv w'=>v = .tuple #[.I (pd ae l).1,.I (pd ae l).2]/\Ext w w':=by
 obtain⟨aN,cap,rfl,hlen⟩:=aE.form;refine bk E.fO ?_;refine aI ?_;refine O_ λw1 b ak af al=>?_;refine aI ?_;refine _h 10 l.length (λk S w'=>w'=w1/\(l.take k).all (λk=>(decide (ae.jW = -1)||decide (k=ae.jW))&&decide (k=l.headD 0))=true) (by simp -dsimp only[dg,cK,Nat.reduceAdd,Nat.reduceEqDiff,reduceIte,reduceCtorEq,dq]) ⟨rfl,CC⟩ ?_;rintro k S az b7 hk la ⟨rfl,dx⟩;have h1:=b7 1 rfl;have J:=b7 2 rfl;have dr:=b7 8 rfl;have iA:=b7 9 rfl;simp only[bE,Nat.reduceAdd,Nat.reduceEqDiff,reduceIte,kx,oe] at h1 J dr iA;clear b7;refine en (i_ h1 (i_ J (i_ dr (i_ iA la)))) ?_;apply I_<;>intro g1;rotate_left
 .rw[MT Aw] at dx;refine en (i_ h1 (i_ J (i_ dr (i_ iA la)))) ?_;rw[pd,if_pos dx];exact cc
 have a1:k<l.length:=Aw
 obtain⟨a,rfl⟩:=aE.addr;have zj:l.take (k+1)=l.take k++[l[k]]:=MR a1;have De:=AJ0 (xs:=l.take (k+1)) (ys:=l.drop (k+1)) (f:=λk=>(decide (ae.jW = -1)||decide (k=ae.jW))&&decide (k=l.headD 0));rw[AH6,zj,AJ0] at De;have ad:l.headD 0=l[0]:=by
  cases l with
  | nil=>simp at a1
  | cons z l=>rfl
 have aau:((decide (ae.jW = -1)||decide (l[k]=ae.jW))&&decide (l[k]=l.headD 0))=false->pd ae l=(0,9):=by
  intro h;rw[pd,if_neg (by rw[De];simp only[List.all_cons,List.all_nil,h];simp)]
 have Gv:((decide (ae.jW = -1)||decide (l[k]=ae.jW))&&decide (l[k]=l.headD 0))=true->(l.take (k+1)).all (λk=>(decide (ae.jW = -1)||decide (k=ae.jW))&&decide (k=l.headD 0))=true:=by
  intro h;rw[zj,AJ0,dx];simp only[List.all_cons,List.all_nil,h];rfl
 rw[ad] at aau;clear De;have au:0<l.length:=Aw
 have mZ:Ints az (.slice (some a) l.length cap) l:=aE.ext af;have Dq:=Gv;rw[ad] at Gv dx
 (repeat' first
 | (refine I_ (λ_=>?_) (λ_=>?_)<;>try (exfalso;omega))
 | (refine N_ (λ_=>?_) (λ_=>?_))
 | assumption
 | exact Ext.refl _
 | refine Ext.trans ?_ CV
 | refine Q_ Aw ?_
 | refine _M CV ?_ rfl ?_
 | refine _E CV ?_ rfl ?_
 | refine _O CV ?_ Aw rfl ?_
 | refine _P CV ?_ Aw rfl ?_
 | refine _Q CV ?_ Aw rfl ?_
 | refine _T Aw ?_
 | refine _R (by first | assumption | omega) ?_
 | refine _S (by first | assumption | omega) ?_
 | refine _I CV ?_
 | refine _J CV ?_
 | simp -dsimp only[dg,cK,Nat.reduceAdd,Nat.reduceEqDiff,reduceIte,reduceCtorEq,dq,h1,J,dr,iA,la])
 all_goals first
  | (have cI:=aau (by simp;omega);rw[cI];refine⟨aJ,af⟩)
  | (refine⟨Aw,aJ,trivial,?_⟩;rw[ad];exact Gv (by simp;omega))
def ao6(x:o.Node)(cs:C_ B_)(s:o.Scope)(base b pm dA:Nat)(w:A_)(m:B_)(st:C_ Int)(UE:F_)(ah:x.ok)(h:gk w cs s)(hm:rH base b w m st)(ab:x.op=3->0<st.length)
  (xq:w.heap[pm]? = some (.cells #[.pointer (some ⟨b,0,none⟩)] UE))(ug:w.heap[dA]? = some (.cells cs.toArray T.w)) :
  Ei F.cL #[.agg x.enc.toArray,.pointer (some ⟨pm,0,none⟩),.pointer (some ⟨dA,0,none⟩)] w λv w' =>
   v = .tuple #[.I (jC x s (st.getLastD 0)).1,.I (jC x s (st.getLastD 0)).2]/\Ext w w':=by
 obtain⟨v0,v1,v2,v3,v4,rfl,_⟩:=h.ex;refine bk E.cL ?_;refine aI ?_;refine O_ λw1 bx cN af al=>?_;have cM:w1.heap[bx]? = some (.cells x.enc.toArray T.e):=al;refine aI ?_;refine T_ (c:=x.enc) cM (Ext.refl _) rfl ?_;refine aI ?_;refine T_ ug af rfl ?_;refine aI ?_;refine J_ (ao9 x _ s base b w1 m st ah (h.ext af) (hm.ext af) ab) ?_;rintro _ az ⟨rfl,ai⟩;refine aI ?_;exact cc
def akd(s:o.Scope):NG (fZ s) pd λx st=>jC x s (st.getLastD 0):=λ_ _=>rfl
def acR(gX:B_)(e:C_ o.Node)(cs:C_ B_)(s:o.Scope)(w:A_)(he:eW w gX e)(h:gk w cs s) :
  Ei F.Jq #[gX,.agg cs.toArray] w λv w'=>v = .tuple #[.I (o.kind e s).1,.I (o.kind e s).2]/\Ext w w':=by
 obtain⟨v0,v1,v2,v3,v4,rfl,_⟩:=h.ex;refine bk E.Jq ?_;refine aI ?_;refine O_ λw1 dA ug af al=>?_;refine aI ?_;refine X_ (cs:=[.slice none 0 0,.map none]) (by simp[gG]) ?_;refine aI ?_;refine O_ λaz b ak ai ao=>?_;refine aI ?_;refine O_ λaM pm xq ag a8=>?_;refine aI ?_;refine _V a8 BS rfl λaR dT bn=>?_;have QT:aR.heap[pm]? = some (.cells #[.pointer (some ⟨b,0,none⟩)] T.tE):=bn;have aq:Ext az aR:=dT.ext ag xq;have an7:=cq ao;have abS:=cq al;have A1:Ext w aR:=(af.trans ai).trans aq;clear bn dT ag a8;have fD:=aq.obj ao;have kW:=aq.obj (ai.obj al);have fT:=af.size;refine aI ?_;refine J_ (aeY (fZ s) pd (λx st=>jC x s (st.getLastD 0)) (akd s) (λ_=>True) b w aR A1 Aw gX _ _ e he fD (λ_ _ _ _ _ _ _=>trivial) ?_ ?_) ?_
 .intro x st base m w' ah hm Bb _ c7 dE ed UM cO t iF hk;refine V_ (first:=[]) (cap:=[.pointer (some ⟨pm,0,none⟩),.pointer (some ⟨dA,0,none⟩)]) Cx
   (ao6 x _ s base b pm dA UM m st _ ah (h.ext ((hm.ext A1 (by intro k hk e;omega)).trans iF)) (Bb.ext iF) ?_ (iF.obj (hm.obj Aw QT)) (iF.obj (hm.obj Aw kW))) λv bO ⟨h1,J⟩=>by subst h1;exact hk bO J
  intro ab
  have:fR x.op=1:=by rw[ab];rfl
  omega
 .rintro ae ei fa l w' cO t hm ⟨u,rfl,bb⟩ _ aE U hk;exact _d (first:=[]) (cap:=[]) Cx (apg ae u fa l w' U) λv bO ⟨h1,J⟩=>by subst h1;exact hk bO J
 rintro _ bg ⟨rfl,l2⟩;have ar:Ext w bg:=l2.ext A1 (by intro k hk e;omega);refine aI ?_;exact cc
end Go.Proofs.R
namespace o
open Go Go.RowKit ba
def VK(v:B_):H_ (Var×Int)->Prop
 | some q=>v = .tuple #[.agg q.1.enc.toArray,.int .i64 q.2,.bool true]
 | none => ∃(x:Var) (k:Int),v = .tuple #[.agg x.enc.toArray,.int .i64 k,.bool false]
end o
namespace Go.Proofs.R
open Go Go.RowKit ba o
def YQ(a b:Int)(cs:C_ B_)(s:o.Scope)(w:A_)(h:gk w cs s) :
  Ei F.JX #[.I a,.I b,.agg cs.toArray] w λv w'=>v = .tuple #[.I (me a b s).1,.bool (me a b s).2]/\Ext w w':=by
 obtain⟨a0,bz,db,c1,a2,c2,a3,bw,a4,bD,rfl,ad,h1,J,ab,aF,eB,dD,dO,dU,eg⟩:=h.form;refine bk E.JX ?_;refine aa ?_;intro w1 b ak af al;refine aa ?_
 (repeat' (refine aI ?_;first | (refine I_ (λ_=>?_) (λ_=>?_)<;>try (exfalso;omega)) | refine N_ (λ_=>?_) (λ_=>?_)))<;>try refine aI ?_
 all_goals
  refine⟨?_,fU⟩;unfold me
  (repeat' split)<;>first | rfl | (exfalso;omega)
def YV(v:B_)(l:C_ o.Var)(n:Int)(cs:C_ B_)(s:o.Scope)(w:A_)(aE:h8 w v l)(h:gk w cs s) :
  Ei F.Fg #[v,.I n,.agg cs.toArray] w λv w'=>VK v (o.declared l n s)/\Ext w w':=by
 obtain⟨v0,v1,v2,v3,v4,rfl,_⟩:=h.ex;obtain⟨aN,cap,rfl,hlen⟩:=aE.form;refine bk E.Fg ?_;refine aa ?_;intro w1 bx cN af al;refine aa ?_;intro az bP c8 ai ao;have he:=af.trans ai;refine aa ?_;apply I_<;>intro g1
 .refine aa ?_;intro aM fF a8;refine aa ?_;rw[o.declared,hc (.inl g1)];exact⟨⟨(⟨⟨#[]⟩,0,0,0,0,0⟩:o.Var),0,rfl⟩,fF.ext he (by have:=af.size;omega)⟩
 refine aa ?_;apply I_<;>intro g2
 .refine aa ?_;intro aM fF a8;refine aa ?_;rw[o.declared,hc (.inr Aw)];exact⟨⟨(⟨⟨#[]⟩,0,0,0,0,0⟩:o.Var),0,rfl⟩,fF.ext he (by have:=af.size;omega)⟩
 obtain⟨i,rfl⟩:=Nb (show 0<=n by omega);have U:i<l.length:=Aw
 rw[o.declared,iP Aw Aw];simp only[Int.toNat_natCast];obtain⟨a,rfl⟩:=aE.addr;refine aa ?_;refine P_ _ (λw' e=>YQ _ _ _ s w' (h.ext (he.trans e))) ?_;refine aa ?_;intro aM ag;have ao:=ag.obj ao;refine aa ?_;intro aR dT bn;refine aa ?_;refine⟨?_,dT.ext (he.trans ag) (by have:=af.size;omega)⟩;by_cases ak:(me l[i].scalar l[i].over s).2=true
 .rw[if_pos ak,ak];rfl
 .rw[if_neg ak,Bool.eq_false_iff.2 ak];exact⟨_,_,rfl⟩
def air(n:Int)(cs:C_ B_)(s:o.Scope)(w:A_)(h:gk w cs s) :
  Ei F.bi #[.I n,.agg cs.toArray] w λv w'=>v = .tuple #[.I ((o.channel n s).getD 0),.bool (o.channel n s).isSome]/\Ext w w':=by
 obtain⟨a0,bz,db,c1,a2,c2,a3,bw,a4,bD,rfl,ad,h1,J,ab,aF,eB,dD,dO,dU,eg⟩:=h.form;refine bk E.bi ?_;refine aa ?_;intro w1 bx cN af al;refine aa ?_;apply I_<;>intro g1
 .refine aa ?_;rw[o.channel,hc (.inl g1)];exact cc
 refine aa ?_;apply I_<;>intro g2
 .refine aa ?_;rw[o.channel,hc (.inr Aw)];exact cc
 obtain⟨i,rfl⟩:=Nb (show 0<=n by omega);have U:i<s.aA.length:=Aw
 rw[o.channel,iP Aw Aw];simp only[Int.toNat_natCast];obtain⟨a,rfl⟩:=J.addr;refine aa ?_;refine P_ _ (λw' e=>YQ _ _ _ s w' (h.ext (af.trans e))) ?_;refine aa ?_;intro az ai;refine aa ?_;refine⟨?_,fU⟩;by_cases ak:(me s.aA[i].scalar 0 s).2=true
 .rw[if_pos ak,ak];rfl
 .rw[if_neg ak,Bool.eq_false_iff.2 ak];rw[aum (Bool.eq_false_iff.2 ak)];rfl
def O8(gX:B_)(e:C_ o.Node)(k:Int)(cs:C_ B_)(s:o.Scope)(w:A_)(aw:eW w gX e)(h:gk w cs s) :
  Ei F.f3 #[gX,.I k,.agg cs.toArray] w λv w'=>v = .I (o.asked e k s)/\Ext w w':=by
 obtain⟨v0,v1,v2,v3,v4,rfl,_⟩:=h.ex;refine bk E.f3 ?_;refine aa ?_;intro w1 bx cN af al;refine aa ?_;refine J_ (acR gX e _ s w1 (aw.ext af) (h.ext af)) ?_;rintro _ az ⟨rfl,ai⟩;refine aa ?_;rw[o.asked];apply I_<;>intro g1
 .rw[if_neg (by simpa using g1)];refine aa ?_;apply I_<;>intro g2
  .refine aa ?_;rw[if_neg (by simpa using g2)];exact cc
  refine aa ?_;rw[if_pos g2];exact cc
 refine aa ?_;rw[if_pos g1];exact cc
def Uz(a:o.Act)(bK bY:B_)(w:A_):Ei F.f4 #[.agg (a.enc bK bY).toArray] w λv w'=>v = .bool (hF a)/\Ext w w':=by
 refine bk E.f4 ?_;refine aa ?_;intro w1 bx cN af al;refine aa ?_;rw[hF];apply I_<;>intro g1
 .refine aa ?_;refine⟨?_,fU⟩;congr 1;simp[g1]
 refine aa ?_;refine⟨?_,fU⟩;congr 1;simp[g1]
theorem asz(a:o.Act)(bK bY:B_)(k:Int)(cs:C_ B_)(s:o.Scope)(w:A_)(h:gk w cs s) :
  Ei F.JS #[.agg (a.enc bK bY).toArray,.I k,.agg cs.toArray] w λv w'=>v = .I (HH a k s)/\Ext w w':=by
 obtain⟨v0,v1,v2,v3,v4,rfl,ad,h1,J,ab,aF,_⟩:=h.ex;refine bk E.JS ?_;refine aa ?_;intro w1 bx cN af al;refine aa ?_;intro az bP c8 ai ao;have he:=af.trans ai;refine aa ?_;refine J_ (YV v4 s.locals a.loc _ s az (aF.ext he) (h.ext he)) ?_;rintro q aM ⟨av,ag⟩;rw[HH];cases bb:o.declared s.locals a.loc s with
 | none =>
  rw[bb] at av;obtain⟨x,k',rfl⟩:=av;refine aa ?_;intro aR cQ fD aq bn;refine aa ?_;exact cc
 | some q =>
  obtain⟨x,k'⟩:=q;rw[bb] at av;subst av;refine aa ?_;intro aR cQ fD aq bn;refine aa ?_;apply I_<;>intro g1
  .refine aa ?_;apply I_<;>intro g2
   .refine aa ?_;simp only[g1,g2,ne_eq,not_true_eq_false,or_self,if_false];exact cc
   refine aa ?_;simp only[g2,ne_eq,not_false_eq_true,or_true,if_true];exact cc
  refine aa ?_;simp only[g1,ne_eq,not_false_eq_true,true_or,if_true];exact cc
end Go.Proofs.R
namespace o
open Go Go.RowKit ba
def O2{s:Scope}{l:C_ Act}{k:Nat}{t:Bool}(h:k<l.length) :
  lv s (l.drop k) k t=if hF l[k]&&t then (2+(k:Int),7) else if k5 l[k] s≠0 then (2+(k:Int),k5 l[k] s) else lv s (l.drop (k+1)) (k+1) (t||hF l[k]):=by
 rw[AF0 h];rfl
end o
namespace Go.Proofs.R
open Go Go.RowKit ba o
def OY(k:Int)(a:o.Act)(bK bY:B_)(cs:C_ B_)(s:o.Scope)(w:A_)(bx bP:Nat)(cN:w.heap[bx]? = some (.cells (a.enc bK bY).toArray T.y))(c8:w.heap[bP]? = some (.cells cs.toArray T.w))
  (aH:eW w bY a.value)(h:gk w cs s) :
  Ei F.JR #[.I k,.pointer (some ⟨bx,0,none⟩),.pointer (some ⟨bP,0,none⟩)] w λv w'=>v = .I (o.asked a.value k s)/\Ext w w':=by
 obtain⟨v0,v1,v2,v3,v4,rfl,_⟩:=h.ex;refine bk E.JR ?_;refine aa ?_;refine J_ (O8 bY a.value k _ s w aH h) ?_;rintro _ az ⟨rfl,ai⟩;refine aa ?_;exact cc
def agV(a:o.Act)(bK bY:B_)(cs:C_ B_)(s:o.Scope)(w:A_)(U:eW w bK a.index)(aH:eW w bY a.value)(h:gk w cs s) :
  Ei F.f5 #[.agg (a.enc bK bY).toArray,.agg cs.toArray] w λv w'=>v = .I (k5 a s)/\Ext w w':=by
 obtain⟨v0,v1,v2,v3,v4,rfl,ad,h1,J,ab,aF,eB⟩:=h.ex;refine bk E.f5 ?_;refine aa ?_;intro w1 bx cN af al;refine aa ?_;intro az bP c8 ai ao;have he:=af.trans ai;have al:=ai.obj al;by_cases q:a.kind=1\/a.kind=2\/a.kind=3
 .rw[k5,if_pos q];generalize ck:(if a.kind=3 then s.locals else s.vars)=L;have q4:∀nQ n,nQ=(if a.kind=3 then v4 else v1)->Ei F.Fg #[nQ,.I n,.agg #[v0,v1,v2,v3,v4,.I s.self]] az λv w'=>VK v (o.declared L n s)/\Ext az w':=by
   rintro nQ n rfl;refine YV _ L n _ s az ?_ (h.ext he);rw[<-ck];split
   .exact aF.ext he
   .exact h1.ext he
  by_cases sf:a.kind=2
  .refine aa ?_;refine J_ (q4 _ _ (by simp[sf])) ?_;rintro u aM ⟨av,ag⟩;have al:=ag.obj al;have ao:=ag.obj ao;have xe:=he.trans ag;cases bb:o.declared L a.to s with
   | none =>
    rw[bb] at av;obtain⟨x,k',rfl⟩:=av;refine aa ?_;intro aR cQ fD aq bn;refine aa ?_;exact cc
   | some u =>
    obtain⟨x,k'⟩:=u;rw[bb] at av;subst av;have an0:=aiY bb;simp only at an0;refine aa ?_;intro aR cQ fD aq bn;have al:=aq.obj al;have ao:=aq.obj ao;have q5:=xe.trans aq;refine aa ?_;refine _7 Cx ?_;refine aa ?_;by_cases dE:x.over=0
    .refine _I (by simp[sf,dE]) ?_;refine aa ?_;exact⟨by simp[sf,dE],fU⟩
    refine _J (by simp[sf,dE]) ?_;refine aa ?_;refine J_ (O8 bK a.index _ _ s aR (U.ext q5) (h.ext q5)) ?_;rintro _ bg ⟨rfl,ar⟩;have al:=ar.obj al;have ao:=ar.obj ao;have Kq:=q5.trans ar;refine aa ?_;refine I_ (λed=>?_) (λed=>?_)
    .refine aa ?_;refine V_ (first:=[]) (cap:=[_,_]) Cx (OY k' a bK bY _ s bg bx bP al ao (aH.ext Kq) (h.ext Kq)) ?_;rintro _ bp ⟨rfl,aC⟩;refine aa ?_;exact⟨by simp[sf,dE,ed],fU⟩
    .refine aa ?_;exact⟨by simp[sf,dE,ed],fU⟩
  have uG:a.kind=1\/a.kind=3:=Aw
  clear q;rcases uG with q | q
  all_goals
   refine aa ?_;refine J_ (q4 _ _ (by simp[q])) ?_;rintro u aM ⟨av,ag⟩;have al:=ag.obj al;have ao:=ag.obj ao;have xe:=he.trans ag;cases bb:o.declared L a.to s with
   | none =>
    rw[bb] at av;obtain⟨x,k',rfl⟩:=av;refine aa ?_;intro aR cQ fD aq bn;refine aa ?_;exact cc
   | some u =>
    obtain⟨x,k'⟩:=u;rw[bb] at av;subst av;refine aa ?_;intro aR cQ fD aq bn;have al:=aq.obj al;have ao:=aq.obj ao;have q5:=xe.trans aq;refine aa ?_;refine _7 Cx ?_;refine aa ?_;by_cases dE:x.over=0
    .refine _J (by simp[q,dE]) ?_;refine aa ?_;refine V_ (first:=[]) (cap:=[_,_]) Cx (OY k' a bK bY _ s aR bx bP al ao (aH.ext q5) (h.ext q5)) ?_;rintro _ bp ⟨rfl,aC⟩;refine aa ?_;exact⟨by simp[q,dE],fU⟩
    .refine _I (by simp[q,dE]) ?_;refine aa ?_;exact⟨by simp[q,dE],fU⟩
 by_cases gW:a.kind=4\/a.kind=5
 .rw[k5,if_neg q,if_pos gW];have TH:a.kind≠3:=Aw
  have D4:a.kind≠1:=Aw
  have TI:a.kind≠2:=Aw
  have step:∀(w':A_),Ext az w'->Ei F.bi #[.I a.to,.agg #[v0,v1,v2,v3,v4,.I s.self]] w' λv bO=>v = .tuple #[.I ((o.channel a.to s).getD 0),.bool (o.channel a.to s).isSome]/\Ext w' bO :=
   λw' e=>air a.to _ s w' (h.ext (he.trans e))
  rcases gW with gW | gW
  .refine aa ?_;refine J_ (step az (Ext.refl _)) ?_;rintro _ aM ⟨rfl,ag⟩;have al:=ag.obj al;have ao:=ag.obj ao;have xe:=he.trans ag;cases bb:o.channel a.to s with
   | none =>
    simp only[Option.isSome_none,Option.getD_none];refine aa ?_;exact cc
   | some k =>
    simp only[Option.isSome_some,Option.getD_some];refine aa ?_;refine V_ (first:=[]) (cap:=[_,_]) Cx (OY k a bK bY _ s aM bx bP al ao (aH.ext xe) (h.ext xe)) ?_;rintro _ bp ⟨rfl,aC⟩;refine aa ?_;exact⟨by simp[gW],fU⟩
  .refine aa ?_;refine J_ (step az (Ext.refl _)) ?_;rintro _ aM ⟨rfl,ag⟩;have al:=ag.obj al;have ao:=ag.obj ao;have xe:=he.trans ag;cases bb:o.channel a.to s with
   | none =>
    simp only[Option.isSome_none,Option.getD_none];refine aa ?_;exact cc
   | some k =>
    simp only[Option.isSome_some,Option.getD_some];refine aa ?_;refine J_ (asz a bK bY k _ s aM (h.ext xe)) ?_;rintro _ bp ⟨rfl,aC⟩;refine aa ?_;exact⟨by simp[gW],fU⟩
 rw[k5,if_neg q,if_neg gW];have TH:a.kind≠3:=Aw
 have D4:a.kind≠1:=Aw
 have TI:a.kind≠2:=Aw
 have aeb:a.kind≠4:=Aw
 have ax8:a.kind≠5:=Aw
 refine aa ?_;exact cc
end Go.Proofs.R
namespace o
open Go
def amX{c:dG}{n:Int}(h:head c n=0):isName c.name=true/\0<=c.from_/\c.from_<n/\0<=c.to/\c.to<n/\c.bL.length<=6:=by
 unfold head at h;by_cases h1:isName c.name=false
 .rw[if_pos h1] at h;cases h
 rw[if_neg h1] at h;by_cases J:c.from_<0\/n<=c.from_\/c.to<0\/n<=c.to
 .rw[if_pos J] at h;cases h
 rw[if_neg J] at h;by_cases ab:c.bL.length > 6
 .rw[if_pos ab] at h;cases h
 exact⟨by simpa using h1,Aw,Aw,Aw,Aw,Aw⟩
end o
namespace o
open Go Go.RowKit ba
def YG{l:C_ Act}{k:Nat}(h:k<l.length):comm (l.drop k)=if hF l[k] then (l[k].kind,l[k].to) else comm (l.drop (k+1)):=by
 rw[AF0 h];rfl
end o
namespace Go.Proofs.R
open Go Go.RowKit ba o
def aa5(n:Int)(p:dv)(qu se:B_)(w:A_)(b:Nat)(ak:w.heap[b]? = some (.cells (p.enc qu se).toArray T.l)) :
  Ei F.FL #[.I n,.pointer (some ⟨b,0,none⟩)] w λv w'=>v = .bool (decide (n<0\/p.cn<=n))/\w'=w:=by
 refine bk E.FL ?_;refine aa ?_;apply I_<;>intro g1
 .refine aa ?_;exact⟨by simp[g1],aJ⟩
 refine aa ?_;exact⟨by simp[g1],aJ⟩
def amY(c:dG)(eY va:B_)(p:dv)(qu se:B_)(w:A_)(aS:gQ w)(aw:jV c.name)(aY:lP w va c.bL) :
  Ei F.f2 #[.agg (c.enc eY va).toArray,.agg (p.enc qu se).toArray] w λv w'=>v = .I (o.head c p.cn)/\Ext w w':=by
 obtain⟨aN,cap,rfl,hlen⟩:=aY.form;refine bk E.f2 ?_;refine aa ?_;intro w1 bx cN af al;refine aa ?_;intro az bP c8 ai ao;have he:=af.trans ai;have al:=ai.obj al;refine aa ?_;refine J_ (MU c.name az (aS.ext he) aw) ?_;rintro _ aM ⟨rfl,ag⟩;have al:=ag.obj al;have ao:=ag.obj ao;have xe:=he.trans ag;rw[o.head];refine aa ?_;refine N_ (λg1=>?_) (λg1=>?_);rotate_left
 .refine aa ?_;exact⟨by simp[g1],fU⟩
 refine aa ?_;refine V_ (first:=[]) (cap:=[_]) Cx (aa5 c.from_ p qu se aM bP ao) ?_;rintro _ _ ⟨rfl,rfl⟩;refine aa ?_;apply I_<;>intro g2
 .refine aa ?_;refine⟨?_,fU⟩;rw[if_neg (by simp[g1]),if_pos Aw]
 refine aa ?_;refine V_ (first:=[]) (cap:=[_]) Cx (aa5 c.to p qu se _ bP ao) ?_;rintro _ _ ⟨rfl,rfl⟩;refine aa ?_;apply I_<;>intro g3
 .refine aa ?_;refine⟨?_,fU⟩;rw[if_neg (by simp[g1]),if_pos Aw]
 refine aa ?_;apply I_<;>intro g4
 .refine aa ?_;refine⟨?_,fU⟩;rw[if_neg (by simp[g1]),if_neg Aw,if_pos Aw]
 .refine aa ?_;refine⟨?_,fU⟩;rw[if_neg (by simp[g1]),if_neg Aw,if_neg Aw]
def YH(c:dG)(eY va:B_)(w:A_)(aY:lP w va c.bL) :
  Ei F.JG #[.agg (c.enc eY va).toArray] w λv w'=>v = .tuple #[.I (o.comm c.bL).1,.I (o.comm c.bL).2]/\Ext w w':=by
 obtain⟨aN,cap,rfl,hlen⟩:=aY.form;refine bk E.JG ?_;refine aa ?_;intro w1 bx cN af al;refine aa ?_;refine L_ 9 c.bL.length [7,8] (λ_=>[]) () (λk _ w'=>Ext w w'/\o.comm c.bL=o.comm (c.bL.drop k)) a6 a6 ⟨af,CC⟩ ?_;rintro k _ S az hk ⟨ai,aP⟩;refine aa ?_;apply I_<;>intro g1
 .have a1:k<c.bL.length:=Aw
  obtain⟨a,rfl⟩:=aY.addr;obtain⟨bK,bY,gI,dP,rj⟩:=aY.at k a1;obtain⟨_,_,rfl,_⟩:=dP.form;obtain⟨_,_,rfl,_⟩:=rj.form;rw[YG a1] at aP;refine aa ?_
  try (refine Z_ (gI.ext ai) rfl ?_;refine aa ?_)
  intro aM bV eX ag a8;refine aa ?_;refine J_ (Uz c.bL[k] _ _ aM) ?_;rintro _ aR ⟨rfl,aq⟩;refine aa ?_;refine N_ (λg2=>?_) (λg2=>?_)
  .refine aa ?_;intro bg ar;refine aa ?_;rw[aP,if_pos g2];exact cc
  refine aa ?_;rw[if_neg (by simp[g2])] at aP;exact⟨a1,aJ,(),by trivial,fU,aP⟩
 .refine aa ?_;rw[aP,AE9 Aw];exact cc
def aiC(c:dG)(eY va:B_)(p:dv)(qu se:B_)(cs:C_ B_)(s:o.Scope)(w:A_)(aS:gQ w)(aw:jV c.name)(aG:eW w eY c.guard)(aY:lP w va c.bL)
  (aH:h8 w qu p.vars)(an:su w se p.c4)(h:gk w cs s) :
  Ei F.bo #[.agg (c.enc eY va).toArray,.agg (p.enc qu se).toArray,.agg cs.toArray] w λv w' =>
   v = .tuple #[.I (j7 c p.cn s).1,.I (j7 c p.cn s).2]/\Ext w w':=by
 obtain⟨a0,bz,db,c1,a2,c2,a3,bw,a4,bD,rfl,_⟩:=h.form;obtain⟨aN,cap,rfl,hlen⟩:=aY.form;obtain⟨fE,ahW,rfl,anv⟩:=aG.form;obtain⟨_,_,rfl,_⟩:=aH.form;obtain⟨_,_,rfl,_⟩:=an.form;refine bk E.bo ?_;refine aa ?_;intro w1 bx cN af al;refine aa ?_;intro az bP c8 ai ao;refine aa ?_;intro aM bV eX ag a8;have he:=(af.trans ai).trans ag;have al:=(ai.trans ag).obj al;have ao:=ag.obj ao;refine aa ?_;refine J_ (amY c _ _ p _ _ aM (aS.ext he) aw (aY.ext he)) ?_;rintro _ aR ⟨rfl,aq⟩;have al:=aq.obj al;have a8:=aq.obj a8;have q5:=he.trans aq;rw[j7];refine aa ?_;apply I_<;>intro g1;rotate_left
 .refine aa ?_;exact⟨by simp[g1],fU⟩
 rw[if_neg (by simpa using g1)];have bJ:=(amX g1).2.2.2.2.2;refine dV ?_;refine R_ [3,4,5] (λ_=>[]) (λ(_:Unit) w'=>Ext aR w'/\¬(c.guard.length > 0/\o.asked c.guard 1 s≠0)) ?_ ?_
 .refine aa ?_;apply I_<;>intro g2
  .refine aa ?_;refine J_ (O8 _ c.guard 1 _ s aR (aG.ext q5) (h.ext q5)) ?_;rintro _ bg ⟨rfl,ar⟩;refine aa ?_;apply I_<;>intro g3
   .refine aa ?_;exact⟨(),trivial,fU,λcI=>cI.2 g3⟩
   .refine aa ?_;rw[if_pos ⟨Aw,g3⟩];exact cc
  .refine aa ?_;exact⟨(),trivial,fU,λcI=>g2 Aw⟩
 rintro _ S bg ⟨ar,uc⟩;have al:=ar.obj al;have a8:=ar.obj a8;have Kq:=q5.trans ar;rw[if_neg uc];refine aa ?_;refine L_ 34 c.bL.length [3,4,5,32,33] (λb=>[(10,.bool b)]) false (λk b w'=>Ext bg w'/\lv s c.bL 0 false=lv s (c.bL.drop k) k b) a6 a6 ⟨Ext.refl _,CC⟩ ?_;rintro k b S bp hk ⟨aC,aP⟩;have xf:=Kq.trans aC;refine aa ?_;apply I_<;>intro g1
 .have a1:k<c.bL.length:=Aw
  obtain⟨a,rfl⟩:=aY.addr;obtain⟨bK,bY,gI,dP,rj⟩:=aY.at k a1;obtain⟨_,_,rfl,_⟩:=dP.form;obtain⟨_,_,rfl,_⟩:=rj.form;rw[O2 a1] at aP;refine aa ?_;intro bH ia hi bc b3;refine dV ?_;intro cB ji cF;have xh:=ji.ext bc hi;have Ks:=xf.trans xh;have a8:=(aC.trans xh).obj a8;refine dV ?_;refine R_ [3,5,10,11,12,32,33,34] (λ_=>[]) (λ(_:Unit) w'=>Ext cB w'/\¬(hF c.bL[k]&&b)=true) ?_ ?_
  .refine aa ?_;refine J_ (Uz c.bL[k] _ _ cB) ?_;rintro _ cD ⟨rfl,b0⟩;refine aa ?_;refine N_ (λg2=>?_) (λg2=>?_)
   .refine aa ?_;refine N_ (λg3=>?_) (λg3=>?_)
    .refine aa ?_;rw[aP,if_pos (by simp[g2,g3])];exact cc
    .refine aa ?_;exact⟨(),trivial,fU,by simp[g3]⟩
   .refine aa ?_;exact⟨(),trivial,fU,by simp[g2]⟩
  rintro _ S cD ⟨b0,g2⟩;rw[if_neg g2] at aP;have cF:=b0.obj cF;have a8:=b0.obj a8;refine dV ?_;refine R_ [3,5,11,12,32,33,34] (λu=>[(10,.bool u)]) (λu w'=>Ext cD w'/\u=(b||hF c.bL[k])) ?_ ?_
  .refine aa ?_;refine N_ (λg3=>?_) (λg3=>?_)
   .refine aa ?_;exact⟨true,a6,fU,by simp[g3]⟩
   .refine aa ?_;refine J_ (Uz c.bL[k] _ _ cD) ?_;rintro _ et ⟨rfl,cd⟩;refine aa ?_;exact⟨hF c.bL[k],a6,fU,by simp[g3]⟩
  rintro _ S et ⟨cd,rfl⟩;have cF:=cd.obj cF;have a8:=cd.obj a8;have Rg:=(Ks.trans b0).trans cd;have awJ:=((aC.trans xh).trans b0).trans cd;refine aa ?_;refine J_ (agV c.bL[k] _ _ _ s et (dP.ext Rg) (rj.ext Rg) (h.ext Rg)) ?_;rintro _ ft ⟨rfl,ef⟩;refine aa ?_;apply I_<;>intro g3
  .refine aa ?_;rw[if_neg (by simpa using g3)] at aP;exact⟨a1,aJ,_,a6,fU,aP⟩
  .refine aa ?_;rw[aP,if_pos g3];exact cc
 .refine aa ?_;rw[aP,AE9 Aw];exact cc
def au1(c:dG)(eY va dQ:B_)(l:C_ ea)(w:A_)(aY:lP w va c.bL)(aE:nv w dQ l) :
  Ei F.vb #[.agg (c.enc eY va).toArray,dQ] w λv w'=>v = .I (o.ways c l)/\Ext w w':=by
 obtain⟨aN,cap,rfl,hlen⟩:=aE.form;obtain⟨aqz,Ar,rfl,GD⟩:=aY.form;refine bk E.vb ?_;refine aa ?_;intro w1 bx cN af al;refine aa ?_;refine J_ (YH c eY _ w1 (aY.ext af)) ?_;rintro _ az ⟨rfl,ai⟩;rw[o.ways];refine aa ?_;apply I_<;>intro g1;rotate_left
 .refine aa ?_;exact⟨by simp[g1],fU⟩
 rw[if_pos g1];refine aa ?_;apply I_<;>intro g2;rotate_left
 .refine aa ?_;rw[hc (.inl Aw)];exact cc
 refine aa ?_;apply I_<;>intro g3;rotate_left
 .refine aa ?_;rw[hc (.inr Aw)];exact cc
 rw[iP Aw Aw];obtain⟨a,rfl⟩:=aE.addr;have U:(o.comm c.bL).2.toNat<l.length:=Aw
 refine aa ?_;refine K_ (o.comm c.bL).2.toNat Aw U ?_;refine aa ?_;refine N_ (λg4=>?_) (λg4=>?_)
 .refine aa ?_;exact⟨by simp[g4],fU⟩
 .refine aa ?_;exact⟨by simp[g4],fU⟩
end Go.Proofs.R
namespace o
def adh{s:Scope}{l:C_ Var}{k:Nat}(h:k<l.length):rn s (l.drop k) k=if l[k].over≠0 then ((k:Int),9) else if s.vars.any (λx=>decide (x.name=l[k].name)) then ((k:Int),7) else rn s (l.drop (k+1)) (k+1):=by
 rw[AF0 h];rfl
def YE{own:Scope}{cn:Int}{all l:C_ dG}{k:Nat}(h:k<l.length):mq own cn all (l.drop k) k=if (j7 l[k] cn own).2≠0 then (2+(k:Int),(j7 l[k] cn own).1,(j7 l[k] cn own).2)
  else if (all.take k).any (λx=>decide (x.name=l[k].name)) then (2+(k:Int),0,7) else mq own cn all (l.drop (k+1)) (k+1):=by
 rw[AF0 h];rfl
end o
namespace Go.Proofs.R
open Go Go.RowKit ba o
def au4(p:dv)(bW b1:H_ Addr)(pg bw bD:Nat)(cs:C_ B_)(s:o.Scope)(w:A_)(aS:gQ w)(aw:jV p.name)(h:gk w cs s) :
  Ei F.bG #[.agg (p.enc (.slice bW pg bw) (.slice b1 p.c4.length bD)).toArray,.agg cs.toArray] w λv w'=>v = .I (o.whole p s)/\Ext w w':=by
 obtain⟨a0,bz,db,c1,a2,c2,a3,d3,a4,d4,rfl,ad,h1,J,ab,aF,eB,dD,dO,dU,eg⟩:=h.form;refine bk E.bG ?_;refine aa ?_;intro w1 bx cN af al;refine aa ?_;intro az bP c8 ai ao;have df:∀{w'},Ext az w'->Ext w w':=λe=>(af.trans ai).trans e;have al:=ai.obj al;refine aa ?_;refine J_ (MU p.name az (aS.ext (df (Ext.refl _))) aw) ?_;rintro _ aM ⟨rfl,ag⟩;have al:=ag.obj al;have ao:=ag.obj ao;rw[o.whole];refine aa ?_;refine N_ (λg1=>?_) (λg1=>?_);rotate_left
 .refine aa ?_;exact⟨by rw[if_pos g1],df ag⟩
 rw[if_neg (by simp[g1])];refine aa ?_;apply I_<;>intro g2
 .refine aa ?_;exact⟨by rw[if_pos (.inl g2)],df ag⟩
 refine aa ?_;apply I_<;>intro g3
 .refine aa ?_;exact⟨by rw[if_pos (.inr Aw)],df ag⟩
 rw[if_neg Aw];refine aa ?_;apply I_<;>intro g4
 .refine aa ?_;exact⟨by rw[if_pos (.inl g4)],df ag⟩
 refine aa ?_;apply I_<;>intro g5
 .refine aa ?_;exact⟨by rw[if_pos (.inr Aw)],df ag⟩
 rw[if_neg Aw];refine aa ?_;apply I_<;>intro g6
 .refine aa ?_;exact⟨by rw[if_pos Aw],df ag⟩
 refine aa ?_;exact⟨by rw[if_neg Aw],df ag⟩
def apO(x v:o.Var)(b:Nat)(w:A_)(an:w.heap[b]? = some (.cells v.enc.toArray T.m)) :
  Ei F.Ff #[.agg x.enc.toArray,.pointer (some ⟨b,0,none⟩)] w λu w'=>u = .bool (decide (x.name=v.name))/\Ext w w':=by
 refine bk E.Ff ?_;refine aa ?_;intro w1 bx cN af al;refine aa ?_;exact cc
def aiB(x c:dG)(bN bT bW b1:H_ Addr)(kj jD pg uz c1 c2 bw bD:Nat)(b:Nat)(w:A_)(an:w.heap[b]? = some (.cells (c.enc (.slice bW pg bw) (.slice b1 uz bD)).toArray T.q)) :
  Ei F.hh #[.agg (x.enc (.slice bN kj c1) (.slice bT jD c2)).toArray,.pointer (some ⟨b,0,none⟩)] w λu w'=>u = .bool (decide (x.name=c.name))/\Ext w w':=by
 refine bk E.hh ?_;refine aa ?_;intro w1 bx cN af al;refine aa ?_;exact cc
def apP(p:dv)(bW b1:H_ Addr)(bw uz bD:Nat)(cs:C_ B_)(s:o.Scope)(w:A_)(aS:gQ w)(aH:h8 w (.slice bW p.vars.length bw) p.vars)(h:gk w cs s) :
  Ei F.aD #[.agg (p.enc (.slice bW p.vars.length bw) (.slice b1 uz bD)).toArray,.agg cs.toArray] w λv w'=>v = .tuple #[.I (l9 p s).1,.I (l9 p s).2]/\Ext w w':=by
 obtain⟨a0,bz,db,c1,a2,c2,a3,d3,a4,d4,rfl,ad,h1,J,ab,aF,eB,dD,dO,dU,eg⟩:=h.form;have fa:p.vars.length<=9223372036854775807:=by have:=(bm.len aH).2;unfold maxLen at this;omega
 refine bk E.aD ?_;refine aa ?_;intro w1 bx cN af al;refine aa ?_;intro az bP c8 ai ao;have df:∀{w'},Ext az w'->Ext w w':=λe=>(af.trans ai).trans e;have al:=ai.obj al;refine aa ?_;refine J_ (afQ _ _ p.vars s.scalars 4 az (aS.ext (df (Ext.refl _))) (aH.ext (df (Ext.refl _))) (ad.ext (df (Ext.refl _)))) ?_;rintro _ aM ⟨rfl,ag⟩;have al:=ag.obj al;have ao:=ag.obj ao;rw[l9];refine aa ?_;apply I_<;>intro g1;rotate_left
 .refine aa ?_;exact⟨by rw[if_pos g1],df ag⟩
 rw[if_neg (by simpa using g1)];have fw:∀{w'},Ext aM w'->Ext w w':=λe=>df (ag.trans e);refine aa ?_;refine L_ 25 p.vars.length [3,23,24] (λ_=>[]) () (λk _ w'=>Ext aM w'/\rn s p.vars 0=rn s (p.vars.drop k) k) a6 a6 ⟨Ext.refl _,CC⟩ ?_;rintro k _ S aR hk ⟨aq,aP⟩;refine aa ?_;apply I_<;>intro g2
 .have a1:k<p.vars.length:=Aw
  obtain⟨a,rfl⟩:=aH.addr;replace aH:=aH.ext (fw (Ext.refl _));rw[adh a1] at aP;refine aa ?_;intro Ex b9 lZ oj qj;refine aa ?_;intro bg e3 bI;have ar:=e3.ext oj lZ;refine aa ?_;apply I_<;>intro g3;rotate_left
  .refine aa ?_;exact⟨by rw[aP,if_pos g3],fw (aq.trans ar)⟩
  rw[if_neg (by simpa using g3)] at aP;refine aa ?_;refine J_ (YP l3 E.he E.ak _ s.vars bg (h1.ext (fw (aq.trans ar))) F.Ff Cx [] [_] (λx=>decide (x.name=p.vars[k].name)) ?_) ?_
  .rintro i U js w' e ⟨rfl,_⟩;exact apO _ _ b9 w' (e.obj bI)
  rintro _ bp ⟨rfl,aC⟩;refine aa ?_;refine N_ (λg4=>?_) (λg4=>?_)
  .refine aa ?_;exact⟨by rw[aP,if_pos g4],fw ((aq.trans ar).trans aC)⟩
  .refine aa ?_;exact⟨a1,aJ,(),trivial,(aq.trans ar).trans aC,by rw[aP,if_neg (by simp[g4])]⟩
 .refine aa ?_;exact⟨by rw[aP,AE9 Aw];rfl,fw aq⟩
def aru(p:dv)(Hv cs:C_ B_)(s:o.Scope)(w:A_)(aS:gQ w)(au:yq w Hv p)(h:gk w cs s)(aG:s.cr)(pP:p.cr) :
  Ei F.Jn #[.agg Hv.toArray,.agg cs.toArray] w λv w'=>v = .tuple #[.I (ij p s).1,.I (ij p s).2.1,.I (ij p s).2.2]/\Ext w w':=by
 obtain⟨a0,bz,db,c1,a2,c2,a3,d3,a4,d4,rfl,ad,h1,J,ab,aF,eB,dD,dO,dU,eg⟩:=h.form;obtain⟨aw,qu,se,rfl,aH,oi⟩:=au;obtain⟨bW,bw,rfl,fa⟩:=aH.form;obtain⟨b1,bD,rfl,lc⟩:=oi.form;have pL:p.c4.length<=140737488351232:=by have:=pP.c4;unfold ev at this;omega
 refine bk E.Jn ?_;refine aa ?_;intro w1 bx cN af al;refine aa ?_;intro az bP c8 ai ao;have df:∀{w'},Ext az w'->Ext w w':=λe=>(af.trans ai).trans e;replace al:=ai.obj al;refine aa ?_;refine J_ (au4 p _ _ _ _ _ _ s az (aS.ext (df (Ext.refl _))) aw (h.ext (df (Ext.refl _)))) ?_;rintro _ aM ⟨rfl,ag⟩;replace al:=ag.obj al;replace ao:=ag.obj ao;have fw:∀{w'},Ext aM w'->Ext w w':=λe=>df (ag.trans e);rw[ij];refine aa ?_;apply I_<;>intro g1;rotate_left
 .refine aa ?_;exact⟨by rw[if_pos g1],fw (Ext.refl _)⟩
 rw[if_neg (by simpa using g1)];refine aa ?_;refine J_ (apP p _ _ _ _ _ _ s aM (aS.ext (fw (Ext.refl _))) (aH.ext (fw (Ext.refl _))) (h.ext (fw (Ext.refl _)))) ?_;rintro _ aR ⟨rfl,aq⟩;replace al:=aq.obj al;replace ao:=aq.obj ao;have dX:∀{w'},Ext aR w'->Ext w w':=λe=>fw (aq.trans e);refine aa ?_;apply I_<;>intro g2;rotate_left
 .refine aa ?_;exact⟨by rw[if_pos g2],dX (Ext.refl _)⟩
 rw[if_neg (by simpa using g2)];refine aa ?_;refine J_ (ack p _ _ _ _ _ _ _ _ _ _ _ _ _ _ _ _ _ _ _ _ _ _ aR) ?_;rintro _ bg ⟨rfl,ar⟩;replace al:=ar.obj al;have hq:∀{w'},Ext bg w'->Ext w w':=λe=>dX (ar.trans e);refine aa ?_;intro bp pF sR aC bS;replace al:=aC.obj al;have hg:∀{w'},Ext bp w'->Ext w w':=λe=>hq (aC.trans e);have eh:∀w',Ext w w'->gk w' [.slice a0 s.scalars.length bz,.slice db s.vars.length c1,.slice a2 s.aA.length c2,.slice a3 s.procs.length d3,.slice bW p.vars.length bw,.I p.over] (o.inner p s):=λw' e =>
  ⟨(aG.inner pP).sh.1,_,_,_,_,_,rfl,ad.ext e,h1.ext e,J.ext e,ab.ext e,aH.ext e,(aG.inner pP).sh.2⟩
 refine aa ?_;refine L_ 37 p.c4.length [2,10,35,36] (λ_=>[]) () (λk _ w'=>Ext bp w'/\mq (o.inner p s) p.cn p.c4 p.c4 0=mq (o.inner p s) p.cn p.c4 (p.c4.drop k) k) a6 a6 ⟨Ext.refl _,CC⟩ ?_;rintro k _ S bH hk ⟨bc,aP⟩;replace al:=bc.obj al;replace bS:=bc.obj bS;refine aa ?_;apply I_<;>intro g3
 .have a1:k<p.c4.length:=Aw
  obtain⟨a,rfl⟩:=oi.addr;obtain⟨aj,eY,va,e0,zm,xu⟩:=oi.at k a1;obtain⟨fE,fN,rfl,apG⟩:=zm.form;obtain⟨aN,fh,rfl,qp⟩:=xu.form;rw[YE a1] at aP;replace e0:=e0.ext (hg (Ext.refl _));refine aa ?_;intro Ex Cy tT oj qj;refine aa ?_;intro cB ji cF;have bt:=ji.ext oj tT;replace al:=bt.obj al;replace bS:=bt.obj bS;have hR:∀{w'},Ext cB w'->Ext w w':=λe=>hg ((bc.trans bt).trans e);clear qj oj;refine aa ?_;refine J_ (aiC p.c4[k] _ _ p _ _ _ (o.inner p s) cB (aS.ext (hR (Ext.refl _))) aj (zm.ext (hR (Ext.refl _))) (xu.ext (hR (Ext.refl _))) (aH.ext (hR (Ext.refl _))) (oi.ext (hR (Ext.refl _))) (eh _ (hR (Ext.refl _)))) ?_;rintro _ cD ⟨rfl,b0⟩;replace al:=b0.obj al;replace cF:=b0.obj cF;have fA:∀{w'},Ext cD w'->Ext w w':=λe=>hR (b0.trans e);refine aa ?_;apply I_<;>intro g4;rotate_left
  .refine aa ?_;exact⟨by rw[aP,if_pos g4],fA (Ext.refl _)⟩
  rw[if_neg (by simpa using g4)] at aP;have hT:=(bm.len oi).2.1;refine aa ?_;refine _i (k:=.i64) k (by rfl) Aw ?_;refine aa ?_;refine J_ (YP l3 E.bb E.g7 _ (p.c4.take k) cD ((oi.head k Aw).ext Aa.ext (fA (Ext.refl _))) F.hh Cx [] [_] (λx=>decide (x.name=p.c4[k].name)) ?_) ?_
  .rintro i U js w' e ⟨_,ayB,pt,rfl,aoE,SB⟩;obtain⟨_,_,rfl,_⟩:=aoE.form;obtain⟨_,_,rfl,_⟩:=SB.form;exact aiB _ _ _ _ _ _ _ _ _ _ _ _ _ _ Cy w' (e.obj cF)
  rintro _ et ⟨rfl,cd⟩;refine aa ?_;refine N_ (λg5=>?_) (λg5=>?_)
  .refine aa ?_;exact⟨by rw[aP,if_pos g5],fA cd⟩
  .refine aa ?_;exact⟨a1,aJ,(),trivial,((bc.trans bt).trans b0).trans cd,by rw[aP,if_neg (by simp[g5])]⟩
 .refine aa ?_;exact⟨by rw[aP,AE9 Aw];rfl,hg bc⟩
end Go.Proofs.R
namespace ba
open Go Go.RowKit
def bm.Pe{α:Type}{R:A_->Addr->α->Prop}{C:A_->C_ B_->α->Prop}{sz:Nat}[Rel R C sz]{w:A_}{b n:Nat}{e:F_}{cells:C_ B_}{xs:C_ α}(cb:C_ (fv sz))(ak:w.heap[b]? = some (.cells cells.toArray e))(amC:cells=cb.flatMap lA)
  (aE:cb.length=xs.length)(aw:n=xs.length)(hm:xs.length<=maxLen)(an:∀i (h1:i<cb.length) (J:i<xs.length),C w cb[i].1 xs[i]):bm sz R w (.slice (some ⟨b,0,none⟩) n n) xs:=by
 subst amC;exact bm.D1 aE (bm.cy (enc:=lA) k8 ak Aw Aw λ_ _ _ h=>h) an
end ba
namespace o
open Go
def pS{n:Int}(h : -1000<=n/\n<=1000):dZ n:=by unfold dZ;omega
theorem Ep(a b:Int)(s:Scope):(me a b s).2=((hP a s).2&&(hP b s).2)/\((me a b s).2=true->(me a b s).1=(if a=0 then 0 else 1+a)):=by
 unfold me hP;constructor
 ·(repeat' split)<;>first | rfl | (exfalso;omega)
 .intro h
  (repeat' split)<;>first | rfl | (exfalso;omega) | simp_all
theorem YU{l:C_ Var}{n:Int}{s:Scope}(h:(gB l n s).2.2=false):declared l n s=none:=by
 unfold declared;unfold gB at h;cases aw:nth l n with
 | none=>rfl
 | some v =>
  rw[aw] at h;simp only at h ⊢;rw[if_neg];rw[(Ep _ _ _).1,h];simp
def YW{l:C_ Var}{n:Int}{s:Scope}{x:Var}(h:(gB l n s).2.2=true)(ah:nth l n=some x):declared l n s=some (x,if x.scalar=0 then 0 else 1+x.scalar)/\0<=x.scalar/\x.scalar<=s.scalars.length/\0<=x.over/\x.over<=s.scalars.length:=by
 unfold gB at h;rw[ah] at h;simp only at h;have aB:(me x.scalar x.over s).2=true:=by rw[(Ep _ _ _).1];exact h
 refine⟨?_,?_⟩
 .unfold declared;rw[ah];simp only;rw[if_pos aB,(Ep _ _ _).2 aB]
 .unfold me at aB;split at aB
  .cases aB
  .omega
theorem aiq{n:Int}{s:Scope}(h:¬(kX n s).2=0):channel n s=none:=by
 unfold channel;unfold kX at h;cases aw:nth s.aA n with
 | none=>rfl
 | some c =>
  rw[aw] at h;simp only at h ⊢;rw[if_neg];intro aB;rw[(Ep _ _ _).1] at aB;simp only[Bool.and_eq_true] at aB;rw[if_pos aB.1] at h;exact h rfl
def ais{n:Int}{s:Scope}{c:ea}(h:(kX n s).2=0)(ah:nth s.aA n=some c):channel n s=some (if c.scalar=0 then 0 else 1+c.scalar)/\0<=c.scalar/\c.scalar<=s.scalars.length:=by
 unfold kX at h;rw[ah] at h;simp only at h;have h1:(hP c.scalar s).2=true:=by
  cases hk:(hP c.scalar s).2 with
  | true=>rfl
  | false=>rw[hk] at h;simp at h
 have aB:(me c.scalar 0 s).2=true:=by rw[(Ep _ _ _).1,h1];simp[hP]
 refine⟨?_,?_⟩
 .unfold channel;rw[ah];simp only;rw[if_pos aB,(Ep _ _ _).2 aB]
 .unfold me at aB;split at aB
  .cases aB
  .omega
def l8(l:C_ Var)(n:Int)(s:Scope):Int×Int:=match declared l n s with | none=>(0,8) | some (v,k)=>if v.over≠0 then (0,9) else (k,0)
def Bu(a:Act)(s:Scope):Int:=match declared s.vars a.to s with | none=>8 | some (v,k)=>if v.over=0 then 9 else if asked a.index (1+v.over) s≠0 then asked a.index (1+v.over) s else asked a.value k s
def ma(a:Act)(s:Scope)(comm:Bool):Int :=
 if a.kind<1\/5<a.kind then 3
 else if a.kind=2 then Bu a s
 else if a.kind=1\/a.kind=3 then (if (l8 (if a.kind=3 then s.locals else s.vars) a.to s).2≠0 then (l8 (if a.kind=3 then s.locals else s.vars) a.to s).2 else asked a.value (l8 (if a.kind=3 then s.locals else s.vars) a.to s).1 s)
 else if comm=true then 7
 else match channel a.to s with
  | none=>8
  | some k=>if a.kind=4 then asked a.value k s else if (l8 s.locals a.loc s).2≠0 then (l8 s.locals a.loc s).2 else if (l8 s.locals a.loc s).1≠k then 9 else 0
def asj(a:Act)(s:Scope)(comm:Bool):ma a s comm=if hF a&&comm then 7 else k5 a s:=by
 by_cases ad:a.kind<1\/5<a.kind
 .have aB:hF a=false:=by unfold hF;rw[decide_eq_false_iff_not];omega
  unfold ma k5;rw[if_pos ad,aB,if_neg (by omega:¬(a.kind=1\/a.kind=2\/a.kind=3)),if_neg (by omega:¬(a.kind=4\/a.kind=5))];simp
 by_cases J:a.kind=2
 .have aB:hF a=false:=by unfold hF;rw[decide_eq_false_iff_not];omega
  unfold ma k5;rw[if_neg ad,if_pos J,aB,if_pos (by omega:a.kind=1\/a.kind=2\/a.kind=3)];simp only[Bool.false_and,Bool.false_eq_true,if_false];rw[if_neg (by omega:¬a.kind=3)];unfold Bu;cases bb:declared s.vars a.to s with
  | none=>rfl
  | some q =>
   obtain⟨v,k⟩:=q;simp only[J,true_and];by_cases aH:v.over=0
   .simp[aH]
   .simp[aH]
 by_cases h1:a.kind=1\/a.kind=3
 .have aB:hF a=false:=by unfold hF;rw[decide_eq_false_iff_not];omega
  unfold ma k5;rw[if_neg ad,if_neg J,if_pos h1,aB,if_pos (by omega:a.kind=1\/a.kind=2\/a.kind=3)];simp only[Bool.false_and,Bool.false_eq_true,if_false];unfold l8;cases bb:declared (if a.kind=3 then s.locals else s.vars) a.to s with
  | none=>simp
  | some q =>
   obtain⟨v,k⟩:=q;simp only[J,false_and,if_false];by_cases aH:v.over=0
   .simp[aH]
   .simp[aH]
 .have ala:a.kind=4\/a.kind=5:=Aw
  have aB:hF a=true:=by unfold hF;rw[decide_eq_true_eq];omega
  unfold ma k5;rw[if_neg ad,if_neg J,if_neg h1,aB,if_neg (by omega:¬(a.kind=1\/a.kind=2\/a.kind=3)),if_pos ala];simp only[Bool.true_and];cases comm with
  | true=>simp
  | false =>
   simp only[Bool.false_eq_true,if_false];cases an:channel a.to s with
   | none=>rfl
   | some k =>
    simp only;by_cases aF:a.kind=4
    .rw[if_pos aF,if_neg (by omega:¬a.kind=5)]
    .rw[if_neg aF,if_pos (by omega:a.kind=5)];unfold l8 HH;cases bb:declared s.locals a.loc s with
     | none=>simp
     | some q =>
      obtain⟨v,k'⟩:=q;simp only;by_cases aH:v.over=0
      .simp[aH]
      .simp[aH]
end o
namespace Go.Proofs.R
open Go Go.RowKit ba
def afA(op:Int)(w:A_):Ei F.Ls #[.I op] w λv w'=>v = .I (o.fR op)/\w'=w:=by
 have key:∀n:Int,(if op=3 then (1:Int) else if 1<=op/\op<=8 then 0 else if op=9\/op=10 then 1 else if 11<=op/\op<=19 then 2 else -1)=n->o.fR op=n:=λ_ h=>h;refine bk E.Ls ?_
 (repeat' (refine aI ?_;first | (refine I_ (λ_=>?_) (λ_=>?_)<;>try (exfalso;omega)) | refine N_ (λ_=>?_) (λ_=>?_)))<;>try refine aI ?_
 all_goals
  refine⟨?_,aJ⟩;congr 1;refine(key _ ?_).symm
  (repeat' split)<;>first | rfl | (exfalso;omega)
def MZ{x:Int}(h:o.fR x=0):1<=x/\x<=8/\x≠3/\o.hp x=none:=by
 have h1:1<=x/\x<=8/\x≠3:=by unfold o.fR at h; (repeat' split at h)<;>omega
 exact⟨h1.1,h1.2.1,h1.2.2,o.Tr (by simp[o.zt];omega)⟩
def adF{x:Int}(h:o.fR x=1):x=3\/x=9\/x=10:=by unfold o.fR at h; (repeat' split at h)<;>omega
def M0{x:Int}(h:o.fR x=2):11<=x/\x<=19:=by unfold o.fR at h; (repeat' split at h)<;>omega
theorem adM{x:Int}(h:9<=x/\x<=19):∃ae,o.hp x=some ae/\ae.parts=o.fR x:=by
 cases aS:o.hp x with
 | some ae=>exact⟨ae,rfl,(o.Hu aS).1⟩
 | none =>
  exfalso;unfold o.hp at aS
  (repeat' split at aS)
  all_goals first | (cases aS;done) | omega
theorem PM{st:C_ Int}(h:1<=st.length):st.drop (st.length - 1)=[st[st.length - 1]]:=by
 rw[AF0 Aw,AE9 Aw]
theorem YY{st:C_ Int}(h:2<=st.length):st.drop (st.length - 2)=[st[st.length - 2],st[st.length - 1]]:=by
 rw[AF0 Aw];have e:st.length - 2+1=st.length - 1:=Aw
 congr 1;rw[e];exact PM Aw
def Jz:∀y,∀u∈encI y,u.oneCell'=true:=λy u h=>by simp[encI] at h;subst h;rfl
def Ua(n:Int)(cs:C_ B_)(s:o.Scope)(w:A_)(h:o.gk w cs s) :
  Ei F.LA #[.I n,.agg cs.toArray] w λv w'=>v = .bool (o.hP n s).2/\Ext w w':=by
 obtain⟨a0,bz,db,c1,a2,c2,a3,bw,a4,bD,rfl,ad,h1,J,ab,aF,eB,dD,dO,dU,eg⟩:=h.form;refine bk E.LA ?_;refine aI ?_;refine O_ λw1 b ak af al=>?_
 (repeat' (refine aI ?_;first | (refine I_ (λ_=>?_) (λ_=>?_)<;>try (exfalso;omega)) | refine N_ (λ_=>?_) (λ_=>?_)))<;>try refine aI ?_
 all_goals
  refine⟨?_,fU⟩;congr 1;unfold o.hP
  (repeat' split)<;>first | rfl | (exfalso;omega) | (simp;omega)
def kindOf(n:Int):Int:=if n=0 then 0 else 1+n
def K4(n:Int)(w:A_)(h:0<=n/\n<=4611686018427387904):Ei F.Hg #[.I n] w λv w'=>v = .I (kindOf n)/\w'=w:=by
 refine bk E.Hg ?_
 (repeat' (refine aI ?_;first | (refine I_ (λ_=>?_) (λ_=>?_)<;>try (exfalso;omega)) | refine N_ (λ_=>?_) (λ_=>?_)))<;>try refine aI ?_
 all_goals
  refine⟨?_,aJ⟩;congr 1;unfold kindOf;split<;>first | rfl | (exfalso;omega)
def acT{n:Int}{s:o.Scope}(h:(o.hP n s).2=true):0<=n/\n<=s.scalars.length/\(o.hP n s).1=kindOf n:=by
 unfold o.hP kindOf at *
 (repeat' split at h) <;> (repeat' split)<;>first | (cases h;done) | (refine⟨Aw,Aw,?_⟩;first | rfl | omega) | (exfalso;omega)
def HK(v:B_)(l:C_ o.Var)(n:Int)(cs:C_ B_)(s:o.Scope)(w:A_)(aE:o.h8 w v l)(h:o.gk w cs s) :
  Ei F.Lu #[v,.I n,.agg cs.toArray] w λv w' =>
   (∃x:o.Var,v = .tuple #[.agg x.enc.toArray,.bool (o.gB l n s).2.2]/\((o.gB l n s).2.2=true->o.nth l n=some x))/\Ext w w':=by
 obtain⟨a0,bz,db,c1,a2,c2,a3,bw,a4,bD,rfl,_⟩:=h.form;obtain⟨aN,cap,rfl,hlen⟩:=aE.form;refine bk E.Lu ?_;refine aI ?_;refine O_ λw1 b ak af al=>?_;refine aI ?_;refine O_ λaz bP c8 ai ao=>?_;have he:=af.trans ai;have eo:=ai.obj al;refine aI ?_;refine I_ (λg1=>have hk:(o.gB l n s).2.2=false:=(by rw[o.gB,o.hc (.inl g1)]); ?_) (λg1=>?_);rotate_left;refine aI ?_;refine I_ (λg2=>have hk:(o.gB l n s).2.2=false:=(by rw[o.gB,o.hc (.inr Aw)]); ?_) (λg2=>?_);rotate_left;obtain⟨i,rfl⟩:=Nb (show 0<=n by omega);have U:i<l.length:=Aw
 have aw:o.nth l (i:Int)=some l[i]:=by rw[o.iP Aw Aw];simp only[Int.toNat_natCast]
 obtain⟨a,rfl⟩:=aE.addr;refine aI ?_;refine T_ (c:=[_,_,_,_,_,_]) eo (Ext.refl _) rfl ?_;refine aI ?_;refine P_ _ (λw' e=>Ua _ _ s w' (h.ext (he.trans e))) ?_;refine aI ?_;refine N_ (λg3=>?_) (λg3=>have hk:(o.gB l i s).2.2=false:=(by rw[o.gB,aw];simp only[g3,Bool.false_and]); ?_);refine aI ?_;refine T_ (c:=[_,_,_,_,_,_]) eo (Ext.refl _) rfl ?_;refine aI ?_;refine P_ _ (λw' e=>Ua _ _ s w' (h.ext (he.trans e))) ?_;refine aI ?_;cases g4:(o.hP l[i].over s).2
 case' false=>have hk:(o.gB l i s).2.2=false:=by rw[o.gB,aw];simp only[g4,Bool.and_false]
 case true =>
  have hk:(o.gB l i s).2.2=true:=by rw[o.gB,aw];simp only[g3,g4,Bool.and_true]
  refine aI ?_;intro aM ag;refine aI ?_;refine U_ (cs:=l[i].enc.toArray) (ag.obj ao) rfl rfl (by simp[o.Var.enc,Value.oneCell']) λaR dT bn=>?_;refine aI ?_;refine T_ (c:=o.Var.enc _) bn (Ext.refl _) rfl ?_;refine aI ?_;exact⟨⟨_,by rw[hk],λ_=>aw⟩,dT.ext (he.trans ag) (by have:=af.size;omega)⟩
 all_goals
  refine aI ?_;intro aM ag;refine aI ?_;refine X_ (cs:=(⟨⟨#[]⟩,0,0,0,0,0⟩:o.Var).enc) (by simp[gG,o.Var.enc]) ?_;refine aI ?_;refine U_ (cs:=(⟨⟨#[]⟩,0,0,0,0,0⟩:o.Var).enc.toArray) (ag.obj ao) rfl rfl (by simp[o.Var.enc,Value.oneCell']) λaR dT bn=>?_;refine aI ?_;refine T_ (c:=o.Var.enc _) bn (Ext.refl _) rfl ?_;refine aI ?_;exact⟨⟨_,by rw[hk],by rw[hk];intro h;cases h⟩,dT.ext (he.trans ag) (by have:=af.size;omega)⟩
def aeo(n:Int)(cs:C_ B_)(s:o.Scope)(w:A_)(h:o.gk w cs s) :
  Ei F.Lp #[.I n,.agg cs.toArray] w λv w' =>
   (∃x:o.ea,v = .tuple #[.agg x.enc.toArray,.bool (decide ((o.kX n s).2=0))]/\((o.kX n s).2=0->o.nth s.aA n=some x))/\Ext w w':=by
 obtain⟨a0,bz,db,c1,a2,c2,a3,bw,a4,bD,rfl,ad,h1,J,ab,aF,eB,dD,dO,dU,eg⟩:=h.form;refine bk E.Lp ?_;refine aI ?_;refine O_ λw1 b ak af al=>?_;refine aI ?_;refine O_ λaz bP c8 ai ao=>?_;have he:=af.trans ai;have eo:=ai.obj al;refine aI ?_;refine I_ (λg1=>have hk:(o.kX n s).2=8:=(by rw[o.kX,o.hc (.inl g1)]); ?_) (λg1=>?_);rotate_left;refine aI ?_;refine I_ (λg2=>have hk:(o.kX n s).2=8:=(by rw[o.kX,o.hc (.inr Aw)]); ?_) (λg2=>?_);rotate_left;obtain⟨i,rfl⟩:=Nb (show 0<=n by omega);have U:i<s.aA.length:=Aw
 have aw:o.nth s.aA (i:Int)=some s.aA[i]:=by rw[o.iP Aw Aw];simp only[Int.toNat_natCast]
 obtain⟨a,rfl⟩:=J.addr;refine aI ?_;refine T_ (c:=[_,_,_,_,_,_]) eo (Ext.refl _) rfl ?_;refine aI ?_;refine P_ _ (λw' e=>Ua _ _ s w' (h.ext (he.trans e))) ?_;refine aI ?_;cases g4:(o.hP s.aA[i].scalar s).2
 case' false=>have hk:(o.kX i s).2=8:=by rw[o.kX,aw];simp only[g4,Bool.false_eq_true,if_false]
 case true =>
  have hk:(o.kX i s).2=0:=by rw[o.kX,aw];simp only[g4,if_true]
  refine aI ?_;intro aM ag;refine aI ?_;refine U_ (cs:=s.aA[i].enc.toArray) (ag.obj ao) rfl rfl (by simp[o.ea.enc,Value.oneCell']) λaR dT bn=>?_;refine aI ?_;refine T_ (c:=o.ea.enc _) bn (Ext.refl _) rfl ?_;refine aI ?_;exact⟨⟨_,by rw[hk];rfl,λ_=>aw⟩,dT.ext (he.trans ag) (by have:=af.size;omega)⟩
 all_goals
  refine aI ?_;intro aM ag;refine aI ?_;refine X_ (cs:=(⟨⟨#[]⟩,0,0,0,0,false⟩:o.ea).enc) (by simp[gG,o.ea.enc]) ?_;refine aI ?_;refine U_ (cs:=(⟨⟨#[]⟩,0,0,0,0,false⟩:o.ea).enc.toArray) (ag.obj ao) rfl rfl (by simp[o.ea.enc,Value.oneCell']) λaR dT bn=>?_;refine aI ?_;refine T_ (c:=o.ea.enc _) bn (Ext.refl _) rfl ?_;refine aI ?_;exact⟨⟨_,by rw[hk];rfl,by rw[hk];intro h;cases h⟩,dT.ext (he.trans ag) (by have:=af.size;omega)⟩
def S0{l:C_ o.Var}{n:Int}{s:o.Scope}{x:o.Var}(h:(o.gB l n s).2.2=true)(ah:o.nth l n=some x) :
  (o.gB l n s).1=kindOf x.scalar/\(o.gB l n s).2.1=kindOf x.over/\0<=x.scalar/\x.scalar<=s.scalars.length/\0<=x.over/\x.over<=s.scalars.length:=by
 unfold o.gB at h ⊢;rw[ah] at h ⊢;simp only[Bool.and_eq_true] at h ⊢;obtain⟨db,a2,a3⟩:=acT h.1;obtain⟨bx,bP,bV⟩:=acT h.2;exact⟨a3,bV,db,a2,bx,bP⟩
def asW(x:o.Node)(cs:C_ B_)(s:o.Scope)(w:A_)(ah:x.ok)(h:o.gk w cs s)(nd:1<=x.op/\x.op<=8)(ab:x.op≠3)(t:Int) :
  Ei F.Ly #[.agg x.enc.toArray,.agg cs.toArray] w λv w'=>v = .tuple #[.I (o.jC x s t).1,.I (o.jC x s t).2]/\Ext w w':=by
 obtain⟨a0,bz,db,c1,a2,c2,a3,bw,a4,bD,rfl,pk,c7,dE,ed,gW,eB,dD,dO,dU,eg⟩:=h.form;refine bk E.Ly ?_;refine aI ?_;refine O_ λw1 bx cN af al=>?_;refine aI ?_;refine O_ λaz bP c8 ai ao=>?_;have he:=af.trans ai;have cM:az.heap[bx]? = some (.cells #[.I x.op,.I x.n] T.e):=ai.obj al;clear al;refine aI ?_;apply I_<;>intro g1
 .have hk:o.jC x s t=if o.within x.n then (0,0) else (0,10):=by rw[o.jC,if_pos g1]
  (repeat' (refine aI ?_;first | (refine I_ (λ_=>?_) (λ_=>?_)<;>try (exfalso;omega)) | refine N_ (λ_=>?_) (λ_=>?_)))<;>try refine aI ?_
  all_goals
   refine⟨?_,fU⟩;rw[hk];unfold o.within;split<;>first | rfl | (rename_i cI;simp at cI;exfalso;omega)
 by_cases aH:x.op=2\/x.op=4
 .have hk:o.jC x s t=(let q:=o.gB (if x.op=4 then s.locals else s.vars) x.n s;if q.2.2=false then (0,8) else if (x.op=3/\(q.2.1=0\/t≠q.2.1))\/(x.op≠3/\q.2.1≠0) then (0,9) else (q.1,0)):=by
   rw[o.jC,if_neg g1,if_pos Aw]
  by_cases g4:x.op=4
  .rw[if_pos g4] at hk;rw[hk];refine aI ?_;refine T_ (c:=[_,_,_,_,_,_]) ao (Ext.refl _) rfl ?_;refine aI ?_;refine J_ (HK _ s.locals x.n _ s az (gW.ext he) (h.ext he)) ?_;rintro _ aM ⟨⟨y,rfl,bF⟩,ag⟩;have c9:(o.gB s.locals x.n s).2.2=true->_:=λg=>S0 g (bF g);clear bF hk;generalize o.gB s.locals x.n s=q at c9 ⊢;obtain⟨zG,BJ,TJ⟩:=q;refine aI ?_;refine _N (vs:=y.enc) (λ_=>by simp -dsimp only[dg,cK,Nat.reduceAdd,Nat.reduceEqDiff,reduceIte,reduceCtorEq,dq]) rfl rfl (by simp[o.Var.enc,Value.oneCell']) λaR cQ fD aq bn=>?_;have hN:aR.heap[cQ]? = some (.cells #[.string y.name,.I y.scalar,.I y.over,.I y.aV,.I y.U,.I y.init] T.m):=bn;clear bn;refine aI ?_;refine N_ (λg5=>?_) (λg5=>?_);rotate_left
   .refine aI ?_;simp only[g5,if_true];exact cc
   obtain⟨fT,z2,z3,z4,z5,tk⟩:=c9 g5;have zd:kindOf y.over=0↔y.over=0:=by unfold kindOf;split<;>omega
   have B4:zG=kindOf y.scalar:=fT;have B5:BJ=kindOf y.over:=z2;refine aI ?_;apply I_<;>intro g6
   .refine aI ?_;refine J_ (K4 y.scalar aR Aw) ?_;rintro _ _ ⟨rfl,rfl⟩;refine aI ?_;simp only[g5,Bool.true_eq_false,if_false,B4,B5];rw[if_neg (by rw[ne_eq,zd];omega)];exact cc
   .refine aI ?_;simp only[g5,Bool.true_eq_false,if_false,B4,B5];rw[if_pos (.inr ⟨ab,by rw[ne_eq,zd];exact g6⟩)];exact cc
  .rw[if_neg g4] at hk;rw[hk];refine aI ?_;refine T_ (c:=[_,_,_,_,_,_]) ao (Ext.refl _) rfl ?_;refine aI ?_;refine J_ (HK _ s.vars x.n _ s az (c7.ext he) (h.ext he)) ?_;rintro _ aM ⟨⟨y,rfl,bF⟩,ag⟩;have c9:(o.gB s.vars x.n s).2.2=true->_:=λg=>S0 g (bF g);clear bF hk;generalize o.gB s.vars x.n s=q at c9 ⊢;obtain⟨zG,BJ,TJ⟩:=q;refine aI ?_;refine _N (vs:=y.enc) (λ_=>by simp -dsimp only[dg,cK,Nat.reduceAdd,Nat.reduceEqDiff,reduceIte,reduceCtorEq,dq]) rfl rfl (by simp[o.Var.enc,Value.oneCell']) λaR cQ fD aq bn=>?_;have hN:aR.heap[cQ]? = some (.cells #[.string y.name,.I y.scalar,.I y.over,.I y.aV,.I y.U,.I y.init] T.m):=bn;clear bn;refine aI ?_;refine N_ (λg5=>?_) (λg5=>?_);rotate_left
   .refine aI ?_;simp only[g5,if_true];exact cc
   obtain⟨fT,z2,z3,z4,z5,tk⟩:=c9 g5;have zd:kindOf y.over=0↔y.over=0:=by unfold kindOf;split<;>omega
   have B4:zG=kindOf y.scalar:=fT;have B5:BJ=kindOf y.over:=z2;refine aI ?_;apply I_<;>intro g6
   .refine aI ?_;refine J_ (K4 y.scalar aR Aw) ?_;rintro _ _ ⟨rfl,rfl⟩;refine aI ?_;simp only[g5,Bool.true_eq_false,if_false,B4,B5];rw[if_neg (by rw[ne_eq,zd];omega)];exact cc
   .refine aI ?_;simp only[g5,Bool.true_eq_false,if_false,B4,B5];rw[if_pos (.inr ⟨ab,by rw[ne_eq,zd];exact g6⟩)];exact cc
 have hk:o.jC x s t=o.nf x s:=by rw[o.jC,if_neg g1,if_neg Aw]
 rw[hk];clear hk;refine aI ?_;apply I_<;>intro g5
 ·(repeat' (refine aI ?_;first | (refine I_ (λ_=>?_) (λ_=>?_)<;>try (exfalso;omega)) | refine N_ (λ_=>?_) (λ_=>?_)))<;>try refine aI ?_
  all_goals
   refine⟨?_,fU⟩;rw[o.nf,if_pos g5];split<;>first | rfl | (exfalso;omega)
 refine aI ?_;apply I_<;>intro g6
 .have hk:o.nf x s=o.kX x.n s:=by rw[o.nf,if_neg g5,if_pos g6]
  rw[hk];have A6:(o.kX x.n s).1=0/\((o.kX x.n s).2=0\/(o.kX x.n s).2=8):=by
   unfold o.kX; (repeat' split)<;>simp
  refine aI ?_;refine T_ (c:=[_,_,_,_,_,_]) ao (Ext.refl _) rfl ?_;refine aI ?_;refine J_ (aeo x.n _ s az (h.ext he)) ?_;rintro _ aM ⟨⟨y,rfl,bF⟩,ag⟩;generalize o.kX x.n s=q at *;obtain⟨c7,dE⟩:=q;obtain⟨rfl,av⟩:=A6;refine aI ?_;refine _N (vs:=y.enc) (λ_=>by simp -dsimp only[dg,cK,Nat.reduceAdd,Nat.reduceEqDiff,reduceIte,reduceCtorEq,dq]) rfl rfl (by simp[o.ea.enc,Value.oneCell']) λaR cQ fD aq bn=>?_;refine aI ?_;apply I_<;>intro g7
  .refine aI ?_;have g8:dE=0:=g7;rw[g8];exact cc
  .refine aI ?_
   have:dE=8:=av.resolve_left g7
   rw[this];exact cc
 refine aI ?_;apply I_<;>intro g7
 .have hk:o.nf x s=o.DM x.n s:=by rw[o.nf,if_neg g5,if_neg g6,if_pos g7]
  rw[hk,o.DM];refine aI ?_;apply I_<;>intro g1
  .refine aI ?_;intro aM ag;refine aI ?_;rw[if_neg Aw];exact cc
  rw[if_pos Aw];obtain⟨i,U⟩:=Nb (show 0<=x.n by omega);obtain⟨_,hb⟩:=ah.n;rw[U] at hb;have av:x.n.tdiv 16=((i / 16:Nat):Int):=by rw[U];rfl
  have hm:x.n.tmod 16=((i % 16:Nat):Int):=by rw[U];rfl
  refine aI ?_;refine _C Aw ?_;rw[av];refine aI ?_;apply I_<;>intro g2
  .refine aI ?_;intro aM ag;refine aI ?_;rw[o.hc (.inr Aw)];exact cc
  have ay:i / 16<s.procs.length:=Aw
  rw[o.iP Aw Aw];simp only[Int.toNat_natCast];refine aI ?_;refine _t Aw ?_;refine aI ?_;refine _C Aw ?_;rw[av];obtain⟨a,rfl⟩:=ed.addr;obtain⟨_,bY,dQ,Gh,_⟩:=ed.at (i / 16) ay;have Q7:w.cell? ((a.add (i / 16*5)).add 2)=some (.I s.procs[i / 16].cn):=Gh 2 _ rfl;refine aI ?_;refine M_ ((af.trans ai).cell Q7) ?_;refine aI ?_;rw[hm];intro aM ag;refine aI ?_;apply I_<;>intro g3
  all_goals
   refine aI ?_;refine⟨?_,fU⟩
   first | rw[if_pos Aw] | rw[if_neg Aw]
 (repeat' (refine aI ?_;first | (refine I_ (λ_=>?_) (λ_=>?_)<;>try (exfalso;omega)) | refine N_ (λ_=>?_) (λ_=>?_)))<;>try refine aI ?_
 all_goals
  refine⟨?_,fU⟩;rw[o.nf,if_neg g5,if_neg g6,if_neg g7,if_pos Aw];split<;>first | rfl | (exfalso;omega)
def acZ(ae:o.p6)(k:Int):o.pd ae [k]=if ae.jW = -1\/k=ae.jW then (ae.makes,0) else (0,9):=by
 simp[o.pd]
def apf(ae:o.p6)(a b:Int):o.pd ae [a,b]=if (ae.jW = -1\/a=ae.jW)/\a=b then (ae.makes,0) else (0,9):=by
 simp only[o.pd,List.all_cons,List.all_nil,List.headD_cons,Bool.and_true,decide_true];by_cases h:a=b
 .subst h;simp
 .have bq:¬b=a:=λe=>h e.symm;simp[h,bq]
def vU(x:o.Node)(k:Int)(s:o.Scope):Int×Int:=match o.hp x.op with | some ae=>o.pd ae [k] | none=>o.jC x s k
def as3(x:o.Node)(k:Int)(cs:C_ B_)(s:o.Scope)(w:A_)(h:o.gk w cs s)(nd:x.op=3\/x.op=9\/x.op=10) :
  Ei F.Lz #[.agg x.enc.toArray,.I k,.agg cs.toArray] w λv w'=>v = .tuple #[.I (vU x k s).1,.I (vU x k s).2]/\Ext w w':=by
 obtain⟨a0,bz,db,c1,a2,c2,a3,bw,a4,bD,rfl,pk,c7,dE,ed,gW,eB,dD,dO,dU,eg⟩:=h.form;refine bk E.Lz ?_;refine aI ?_;refine O_ λw1 bx cN af al=>?_;refine aI ?_;refine O_ λaz bP c8 ai ao=>?_;have he:=af.trans ai;have cM:az.heap[bx]? = some (.cells #[.I x.op,.I x.n] T.e):=ai.obj al;clear al;refine aI ?_;apply I_<;>intro g1
 .have aS:o.hp x.op=none:=by rw[g1];rfl
  have hk:vU x k s=(let q:=o.gB s.vars x.n s;if q.2.2=false then (0,8) else if (x.op=3/\(q.2.1=0\/k≠q.2.1))\/(x.op≠3/\q.2.1≠0) then (0,9) else (q.1,0)):=by
   rw[vU,aS];simp only;rw[o.jC,if_neg Aw,if_pos Aw];simp only[show ¬x.op=4 from Aw,if_false]
  rw[hk];refine aI ?_;refine T_ (c:=[_,_,_,_,_,_]) ao (Ext.refl _) rfl ?_;refine aI ?_;refine J_ (HK _ s.vars x.n _ s az (c7.ext he) (h.ext he)) ?_;rintro _ aM ⟨⟨y,rfl,bF⟩,ag⟩;have c9:(o.gB s.vars x.n s).2.2=true->_:=λg=>S0 g (bF g);clear bF hk;generalize o.gB s.vars x.n s=q at c9 ⊢;obtain⟨zG,BJ,TJ⟩:=q;refine aI ?_;refine _N (vs:=y.enc) (λ_=>by simp -dsimp only[dg,cK,Nat.reduceAdd,Nat.reduceEqDiff,reduceIte,reduceCtorEq,dq]) rfl rfl (by simp[o.Var.enc,Value.oneCell']) λaR cQ fD aq bn=>?_;have hN:aR.heap[cQ]? = some (.cells #[.string y.name,.I y.scalar,.I y.over,.I y.aV,.I y.U,.I y.init] T.m):=bn;clear bn;refine aI ?_;refine N_ (λg5=>?_) (λg5=>?_);rotate_left
  .refine aI ?_;simp only[g5,if_true];exact cc
  obtain⟨fT,z2,z3,z4,z5,tk⟩:=c9 g5;have B4:zG=kindOf y.scalar:=fT;have B5:BJ=kindOf y.over:=z2;have zd:BJ=if y.over=0 then 0 else 1+y.over:=B5
  refine aI ?_;apply I_<;>intro g6
  .refine aI ?_;simp only[g5,Bool.true_eq_false,if_false];rw[if_pos (.inl ⟨g1,.inl (by rw[zd,if_pos g6])⟩)];exact cc
  rw[if_neg g6] at zd;refine aI ?_;apply I_<;>intro g7;rotate_left
  .refine aI ?_;simp only[g5,Bool.true_eq_false,if_false];rw[if_pos (.inl ⟨g1,.inr Aw⟩)];exact cc
  refine aI ?_;refine J_ (K4 y.scalar aR Aw) ?_;rintro _ _ ⟨rfl,rfl⟩;refine aI ?_;simp only[g5,Bool.true_eq_false,if_false,B4];rw[if_neg Aw];exact cc
 have iA:x.op=9->vU x k s=if k=1 then (1,0) else (0,9):=by
  intro e;rw[vU,e];show o.pd _ [k]=_;rw[acZ];simp
 have la:x.op=10->vU x k s=if k=0 then (0,0) else (0,9):=by
  intro e;rw[vU,e];show o.pd _ [k]=_;rw[acZ];simp
 (repeat' (refine aI ?_;first | (refine I_ (λ_=>?_) (λ_=>?_)<;>try (exfalso;omega)) | refine N_ (λ_=>?_) (λ_=>?_)))<;>try refine aI ?_
 all_goals
  refine⟨?_,fU⟩;rcases nd with e | e | e
  .exact absurd e g1
  .rw[iA e];split<;>first | rfl | (exfalso;omega)
  .rw[la e];split<;>first | rfl | (exfalso;omega)
def H3(op a b:Int):Int×Int:=match o.hp op with | some ae=>o.pd ae [a,b] | none=>(0,9)
def as9(op a b:Int)(w:A_)(nd:11<=op/\op<=19) :
  Ei F.LB #[.I op,.I a,.I b] w λv w'=>v = .tuple #[.I (H3 op a b).1,.I (H3 op a b).2]/\w'=w:=by
 have key:H3 op a b=if a≠b then (0,9) else if op=14\/op=15 then (1,0) else if op=18\/op=19 then (if a=1 then (1,0) else (0,9)) else if op=16\/op=17 then (if a=0 then (1,0) else (0,9)) else (if a=0 then (0,0) else (0,9)):=by
  have an:op=11\/op=12\/op=13\/op=14\/op=15\/op=16\/op=17\/op=18\/op=19:=Aw
  rcases an with e | e | e | e | e | e | e | e | e<;>subst e <;> (show o.pd _ [a,b]=_)<;>rw[apf]<;>by_cases F3:a=b<;>simp[F3,o.BQ]
 refine bk E.LB ?_
 (repeat' (refine aI ?_;first | (refine I_ (λ_=>?_) (λ_=>?_)<;>try (exfalso;omega)) | refine N_ (λ_=>?_) (λ_=>?_)))<;>try refine aI ?_
 all_goals
  refine⟨?_,aJ⟩;rw[key]
  (repeat' split)<;>first | rfl | (exfalso;omega)
def aka{s:o.Scope}{x:o.Node}{st:C_ Int}(h:o.fR x.op=0):o.fZ s x st=o.jC x s (st.getLastD 0):=by
 unfold o.fZ;rw[(MZ h).2.2.2]
theorem akb{s:o.Scope}{x:o.Node}{st:C_ Int}(h:o.fR x.op=1)(aE:1<=st.length):o.fZ s x st=vU x st[st.length - 1] s:=by
 unfold o.fZ vU;cases aS:o.hp x.op with
 | none=>simp only;rw[FK st Aw]
 | some ae =>
  have:=(o.Hu aS).1
  simp only;rw[show ae.parts.toNat=1 from Aw,PM aE]
def akc{s:o.Scope}{x:o.Node}{st:C_ Int}(h:o.fR x.op=2)(aE:2<=st.length):o.fZ s x st=H3 x.op st[st.length - 2] st[st.length - 1]:=by
 unfold o.fZ H3;obtain⟨ae,aS,au⟩:=adM (show 9<=x.op/\x.op<=19 by have:=M0 h;omega);rw[aS];simp only;rw[show ae.parts.toNat=2 from Aw,YY aE]
def aev(gX:B_)(e:C_ o.Node)(cs:C_ B_)(s:o.Scope)(w:A_)(he:o.eW w gX e)(h:o.gk w cs s) :
  Ei F.Lr #[gX,.agg cs.toArray] w λv w'=>v = .tuple #[.I (o.kind e s).1,.I (o.kind e s).2]/\Ext w w':=by
 obtain⟨v0,v1,v2,v3,v4,rfl,_⟩:=h.ex;obtain⟨aN,cap,rfl,hlen⟩:=he.form;refine bk E.Lr ?_;refine aI ?_;refine O_ λw1 dA ug af al=>?_;refine aI ?_;apply I_<;>intro g1
 .refine aI ?_;rw[o.kind,o.nm,if_pos Aw];exact cc
 refine aI ?_;apply I_<;>intro g2
 .refine aI ?_;rw[o.kind,o.nm,if_neg Aw,if_pos Aw];exact cc
 refine aI ?_;refine _h 7 e.length (λk S w' => ∃v st,S 6=v/\uV w1.heap.size w' v st/\o.gq (o.fZ s) (e.take k) []=(0,st)/\(0<k->1<=st.length)/\st.length<=12/\Ext w1 w')
  (by simp -dsimp only[dg,cK,Nat.reduceAdd,Nat.reduceEqDiff,reduceIte,reduceCtorEq,dq]) ⟨.slice none 0 0,[],by simp -dsimp only[dg,cK,Nat.reduceAdd,Nat.reduceEqDiff,reduceIte,reduceCtorEq,dq],aK.nil _ _ _ _ _,by simp[o.gq],CC,CC,Ext.refl _⟩ ?_
 rintro k S az b7 hk ct ⟨v6,st,bJ,gz,ih,FN,sN,ai⟩;have ad:=b7 0 rfl;have ab:=b7 3 rfl;simp only[bE,Nat.reduceAdd,Nat.reduceEqDiff,reduceIte,kx,oe] at ad ab;clear b7;obtain⟨rq,tI,rfl,bS,jg⟩:=gz.form;have U:Ints az _ st:=aK.iR (enc:=encI) (sz:=1) (λ_=>rfl) gz;unfold maxLen at jg;refine en (i_ ad (i_ ab (i_ bJ ct))) ?_;apply I_<;>intro g3;rotate_left
 .have a1:k=e.length:=Aw
  subst a1;rw[AE8] at ih;have h1:=FN Aw;obtain⟨a,rfl⟩:=U.addr h1;have de:o.kind e s=if st.length > 1 then (0,5) else (st.headD 0,0):=by
   rw[o.kind,o.nm,if_neg Aw,if_neg Aw,ih,if_neg CC]
  rw[de];clear de;refine en (i_ ad (i_ ab (i_ bJ ct))) ?_;apply I_<;>intro g4
  .refine aI ?_;rw[if_pos Aw];exact cc
  .refine en (i_ ad (i_ ab (i_ bJ ct))) ?_;refine K_ 0 rfl Aw ?_;refine aI ?_;rw[if_neg Aw]
   have:st.headD 0=st[0]:=by
    cases st with
    | nil=>simp at h1
    | cons z st=>rfl
   rw[this];exact cc
 have a1:k<e.length:=Aw
 obtain⟨a,rfl⟩:=he.addr;have nJ:=(he.at k a1).ok;have kf:=λad=>o.Ub (f:=o.fZ s) (e:=e) Aw a1 ih ad;have DG:=o.Ec a1 ih;have FM:=af.trans ai;have eo:=ai.obj al;refine en (i_ ad (i_ ab (i_ bJ ct))) ?_;refine J_ (afA e[k].op az) ?_;rintro _ _ ⟨rfl,rfl⟩;generalize aw:o.fR e[k].op=n at *;have hn : -1<=n/\n<=2:=by rw[<-aw];unfold o.fR; (repeat' split)<;>omega
 refine en (i_ ad (i_ ab (i_ bJ ct))) ?_;apply I_<;>intro g4
 .have aj:o.stepG (o.fZ s) e[k] st=(3,st):=by unfold o.stepG;rw[aw,if_pos g4]
  rw[aj] at kf;refine aI ?_;rw[o.kind,kf CC];exact cc
 refine en (i_ ad (i_ ab (i_ bJ ct))) ?_;apply I_<;>intro g5
 .have aj:o.stepG (o.fZ s) e[k] st=(4,st):=by unfold o.stepG;rw[aw,if_neg g4,if_pos g5]
  rw[aj] at kf;refine aI ?_;rw[o.kind,kf CC];exact cc
 obtain⟨p,rfl⟩:=Nb (show 0<=n by omega);have lh:o.stepG (o.fZ s) e[k] st=if (o.fZ s e[k] st).2≠0 then ((o.fZ s e[k] st).2,st) else if (st.take (st.length - p)++[(o.fZ s e[k] st).1]).length > 12 then (12,st) else (0,st.take (st.length - p)++[(o.fZ s e[k] st).1]):=by
  unfold o.stepG;rw[aw,if_neg g4,if_neg g5];simp only[Int.toNat_natCast]
 have l4:(st.take (st.length - p)++[(o.fZ s e[k] st).1]).length=st.length - p+1:=by simp[List.length_take]
 rw[l4] at lh;have fin:p=0\/p=1\/p=2:=Aw
 rcases fin with Bd | Bd | Bd
 case' inl =>
  have ax:=aka (s:=s) (st:=st) (x:=e[k]) Aw;obtain⟨fT,z2,z3,z4⟩:=MZ (x:=e[k].op) Aw;refine en (i_ ad (i_ ab (i_ bJ ct))) ?_;refine T_ (c:=[_,_,_,_,_,_]) eo (Ext.refl _) rfl ?_;refine en (i_ ad (i_ ab (i_ bJ ct))) ?_;refine P_ _ (λw' e'=>asW e[k] _ s w' nJ (h.ext (FM.trans e')) ⟨fT,z2⟩ z3 (st.getLastD 0)) ?_;rw[<-ax];refine en (i_ ad (i_ ab (i_ bJ ct))) ?_
 case' inr.inl =>
  have ax:=akb (s:=s) (st:=st) (x:=e[k]) Aw Aw;obtain⟨nU,rfl⟩:=U.addr;refine en (i_ ad (i_ ab (i_ bJ ct))) ?_;refine K_ (st.length - 1) Aw Aw ?_;refine en (i_ ad (i_ ab (i_ bJ ct))) ?_;refine T_ (c:=[_,_,_,_,_,_]) eo (Ext.refl _) rfl ?_;refine en (i_ ad (i_ ab (i_ bJ ct))) ?_;refine P_ _ (λw' e'=>as3 e[k] _ _ s w' (h.ext (FM.trans e')) (adF Aw)) ?_;rw[<-ax];refine en (i_ ad (i_ ab (i_ bJ ct))) ?_
 case' inr.inr =>
  have ax:=akc (s:=s) (st:=st) (x:=e[k]) Aw Aw;obtain⟨nU,rfl⟩:=U.addr;refine en (i_ ad (i_ ab (i_ bJ ct))) ?_;refine K_ (st.length - 2) Aw Aw ?_;refine en (i_ ad (i_ ab (i_ bJ ct))) ?_;refine K_ (st.length - 1) Aw Aw ?_;refine en (i_ ad (i_ ab (i_ bJ ct))) ?_;refine P_ _ (λw' e'=>(as9 e[k].op _ _ w' (M0 Aw)).mono λv bO h=>⟨h.1,h.2 ▸ Ext.refl _⟩) ?_;rw[<-ax];refine en (i_ ad (i_ ab (i_ bJ ct))) ?_
 all_goals
  intro aM ag;refine en (i_ ad (i_ ab (i_ bJ ct))) ?_;apply I_<;>intro g6;rotate_left
  .rw[if_pos g6] at lh;refine aI ?_;rw[o.kind,kf (by rw[lh];exact g6),lh];exact cc
  rw[if_neg (by simpa using g6)] at lh;have ez:=gz.ext ag;refine en (i_ ad (i_ ab (i_ bJ ct))) ?_;refine _D (cs:=[]) (by simp[List.range,List.range.loop,gG]) λaR cQ fD aq bn=>?_;have z12:=ai.size;have z23:=ag.size;have agb:=aq.size;have Qq:uV w1.heap.size aR (.slice (some ⟨cQ,0,none⟩) 0 0) []:=aK.empty Aw bn;have dj:=ez.ext aq;have dC:uV w1.heap.size aR (.slice _ (st.length - p) _) (st.take (st.length - p)):=aK.head (enc:=encI) (sz:=1) (xs:=st) (λ_=>rfl) dj (st.length - p) (Nat.sub_le _ _);have cu:(st.take (st.length - p)).length=st.length - p:=by simp[List.length_take]
  refine en (i_ ad (i_ ab (i_ bJ ct))) ?_;refine _i (st.length - p) (by refine ch bJ ?_;first | rfl | (congr 1;omega)) Aw ?_;refine aI ?_;refine _n (xs:=[]) (ys:=st.take (st.length - p)) Qq dC (λ_=>rfl) Jz (by rw[cu];simp only[List.length_nil];omega) (by rw[cu];simp only[List.length_nil,maxLen];omega) Aw λv5 bg Bh kS=>?_;have Gn:Ext aM bg:=aq.grown kS λq av=>by simp[Value.ownBlock] at av;omega
  rw[AF8] at Bh;have z35:=Gn.size;refine aI ?_;refine _D (cs:=[(o.fZ s e[k] st).1].flatMap encI) (by simp[List.range,List.range.loop,gG,lay,dc,bE,Value.cells,encI]) λbp dm e8 aC bS=>?_;have U0:=aC.size;have dk:=Bh.ext aC;refine aI ?_;refine _j (xs:=st.take (st.length - p)) (ys:=[(o.fZ s e[k] st).1]) dk (λ_=>rfl) (hK bS) rfl Jz (by rw[cu];simp only[List.length_cons,List.length_nil];omega) (by rw[cu];simp only[List.length_cons,List.length_nil,maxLen];omega) Aw λafO bH dY jR=>?_;have bc:Ext w1 bH:=Ext.grown (((ai.trans ag).trans Gn).trans aC) jR λq av=>(dk.lt q av).1;obtain⟨aqB,qR,rfl,_⟩:=dY.form;rw[l4] at dY ⊢;by_cases g7:12<st.length - p+1
  .rw[if_pos Aw] at lh
   first
    | (exfalso;omega)
    | (refine aI ?_
       rw[o.kind,kf (by rw[lh];simp),lh];exact⟨aJ,af.trans bc⟩)
  rw[if_neg Aw] at lh;refine en ct ?_;refine⟨a1,aJ,_,_,rfl,dY,by rw[DG,lh],λ_=>by rw[l4];omega,by rw[l4];omega,bc⟩
end Go.Proofs.R