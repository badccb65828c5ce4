/- Parts. -/
import Derived.Test.YtakmdjclehkglaaGreatDoorQamp
set_option linter.all false
set_option maxRecDepth 8000
set_option maxHeartbeats 16000000
namespace o
open Go
structure mj(m:Model)(ref:Int)(t:Bool):Prop where
 none:¬Told m ref->t=false
 there:∀q p k a b,fe m ref q p k->kM m ref a b->(t=true↔(bM m p k).to<=(bM m p k).from_\/∃x∈b,x∈tg m)
def mj.no{m:Model}{ref:Int}(h:¬Told m ref):mj m ref false:=⟨λ_=>rfl,λ_ _ _ _ _ br=>absurd br.told h⟩
theorem mj.of{m:Model}{ref:Int}{q p k:Nat}{a b:C_ Int}{t:Bool}(br:fe m ref q p k)(bA:kM m ref a b)(h:t=true↔(bM m p k).to<=(bM m p k).from_\/∃x∈b,x∈tg m):mj m ref t :=
 ⟨λaw=>absurd br.told aw,λeQ gC k' cx fV qX alB=>by
  obtain⟨rfl,rfl,rfl⟩:=br.one qX;obtain⟨rfl,rfl⟩:=bA.eq alB;exact h⟩
def af5{m:Model}{ref:Int}{q p k:Nat}{a b:C_ Int}(br:fe m ref q p k)(bA:kM m ref a b):∀x∈b,0<=x/\x<di m:=λx ah=>avg br x (((bA.there q p k br).2.mem x).1 ah)
end o
namespace Go.Proofs.R
open Go Go.RowKit ba o
def Uf{m:o.Model}{b:C_ Int}(hk:(o.check m).cJ=0)(ak:∀x∈b,0<=x/\x<di m):b.any (pW (jH m))=true↔∃x∈b,x∈tg m:=by
 rw[List.any_eq_true];have key:∀x∈b,(pW (jH m) x=true↔x∈tg m):=λx ah=>by
  obtain⟨ad,h1⟩:=ak x ah;unfold pW jH;rw[if_pos hk,List.getElem?_map,List.getElem?_range Aw];simp only[Option.map_some,Option.getD_some,decide_eq_true_eq];rw[show((x.toNat:Nat):Int)=x from Aw]
 constructor
 .rintro⟨x,ah,h⟩;exact⟨x,ah,(key x ah).1 h⟩
 .rintro⟨x,ah,h⟩;exact⟨x,ah,(key x ah).2 h⟩
def ae7{m:o.Model}(hk:(o.check m).cJ=0):(jH m).length=di m:=by unfold jH;rw[if_pos hk];simp
def yF{s:ByteArray}{f t:Int}{a b:H_ Addr}{kj jD c1 c2:Nat}{y:Bool}:∀x∈(#[.string s,.I f,.I t,.slice a kj c1,.slice b jD c2,.bool y]:Array B_).toList,x.oneCell'=true:=by simp[Value.oneCell']
def ai4(cs:C_ B_)(m:o.Model)(ref:Int)(w:A_)(h:dh w cs m)(aG:m.cr)(aS:gQ w) :
  Ei F.bV #[.agg cs.toArray,.I ref] w λu w'=>(∃t,u = .bool t/\mj m ref t)/\Ext w w':=by
 have b2:=h;obtain⟨bZ,bz,bN,c1,bT,c2,bW,bw,b1,bD,rfl,_⟩:=h.form;refine bk E.bV ?_;refine I ?_;intro w1 bP c8 af ao;refine I ?_;refine J_ (zx _ m w1 (b2.ext af) aG (aS.ext af)) ?_;rintro _ az ⟨rfl,ai⟩;replace ao:=ai.obj ao;have aD:=af.trans ai;refine I ?_;refine Y_ (v:=.I (o.check m).cJ) rfl ?_;refine I ?_;apply I_<;>intro g1;rotate_left
 .refine I ?_;exact⟨⟨false,aJ,mj.no λh=>g1 h.1⟩,aD⟩
 have gN:=gU g1;have hM:=pn gN.lim;refine I ?_;refine J_ (zK _ m az (b2.ext aD) gN.lim) ?_;rintro vr aM ⟨fp,ag⟩;obtain⟨e1,mS,rfl,_⟩:=fp.form;have iB:bm 2 (Flat o.Ref.enc) aM _ _:=aK.e4 (enc:=o.Ref.enc) (λ_=>rfl) fp;replace ao:=ag.obj ao;have aO:=aD.trans ag;clear fp;refine I ?_;apply I_<;>intro g2
 .refine I ?_;exact⟨⟨false,aJ,mj.no λh=>by have:=h.2.1;omega⟩,aO⟩
 refine I ?_;apply I_<;>intro g3
 .refine I ?_;exact⟨⟨false,aJ,mj.no λh=>by have:=h.2.2;omega⟩,aO⟩
 obtain⟨q,p,k,br⟩:=mn (m:=m) (ref:=ref) ⟨g1,Aw,Aw⟩;obtain⟨r,rfl⟩:=Nb (show 0<=ref by omega);have aT:r<(o.refs m).length:=Aw
 have fm:(o.refs m)[r].inst=(q:Int):=br.at_.nk;have ke:(o.refs m)[r].cmd=(k:Int):=br.at_.pU;obtain⟨iN,rfl⟩:=iB.addr;refine dV ?_;refine R_ [1,2] (λdm:Nat=>[(6,.pointer (some ⟨dm,0,none⟩))]) (λdm W=>(∃fE fN aN fh,W.heap[dm]? = some (.cells #[.string (bM m p k).name,.I (bM m p k).from_,.I (bM m p k).to,.slice fE (bM m p k).guard.length fN,.slice aN (bM m p k).bL.length fh,.bool (bM m p k).fair] T.q))/\Ext aM W) ?_ ?_
 .have sV:∀{W},Ext aM W->Ei F.c #[.agg #[.slice bZ m.scalars.length bz,.slice bN m.vars.length c1,.slice bT m.aA.length c2,.slice bW m.procs.length bw,.slice b1 m.props.length bD]] W λv w'=>(∃ca ci,v = .slice ca (o.insts m).length ci/\ix w' v (o.insts m))/\Ext W w':=λ{W} he=>(xA _ m W (b2.ext (aO.trans he)) aG).mono λv w' ⟨aH,hx⟩=>by
   obtain⟨ca,ci,rfl,_⟩:=aH.form;exact⟨⟨ca,ci,rfl,aK.e4 (enc:=cP.enc) (λ_=>rfl) aH⟩,hx⟩
  have dK:∀{W} {bK},Ext aM W->ix W bK (o.insts m)->Ei F.t #[.agg #[.slice bZ m.scalars.length bz,.slice bN m.vars.length c1,.slice bT m.aA.length c2,.slice bW m.procs.length bw,.slice b1 m.props.length bD],bK,.agg ((o.refs m)[r]).enc.toArray] W λu w'=>(∃fE fN aN fh,u = .agg #[.string (bM m p k).name,.I (bM m p k).from_,.I (bM m p k).to,.slice fE (bM m p k).guard.length fN,.slice aN (bM m p k).bL.length fh,.bool (bM m p k).fair])/\Ext W w':=λ{W bK} he U=>(YX _ bK m r q p k W (b2.ext (aO.trans he)) U br _ fm ke).mono λu w' ⟨⟨eY,va,hu,aw,aY⟩,hx⟩=>by
   obtain⟨fE,fN,rfl,_⟩:=aw.form;obtain⟨aN,fh,rfl,_⟩:=aY.form;exact⟨⟨fE,fN,aN,fh,hu⟩,hx⟩
  refine I ?_;intro aR aq;replace ao:=aq.obj ao;have alH:=iB.ext Flat.ext aq;refine I ?_;refine⟨?_,?_⟩
  .refine J_ (sV aq) ?_;rintro _ bg ⟨⟨ca,ci,rfl,aP⟩,ar⟩;have bC:=aq.trans ar;refine⟨ar,?_⟩;refine I ?_;refine⟨?_,?_⟩
   .refine J_ (dK bC aP) ?_;rintro _ bp ⟨⟨fE,fN,aN,fh,rfl⟩,aC⟩;have b5:=bC.trans aC;refine I ?_;intro bH dm e8 bc bS;refine⟨(ar.trans aC).trans bc,?_⟩;refine U_ bS rfl rfl yF λcB ji cF=>?_;have eK:=ji.ext bc e8;refine I ?_;exact⟨dm,⟨aJ,trivial⟩,⟨_,_,_,_,cF⟩,b5.trans eK⟩
   .refine O_ ?_;intro bp dm e8 aC bS;have b5:=bC.trans aC;refine⟨ar.trans aC,?_⟩;refine I ?_;refine J_ (dK b5 (aP.ext Flat.ext aC)) ?_;rintro _ bH ⟨⟨fE,fN,aN,fh,rfl⟩,bc⟩;refine I ?_;refine U_ (bc.obj bS) rfl rfl yF λcB ji cF=>?_;have eK:=ji.ext (aC.trans bc) e8;refine I ?_;exact⟨dm,⟨aJ,trivial⟩,⟨_,_,_,_,cF⟩,bC.trans eK⟩
  .refine O_ ?_;intro bg dm e8 ar bS;have bC:=aq.trans ar;refine⟨ar,?_⟩;refine I ?_;refine J_ (sV bC) ?_;rintro _ bp ⟨⟨ca,ci,rfl,aP⟩,aC⟩;have b5:=bC.trans aC;refine⟨ar.trans aC,?_⟩;refine I ?_;refine J_ (dK b5 aP) ?_;rintro _ bH ⟨⟨fE,fN,aN,fh,rfl⟩,bc⟩;refine I ?_;refine U_ ((aC.trans bc).obj bS) rfl rfl yF λcB ji cF=>?_;have eK:=ji.ext ((ar.trans aC).trans bc) e8;refine I ?_;exact⟨dm,⟨aJ,trivial⟩,⟨_,_,_,_,cF⟩,aq.trans eK⟩
 rintro dm S aR ⟨⟨fE,fN,aN,fh,bS⟩,aq⟩;replace ao:=aq.obj ao;have bo:=aO.trans aq;refine I ?_;refine J_ (agx _ m (r:Int) aR (b2.ext bo) aG (aS.ext bo)) ?_;rintro _ bg ⟨⟨fu,kI,a,b,rfl,dd,gP,bA⟩,ar⟩;have bC:=bo.trans ar;replace ao:=ar.obj ao;replace bS:=ar.obj bS;have eh:=af5 br bA;have hlen:=ae7 g1;refine I ?_;refine J_ (atz _ m bg (b2.ext bC) aG (aS.ext bC)) ?_;rintro auY bp ⟨⟨b9,n,aH⟩,aC⟩;have b5:=bC.trans aC;replace bS:=aC.obj bS;have fin:∀(W:A_) (bQ:Nat),Ext bp W->(0<b.length->yv W bQ b9 (jH m))->Ei F.h #[kI,.func (.func F.n) #[] #[.pointer (some ⟨bQ,0,none⟩)]] W λbU w'=>bU = .bool (b.any (pW (jH m)))/\Ext W w':=λW bQ he b7 =>
  ats kI b bQ b9 _ W (gP.ext Flat.ext (aC.trans he)) b7 λx ah=>⟨(eh x ah).1,by have:=eh x ah;omega⟩
 have jT:∃p,auY = .slice p n n/\(0<b.length->p=some ⟨b9,0,none⟩/\n=(jH m).length/\bp.heap[b9]? = some (.cells (mQ (jH m)).toArray T.k)):=by
  rcases aH with ⟨aj,rfl,rfl⟩ | ⟨rfl,aw,_,kV⟩
  .refine⟨none,rfl,λak=>?_⟩;have h1:=eh _ (E2 ak);rw[aj] at hlen;simp at hlen;omega
  .exact⟨_,rfl,λ_=>⟨rfl,aw,kV⟩⟩
 obtain⟨arj,rfl,RV⟩:=jT;refine I ?_;intro wn bQ o1 fc eI;refine I ?_;intro bH dz jQ;have bc:Ext bp bH:=dz.ext fc o1;clear eI;have cL:=b5.trans bc;replace bS:=bc.obj bS;have F0:0<b.length->yv bH bQ b9 (jH m):=λak=>by
  obtain⟨rfl,rfl,kV⟩:=RV ak;exact⟨jQ,bc.obj kV⟩
 refine I ?_;apply I_<;>intro g5
 .refine I ?_;exact⟨⟨true,aJ,mj.of br bA ⟨λ_=>.inl g5,λ_=>rfl⟩⟩,cL⟩
 refine I ?_;refine J_ (fin bH bQ bc F0) ?_;rintro _ cB ⟨rfl,bt⟩;refine I ?_;refine⟨⟨_,aJ,mj.of br bA ?_⟩,cL.trans bt⟩;rw[Uf g1 eh];exact⟨.inr,λh=>h.resolve_left Aw⟩
end Go.Proofs.R
namespace o
open Go
def mL(m:Model)(q l:Int)(i:Nat):Prop := ∃(eQ p k:Nat),fe m i eQ p k/\(eQ:Int)=q/\(bM m p k).from_=l
def pz(m:Model)(q l:Int):Prop:=(check m).cJ=0/\∃(eQ p:Nat) (h:fL m eQ p),(eQ:Int)=q/\0<=l/\l<(m.procs[p]'(h.au)).cn
def Ce(m:Model)(L:C_ (C_ Int×C_ Int))(q l:Int):Prop :=
 ∀i,mL m q l i->∀j (ay:j<(refs m).length),(refs m)[j].inst≠q->∀x y,L[i]? = some x->L[j]? = some y->¬nA x.1 x.2 y.1 y.2
structure k4(m:Model)(q l:Int)(t:Bool):Prop where
 off:¬pz m q l->t=false
 there:pz m q l->∀L,ml m (refs m).length L->(t=true↔Ce m L q l)
def k4.no{m:Model}{q l:Int}(h:¬pz m q l):k4 m q l false:=⟨λ_=>rfl,λk=>absurd k h⟩
theorem k4.of{m:Model}{q l:Int}{t:Bool}{L:C_ (C_ Int×C_ Int)}(dd:pz m q l)(gS:ml m (refs m).length L)(h:t=true↔Ce m L q l):k4 m q l t :=
 ⟨λk=>absurd dd k,λ_ nS QG=>by rw[<-gS.eq QG];exact h⟩
def DQ{m:Model}{q p:Nat}{l:Int}(hk:(check m).cJ=0)(aP:fL m q p)(ad:0<=l)(h1:l<(m.procs[p]'aP.au).cn):pz m q l:=⟨hk,q,p,aP,rfl,ad,h1⟩
theorem fL.one{m:Model}{q p gC:Nat}(h:fL m q p)(bq:fL m q gC):p=gC:=by
 have a:=h.eq;have b:=bq.eq;omega
def pz.lt{m:Model}{q p:Nat}{l:Int}(h:pz m q l)(aP:fL m q p):0<=l/\l<(m.procs[p]'aP.au).cn:=by
 obtain⟨_,eQ,gC,alh,e,ad,h1⟩:=h
 have:eQ=q:=Aw
 subst this
 have:=aP.one alh
 subst this;exact⟨ad,h1⟩
theorem pz.aV{m:Model}{q l:Int}(h:pz m q l):0<=q/\q<(insts m).length/\0<=l:=by
 obtain⟨_,eQ,gC,aP,e,ad,h1⟩:=h
 have:=aP.av
 omega
def Qd{m:Model}{q l:Int}{i eQ p k:Nat}(br:fe m i eQ p k):mL m q l i↔((eQ:Int)=q/\(bM m p k).from_=l):=by
 constructor
 .rintro⟨a,b,c,h,h1,J⟩;obtain⟨rfl,rfl,rfl⟩:=br.one h;exact⟨h1,J⟩
 .rintro⟨h1,J⟩;exact⟨eQ,p,k,br,h1,J⟩
def mL.lt{m:Model}{q l:Int}{i:Nat}(h:mL m q l i):i<(refs m).length:=by
 obtain⟨_,_,_,br,_⟩:=h
 have:=br.told.2.2
 omega
theorem T3:∀l:C_ Int,∃r,pB l r
 | []=>⟨[],List.Pairwise.nil,λ_=>Iff.rfl⟩
 | x :: l=>by
  obtain⟨r,aT⟩:=T3 l;by_cases ah:x∈r
  .exact⟨r,aT.lM,λy=>by
    rw[aT.mem,AJ7];exact⟨.inr,λh=>h.elim (λe=>e ▸ (aT.mem x).1 ah) id⟩⟩
  .refine⟨r.filter (· < x)++x :: r.filter (x < ·),?_,λy=>?_⟩
   .refine List.pairwise_append.2 ⟨aT.lM.sublist List.filter_sublist,List.pairwise_cons.2 ⟨λy bF=>?_,aT.lM.sublist List.filter_sublist⟩,λy bF z bB=>?_⟩
    .simpa using(List.mem_filter.1 bF).2
    .have h1:y<x:=by simpa using(List.mem_filter.1 bF).2
     rcases List.mem_cons.1 bB with e | e
     .omega
     .have J:x<z:=by simpa using(List.mem_filter.1 e).2
      omega
   .rw[AG0,AJ7,AJ8,AJ8,AJ7,<-aT.mem y];simp only[decide_eq_true_eq];constructor
    .rintro(h | h | h)
     .exact .inr h.1
     .exact .inl h
     .exact .inr h.1
    .rintro(h | h)
     .exact .inr (.inl h)
     .have:y≠x:=λe=>ah (e ▸ h)
      rcases Int.lt_or_lt_of_ne this with k | k
      .exact .inl ⟨h,k⟩
      .exact .inr (.inr ⟨h,k⟩)
def aeu(m:Model)(ref:Int):∃a b,kM m ref a b:=by
 by_cases aB:Told m ref
 .obtain⟨q,p,k,br⟩:=mn aB;obtain⟨a,aY⟩:=T3 (qv m q (bM m p k) (bM m p k).bL.length);obtain⟨b,ak⟩:=T3 (kq m q (bM m p k) (bM m p k).bL.length);exact⟨a,b,kM.of br aY ak⟩
 .exact⟨[],[],kM.nil aB⟩
theorem afM(m:Model):∀n,∃L,ml m n L
 | 0=>⟨[],ml.nil m⟩
 | n+1=>by
  obtain⟨L,h⟩:=afM m n;obtain⟨a,b,bA⟩:=aeu m n;exact⟨_,h.snoc bA⟩
noncomputable def Hf(m:Model)(q l:Int):Bool := @decide (pz m q l/\∀L,ml m (refs m).length L->Ce m L q l) (Classical.propDecidable _)
def k4.is{m:Model}{q l:Int}{t:Bool}(h:k4 m q l t):t=Hf m q l:=by
 unfold Hf;by_cases dd:pz m q l
 .obtain⟨L,gS⟩:=afM m (refs m).length;have h1:=h.there dd L gS;refine Bool.eq_iff_iff.2 (h1.trans ?_);rw[@decide_eq_true_iff _ (Classical.propDecidable _)];exact⟨λk=>⟨dd,λnS QG=>gS.eq QG ▸ k⟩,λk=>k.2 L gS⟩
 .rw[h.off dd];exact(@decide_eq_false _ (Classical.propDecidable _) λk=>dd k.1).symm
noncomputable def si(m:Model)(ref:Int):Bool := @decide (∃q p k a b,fe m ref q p k/\kM m ref a b/\((bM m p k).to<=(bM m p k).from_\/∃x∈b,x∈tg m)) (Classical.propDecidable _)
def mj.is{m:Model}{ref:Int}{t:Bool}(h:mj m ref t):t=si m ref:=by
 unfold si;refine Bool.eq_iff_iff.2 ?_;rw[@decide_eq_true_iff _ (Classical.propDecidable _)];constructor
 .intro e;have aB:Told m ref:=Classical.byContradiction λaw=>by rw[h.none aw] at e;cases e
  obtain⟨q,p,k,br⟩:=mn aB;obtain⟨a,b,bA⟩:=aeu m ref;exact⟨q,p,k,a,b,br,bA,(h.there q p k a b br bA).1 e⟩
 .rintro⟨q,p,k,a,b,br,bA,hk⟩;exact(h.there q p k a b br bA).2 hk
structure kK where
 cmd:Int
 k0:Int
 to:List Int
def zE(m:Model)(q:Nat):Nat:=match (insts m)[q]? with
 | some i=>i.proc.toNat
 | none=>0
def l7(m:Model)(s:C_ Int)(r:Nat):C_ kK:=match (refs m)[r]? with
 | none=>[]
 | some x=>match hS m s x.inst.toNat (bM m (zE m x.inst.toNat) x.cmd.toNat) with
  | none=>[]
  | some t=>⟨r,0,t⟩ :: if ways (bM m (zE m x.inst.toNat) x.cmd.toNat) m.aA=2 then [⟨r,1,lost m s t (bM m (zE m x.inst.toNat) x.cmd.toNat)⟩] else []
def ki(m:Model)(s:C_ Int)(n:Nat):C_ kK:=(List.range n).flatMap (l7 m s)
def fz(m:Model)(s:C_ Int):C_ kK:=match ki m s (refs m).length with
 | []=>[⟨-1,0,s⟩]
 | l=>l
def Hp(m:Model)(s:C_ Int)(n:Nat):ki m s (n+1)=ki m s n++l7 m s n:=by
 unfold ki;rw[AH1,AF9];simp
def aqc(m:Model)(s:C_ Int)(r:Nat):(l7 m s r).length<=2:=by
 unfold l7;split
 .simp
 .split
  .simp
  .split<;>simp
theorem MS(m:Model)(s:C_ Int):∀n,(ki m s n).length<=2*n
 | 0=>by simp[ki]
 | n+1=>by
  rw[Hp,HO]
  have:=MS m s n
  have:=aqc m s n
  omega
theorem fe.l7{m:Model}{r q p k:Nat}(h:fe m r q p k)(s:C_ Int):l7 m s r=match hS m s q (bM m p k) with
  | none=>[]
  | some t=>⟨r,0,t⟩ :: if ways (bM m p k) m.aA=2 then [⟨r,1,lost m s t (bM m p k)⟩] else []:=by
 have h1:=h.U;have dd:=h.at_;simp only[Int.toNat_natCast] at h1 dd;have bG:(refs m)[r].inst.toNat=q:=by have:=dd.nk;omega
 have aD:(refs m)[r].cmd.toNat=k:=by have:=dd.pU;omega
 have aO:zE m q=p:=by
  unfold zE;rw[List.getElem?_eq_getElem dd.U]
  have:=dd.ip
  simp only;omega
 unfold o.l7;rw[List.getElem?_eq_getElem h1];simp only[bG,aD,aO]
def fe.off{m:Model}{r q p k:Nat}(h:fe m r q p k){s:C_ Int}(bq:hS m s q (bM m p k)=none):o.l7 m s r=[]:=by rw[h.l7,bq]
def fe.Tq{m:Model}{r q p k:Nat}(h:fe m r q p k){s t:C_ Int}(bq:hS m s q (bM m p k)=some t)(hw:¬ways (bM m p k) m.aA=2):o.l7 m s r=[⟨r,0,t⟩]:=by
 rw[h.l7,bq];simp only[if_neg hw]
def fe.adK{m:Model}{r q p k:Nat}(h:fe m r q p k){s t:C_ Int}(bq:hS m s q (bM m p k)=some t)(hw:ways (bM m p k) m.aA=2):o.l7 m s r=[⟨r,0,t⟩,⟨r,1,lost m s t (bM m p k)⟩]:=by
 rw[h.l7,bq];simp only[if_pos hw]
structure OH(m:Model)(s:List Int)(x:kK)(q p k:Nat)(u:List Int):Prop where
 at_:fe m x.cmd q p k
 av0:hS m s q (bM m p k)=some u
 ayo:x.k0=0/\x.to=u\/x.k0=1/\ways (bM m p k) m.aA=2/\x.to=lost m s u (bM m p k)
theorem aqb{m:Model}{s:C_ Int}{r:Nat}(hk:(check m).cJ=0)(aT:r<(refs m).length){x:kK}(ah:x∈l7 m s r):∃q p k u,OH m s x q p k u/\x.cmd=r:=by
 obtain⟨q,p,k,br⟩:=mn (m:=m) (ref:=r) ⟨hk,Aw,Aw⟩;cases h:hS m s q (bM m p k) with
 | none=>rw[br.off h] at ah;cases ah
 | some u =>
  by_cases hw:ways (bM m p k) m.aA=2
  .rw[br.adK h hw] at ah;simp only[List.mem_cons,List.not_mem_nil,or_false] at ah;rcases ah with rfl | rfl
   .exact⟨q,p,k,u,⟨br,h,.inl ⟨rfl,rfl⟩⟩,rfl⟩
   .exact⟨q,p,k,u,⟨br,h,.inr ⟨rfl,hw,rfl⟩⟩,rfl⟩
  .rw[br.Tq h hw] at ah;simp only[List.mem_cons,List.not_mem_nil,or_false] at ah;subst ah;exact⟨q,p,k,u,⟨br,h,.inl ⟨rfl,rfl⟩⟩,rfl⟩
def ap5{m:Model}{s:C_ Int}(hk:(check m).cJ=0){x:kK}(ah:x∈fz m s):(x.cmd = -1/\x.k0=0/\x.to=s)\/∃q p k u,OH m s x q p k u:=by
 have key:x∈ki m s (refs m).length->∃q p k u,OH m s x q p k u:=λh=>by
  unfold ki at h;obtain⟨r,aT,ah⟩:=List.mem_flatMap.1 h;obtain⟨q,p,k,u,h,_⟩:=aqb hk (List.mem_range.1 aT) ah;exact⟨q,p,k,u,h⟩
 unfold fz at ah;split at ah
 .simp only[List.mem_cons,List.not_mem_nil,or_false] at ah;subst ah;exact .inl ⟨rfl,rfl,rfl⟩
 .exact .inr (key ah)
def afU{m:Model}{c:dG}(h:ways c m.aA=2):∃j:Nat,(comm c.bL).2=j/\j<m.aA.length:=by
 obtain⟨j,h1,J,_⟩:=au2 (c:=c) (l:=m.aA) Aw;exact⟨j,h1,J⟩
def au0(c:dG)(l:C_ ea):ways c l<=2:=by
 unfold ways;split
 .split
  .split<;>omega
  .omega
 .omega
def uR(m:Model)(s:C_ Int)(r:Nat):Prop := ∃q p k,fe m r q p k/\hS m s q (bM m p k)≠none
def xJ(m:Model)(s:C_ Int)(j:Nat):Int:=(s[cV m j]?).getD 0
structure mJ(m:Model)(s:List Int)(j:Nat):Prop where
 loc:Hf m j (xJ m s j)=true
 Ft:∀r,mL m j (xJ m s j) r->si m r=false
 on:∃r,mL m j (xJ m s j) r/\uR m s r
structure p7(m:Model)(s:List Int)(i:Int):Prop where
 bad:¬gE m s->i = -1
 none:gE m s->i<0->i = -1/\∀j,j<(insts m).length->¬mJ m s j
 some:gE m s->0<=i->i.toNat<(insts m).length/\mJ m s i.toNat/\∀j,j<i.toNat->¬mJ m s j
def p7.eq{m:Model}{s:C_ Int}{i rk:Int}(h:p7 m s i)(k:p7 m s rk):i=rk:=by
 by_cases bA:gE m s
 .by_cases h1:i<0
  .obtain⟨bG,kj⟩:=h.none bA h1;by_cases J:rk<0
   .rw[bG,(k.none bA J).1]
   .obtain⟨a,b,_⟩:=k.some bA Aw;exact absurd b (kj _ a)
  .obtain⟨a,b,c⟩:=h.some bA Aw;by_cases J:rk<0
   .exact absurd b ((k.none bA J).2 _ a)
   .obtain⟨cx,fV,iY⟩:=k.some bA Aw;rcases Nat.lt_trichotomy i.toNat rk.toNat with q | q | q
    .exact absurd b (iY _ q)
    .omega
    .exact absurd fV (c _ q)
 .rw[h.bad bA,k.bad bA]
def CY(m:Model)(r:Nat):Int:=match (refs m)[r]? with
 | some x=>(bM m (zE m x.inst.toNat) x.cmd.toNat).from_
 | none=>0
def zq(m:Model)(r:Nat):Int:=match (refs m)[r]? with
 | some x=>x.inst
 | none => -1
def ky(m:Model)(q l:Int)(r:Nat):Bool:=decide (zq m r=q)&&decide (CY m r=l)
def fe.rel{m:Model}{r q p k:Nat}(h:fe m r q p k):zq m r=q/\CY m r=(bM m p k).from_:=by
 have h1:=h.U;have dd:=h.at_;simp only[Int.toNat_natCast] at h1 dd;have bG:(refs m)[r].inst.toNat=q:=by have:=dd.nk;omega
 have aD:(refs m)[r].cmd.toNat=k:=by have:=dd.pU;omega
 have aO:zE m q=p:=by
  unfold zE;rw[List.getElem?_eq_getElem dd.U]
  have:=dd.ip
  simp only;omega
 unfold zq CY;rw[List.getElem?_eq_getElem h1];simp only[bG,aD,aO,and_true];exact dd.nk
def CX{m:Model}{q l:Int}{r:Nat}(hk:(check m).cJ=0)(aT:r<(refs m).length):ky m q l r=true↔mL m q l r:=by
 obtain⟨eQ,p,k,br⟩:=mn (m:=m) (ref:=r) ⟨hk,Aw,Aw⟩;obtain⟨h1,J⟩:=br.rel;rw[Qd br];unfold ky;rw[h1,J,AI0,decide_eq_true_eq,decide_eq_true_eq]
def vq(m:Model)(q l:Int)(n:Nat):C_ Int:=((List.range n).filter (ky m q l)).map λr:Nat=>(r:Int)
def Rl(m:Model)(q l:Int)(n:Nat):vq m q l (n+1)=vq m q l n++if ky m q l n then [(n:Int)] else []:=by
 unfold vq;rw[AH1,AJ2,AF1];congr 1;cases h:ky m q l n<;>simp[h]
def aa6(m:Model)(q l:Int)(n:Nat):(vq m q l n).length<=n:=by
 unfold vq;rw[AK3]
 have:=AJ4 (ky m q l) (List.range n)
 rw[List.length_range] at this;exact this
def am1{m:Model}{q l:Int}{n:Nat}{x:Int}:x∈vq m q l n↔∃r:Nat,x=r/\r<n/\ky m q l r=true:=by
 unfold vq;rw[List.mem_map];constructor
 .rintro⟨r,h,rfl⟩;rw[AJ8,List.mem_range] at h;exact⟨r,rfl,h⟩
 .rintro⟨r,rfl,h1,J⟩;exact⟨r,by rw[AJ8,List.mem_range];exact⟨h1,J⟩,rfl⟩
structure It(m:Model)(s:List Int)(q l:Int):Prop where
 loc:Hf m q l=true
 Ft:∀r,mL m q l r->si m r=false
 on:∃r,mL m q l r/\uR m s r
def Zl{m:Model}{s:C_ Int}{j:Nat}:mJ m s j↔It m s j (xJ m s j):=⟨λh=>⟨h.loc,h.Ft,h.on⟩,λh=>⟨h.loc,h.Ft,h.on⟩⟩
def lk(m:Model)(i:Int)(x:kK):Bool:=decide (0<=x.cmd)&&decide (zq m x.cmd.toNat=i)
def ng(m:Model)(s:C_ Int)(i:Int):C_ kK:=if i<0 then fz m s else (fz m s).filter (lk m i)
def ads{m:Model}{s:C_ Int}(hk:(check m).cJ=0){x:kK}(ah:x∈fz m s):x.cmd = -1\/(0<=x.cmd/\x.cmd.toNat<(refs m).length):=by
 rcases ap5 hk ah with ⟨h,_⟩ | ⟨q,p,k,u,h⟩
 .exact .inl h
 .exact .inr ⟨h.at_.aV,h.at_.U⟩
end o
namespace o
def aoS(s:C_ Int)(p:Nat)(x:Int)(xs:C_ Int)(h:p+(xs.length+1)<=s.length):h0 (s.set p x) (p+1) xs=h0 s p (x :: xs):=by
 have h1:p+1+xs.length<=(s.set p x).length:=by rw[X4];omega
 have J:p+(x :: xs).length<=s.length:=by simpa using h
 apply List.ext_getElem?;intro i;rw[Bt h1,Bt J];by_cases U:i=p
 .subst U;rw[if_neg Aw,if_pos ⟨Aw,CC⟩,List.getElem?_set_self Aw];simp
 .by_cases aT:p+1<=i/\i<p+1+xs.length
  .rw[if_pos aT,if_pos ⟨Aw,by simp;omega⟩,show i - p=(i - (p+1))+1 from Aw,List.getElem?_cons_succ]
  .rw[if_neg aT,if_neg (by simp;omega),List.getElem?_set_ne Aw]
def acx(s:C_ Int)(p:Nat):h0 s p []=s:=by simp[h0]
end o
namespace ba
open Go Go.RowKit
def adO{e:F_}{base:Nat}{w:A_}{l:C_ Int}{g n c k:Nat}{x:Int}(h:aK bX e 1 base w (.slice (some ⟨g,0,none⟩) n c) l)(hk:k<l.length) :
  aK bX e 1 base (w.setCell ⟨g,k,none⟩ (.I x)) (.slice (some ⟨g,0,none⟩) n c) (l.set k x)/\(∃hQ,w.cell? ⟨g,k,none⟩=some hQ)/\w.frozen? ⟨g,k,none⟩=false:=by
 rcases h.2 with ⟨aw,ad⟩ | ⟨akI,cap,cur,h1,J,ab,aF,a7,bJ,ct⟩
 .cases aw
 .injection h1 with bG aD aO
  injection bG with bG
  injection bG with bG
  subst bG aO;have cu:k<cur.size:=Aw
  have jt:Addr.add ⟨g,0,none⟩ k=⟨g,k,none⟩:=by rw[add_eq,S6]
  have an:w.cell? (Addr.add ⟨g,0,none⟩ k)=some cur[k]:=fP ab (Array.getElem?_eq_getElem cu);rw[jt] at an;have bq:w.ownsRow base e 1 (.slice (some ⟨g,0,none⟩) l.length c) l.length (l.flatMap bX):=by unfold aK at h;rw[aD] at h;exact h
  have aj:=World.ownsRow.stored bq k (.I x);rw[Qa] at aj;refine⟨?_,⟨_,an⟩,by simp[World.frozen?,ab]⟩;unfold aK;rw[X4,aD];exact aj.1
theorem adP{e:F_}{base:Nat}{g n c p:Nat}:∀(xs:C_ Int) (i:Nat) (w:A_) (l:C_ Int),aK bX e 1 base w (.slice (some ⟨g,0,none⟩) n c) l->p+i+xs.length<=l.length ->
  aK bX e 1 base (iJ w ⟨g,p,none⟩ (xs.flatMap bX) i) (.slice (some ⟨g,0,none⟩) n c) (o.h0 l (p+i) xs)
 | [],i,w,l,h,_=>by rw[o.acx];exact h
 | x :: xs,i,w,l,h,aE=>by
  have ig:p+i+(xs.length+1)<=l.length:=by simpa using aE
  have h1:=(adO (x:=x) h (k:=p+i) Aw).1;have J:=adP (p:=p) xs (i+1) _ _ h1 (by rw[X4];omega);rw[<-AI5,o.aoS _ _ _ _ ig] at J;show aK bX e 1 base (iJ (w.setCell (Addr.add ⟨g,p,none⟩ i) (.I x)) ⟨g,p,none⟩ (xs.flatMap bX) (i+1)) _ _;rw[add_eq];exact J
def _a{S:Fr}{w:A_}{bl:B_->Prop}{n cap g:Nat}{x y:G_}{k k':IntKind}{xs:C_ Int}{t}(l u:Nat)(aj:bm 1 (Flat bX) w (.slice (some ⟨g,0,none⟩) n cap) xs)(ah:bu S x = .int k (l:Int))(bF:bu S y = .int k' (u:Int))(aE:l<=u)(hu:u<=xs.length)
  (hk:∀ae c,(0<u - l->ae=some ⟨g,l,none⟩)->bm 1 (Flat bX) w (.slice ae (u - l) c) ((xs.drop l).take (u - l))->bl (.slice ae (u - l) c)):tw S 1 (.slice (some ⟨g,0,none⟩) n cap) (some x) (some y) none bl t:=by
 obtain⟨bG,aD,aO⟩:=aj.len;refine _B l u cap (by simp[eP,ah]) (by simp[eP,bF]) (by simp[eP]) ⟨aE,Aw,E1 _⟩ CC ?_;refine hk _ _ (λad=>?_) (aj.sub l u aE hu);rw[if_neg Aw];simp[add_eq]
def AD8{S:Fr}{w:A_}{bl:B_->Prop}{n cap g:Nat}{x:G_}{k:IntKind}{xs:C_ Int}{t}(l:Nat)(aj:bm 1 (Flat bX) w (.slice (some ⟨g,0,none⟩) n cap) xs)(ah:bu S x = .int k (l:Int))(aE:l<=xs.length)
  (hk:∀ae c,(0<n - l->ae=some ⟨g,l,none⟩)->bl (.slice ae (n - l) c)):tw S 1 (.slice (some ⟨g,0,none⟩) n cap) (some x) none none bl t:=by
 obtain⟨bG,aD,aO⟩:=aj.len;refine _B l n cap (by simp[eP,ah]) (by simp[eP]) (by simp[eP]) ⟨Aw,Aw,E1 _⟩ CC ?_;refine hk _ _ (λad=>?_);rw[if_neg Aw];simp[add_eq]
def _b{P:D_}{S:Fr}{w:A_}{e cH:F_}{base g n c p k Fm m cs:Nat}{l xs:C_ Int}{x y:G_}{ae os:H_ Addr}{cO:B_->A_->Prop}{ty:F_}{t}(aS:aK bX e 1 base w (.slice (some ⟨g,0,none⟩) n c) l)(Sc:bm 1 (Flat bX) w (.slice os m cs) xs)
  (ah:bu S x = .slice ae k Fm)(bF:bu S y = .slice os m cs)(bb:0<k->ae=some ⟨g,p,none⟩)(au:p+k<=l.length)(hu:P.underlying cH=some (.slice e))(bB:(P.info? e).map (·.size)=some 1)
  (hk:∀u w1,dw g w w1->aK bX e 1 base w1 (.slice (some ⟨g,0,none⟩) n c) (o.h0 l p (xs.take k))->cO u w1):uW P (.call ⟨.builtin .copy,#[x,y],#[cH,cH]⟩) ty S w cO t:=by
 obtain⟨inf,U,fo⟩:=Option.map_eq_some_iff.1 bB;obtain⟨bG,aD,aO⟩:=Sc.len;subst bG;have abC:(xs.take k).length=min k xs.length:=H5;have amK:∀a,os=some a->ff w a ((xs.take k).flatMap bX):=λa aY j v ay=>by
  have jy:(List.map (Value.int .i64) (xs.take k))[j]? = some v:=by rw[<-ay];congr 1;induction xs.take k with | nil=>rfl | cons q r fq=>simp[bX,fq]
  rw[List.getElem?_map] at jy;cases av:(xs.take k)[j]? with
  | none=>rw[av] at jy;cases jy
  | some q =>
   rw[av] at jy;have bo:v = .I q:=by simpa using jy.symm
   subst bo;obtain⟨cu,Bk⟩:=List.getElem?_eq_some_iff.1 av;rw[abC] at cu;subst aY;have J:=Sc.at j Aw;have ab:w.cell? ((a.add (j*1)).add 0)=some (.I xs[j]):=J 0 _ rfl;rw[add_zero,AG2] at ab;rw[ab]
   have:(xs.take k)[j]=xs[j]:=CC
   rw[this] at Bk;rw[Bk]
 have lF:((xs.take k).flatMap bX).length=min xs.length k:=by rw[yR (sz:=1) (λ_=>rfl),abC];omega
 have Ro:(Builtin.firstCells 1 (min xs.length k) (.slice os xs.length cs)).run P w = .ok ((xs.take k).flatMap bX).toArray w:=by
  cases os with
  | none =>
   have ad:xs=[]:=by
    cases uq:xs with
    | nil=>rfl
    | cons q r=>obtain⟨a,aY⟩:=Sc.addr (by rw[uq];simp);cases aY
   subst ad;simp[Builtin.firstCells]
  | some a =>
   have h1:=run_loadCells_list (P:=P) w a _ (amK a rfl);rw[lF] at h1;simp only[Builtin.firstCells,Nat.mul_one];exact h1
 rcases Nat.eq_zero_or_pos k with fx | fx
 .subst fx;have bC:(xs.take 0).flatMap bX=[]:=rfl;rw[bC,Nat.min_zero] at Ro;refine _G (v:=goInt 0) (w':=w) ?_ (hk _ _ (dw.refl _ _) (by rw[show xs.take 0=[] from rfl,o.acx];exact aS));cases ae<;>simp[execOp,resolve,invoke,builtin,ah,bF,Builtin.copy_,run_underlying hu,Builtin.lenOf,qA U,fo,Ro,storeCells]
 .obtain rfl:=bb fx;have hY:=HJ P ⟨g,p,none⟩ ((xs.take k).flatMap bX) 0 w (λj ay=>by
   rw[S6,add_eq];exact(adO (x:=0) aS (k:=p+j) Aw).2) (λq av=>by
   obtain⟨z,_,s4⟩:=List.mem_flatMap.1 av;rw[List.mem_singleton.1 s4];rfl)
  refine _G (v:=goInt ((Nat.min xs.length k:Nat):Int)) (w':=iJ w ⟨g,p,none⟩ ((xs.take k).flatMap bX) 0) ?_ (hk _ _ (dw.iJ _ w ⟨g,p,none⟩ 0) (adP _ 0 w l aS Aw));simp[execOp,resolve,invoke,builtin,ah,bF,Builtin.copy_,run_underlying hu,Builtin.lenOf,qA U,fo,Ro,hY]
def AD9{α:Type}{S:Fr}{w:A_}{bl:B_->Prop}{sz n cap:Nat}{R:A_->Addr->α->Prop}{aN:H_ Addr}{x y z:G_}{k k' k'':IntKind}{xs:C_ α}{t}(l u:Nat)(aj:bm sz R w (.slice aN n cap) xs)(ah:bu S x = .int k (l:Int))(bF:bu S y = .int k' (u:Int))(bB:bu S z = .int k'' (u:Int))(aE:l<=u)(hu:u<=xs.length)
  (hk:∀ae,bm sz R w (.slice ae (u - l) (u - l)) ((xs.drop l).take (u - l))->bl (.slice ae (u - l) (u - l))):tw S sz (.slice aN n cap) (some x) (some y) (some z) bl t:=by
 obtain⟨bG,aD,aO⟩:=aj.len;refine _B l u u (by simp[eP,ah]) (by simp[eP,bF]) (by simp[eP,bB]) ⟨aE,E1 _,Aw⟩ CC ?_;refine hk _ ?_;have hlen:((xs.drop l).take (u - l)).length=u - l:=by rw[H5,AF5];omega
 by_cases KR:u=l
 .subst KR;have ad:(xs.drop u).take (u - u)=[]:=by rw[Nat.sub_self];rfl
  rw[ad];rw[if_pos rfl,Nat.sub_self];exact⟨aN,0,rfl,E1 _,AF4 _,λh=>absurd rfl h,λa _ i U=>absurd U (E3 _)⟩
 .have h:=aj.sub l u aE hu;rw[if_neg Aw] at h;rw[if_neg KR];obtain⟨o',iY,e,h1,J,ab,aF⟩:=h;injection e with f1 f2 f3
  subst f1;exact⟨_,_,by rw[hlen],by rw[hlen];exact E1 _,Aw,ab,aF⟩
end ba
namespace o
theorem aoX{l:C_ Int}(ad:0<l.length)(h1:0<=l[0])(J:l[0]<=(l.length:Int) - 1):jA l = !((l.drop (1+l[0].toNat)).any λn=>decide (n≠0)):=by
 cases l with
 | nil=>simp at ad
 | cons n r =>
  simp only[List.getElem_cons_zero,List.length_cons] at h1 J ⊢;rw[Nat.add_comm,List.drop_succ_cons];unfold jA;show(decide (0<=n/\n<=(r.length:Int))&&(r.drop n.toNat).all λx=>decide (x=0))=_;rw[decide_eq_true Aw,AJ5,List.not_any_eq_all_not];congr 1;funext x;by_cases h:x=0<;>simp[h]
theorem acB{l:C_ Int}(h:∀ad:0<l.length,¬(0<=l[0]/\l[0]<=(l.length:Int) - 1)):jA l=false:=by
 cases av:jA l with
 | false=>rfl
 | true =>
  obtain⟨ad,h1,J,_⟩:=zu.1 av;exact absurd ⟨h1,J⟩ (h ad)
theorem arp(n:Nat)(l:C_ Int)(h:1<=n):h0 ((List.replicate n 0).set 0 (l.length:Int)) 1 (l.take (n - 1))=sd n l:=by
 have hlen:1+(l.take (n - 1)).length<=((List.replicate n (0:Int)).set 0 (l.length:Int)).length:=by
  rw[X4,AF3,H5];omega
 apply List.ext_getElem?;intro i;rw[Bt hlen];have r6:(l.take (n - 1)).length=min (n - 1) l.length:=H5;cases i with
 | zero =>
  rw[if_neg Aw,List.getElem?_set_self (by rw[AF3];omega)];simp[sd]
 | succ i =>
  by_cases U:i+1<n
  .rw[adS U];by_cases kz:i<l.length
   .rw[if_pos Aw,show i+1 - 1=i from rfl,List.getElem?_take_of_lt Aw,List.getElem?_eq_getElem kz];simp[kz]
   .rw[if_neg Aw,List.getElem?_set_ne Aw,List.getElem?_replicate,if_pos U];simp[List.getD,List.getElem?_eq_none (show l.length<=i by omega)]
  .rw[if_neg Aw,List.getElem?_eq_none (by rw[X4,AF3];omega),List.getElem?_eq_none (by rw[Tw h];omega)]
end o
namespace Go.Proofs.R
open Go Go.RowKit ba o
def aqr(n aV U:Int)(w:A_):Ei F.g3 #[.I n,.I aV,.I U] w λv w'=>(∃t:Bool,v = .bool t/\(t=true↔aV<=n/\n<=U))/\Ext w w':=by
 refine bk E.g3 ?_;refine I ?_;refine I_ (λg=>?_) (λg=>?_)
 .refine I ?_;exact⟨⟨_,rfl,by rw[decide_eq_true_eq];exact⟨λh=>⟨g,h⟩,λh=>h.2⟩⟩,Ext.refl _⟩
 .refine I ?_;exact⟨⟨false,rfl,by simp only[Bool.false_eq_true,false_iff];exact λh=>g h.1⟩,Ext.refl _⟩
def ail(n:Int)(w:A_):Ei F.u2 #[.I n] w λv w'=>v = .bool (decide (n≠0))/\Ext w w':=by
 refine bk E.u2 ?_;refine I ?_;refine⟨?_,Ext.refl _⟩
 first | trivial | (congr 1;simp)
def aiD(v:B_)(l:C_ Int)(w:A_)(h:c3 w v l) :
  Ei F.j #[v,.func (.func F.u2) #[] #[]] w λbU w'=>bU = .I (mu (λn=>decide (n≠0)) l 0)/\Ext w w':=by
 obtain⟨bN,c1,rfl,bx⟩:=h.form;refine wo E.j ?_;refine oR ?_;refine I ?_;refine L_ 8 l.length [0,1,7] (λ_:Unit=>[]) () (λk _ w'=>Ext w w'/\mu (λn:Int=>decide (n≠0)) l 0=mu (λn:Int=>decide (n≠0)) (l.drop k) k) a6 a6 ⟨Ext.refl _,CC⟩ ?_;rintro k _ S az hk ⟨ai,aP⟩;have J:=h.ext Flat.ext ai;refine I ?_;apply I_<;>intro g1
 .have a1:k<l.length:=Aw
  obtain⟨a,rfl⟩:=h.addr;rw[P7 a1] at aP;refine I ?_;refine V_ (first:=[]) (cap:=[]) Cx (ail l[k] az) ?_;rintro _ aM ⟨rfl,ag⟩;by_cases aj:l[k]≠0
  .rw[if_pos (by simpa using aj)] at aP;rw[decide_eq_true aj];refine I ?_;exact⟨by rw[aP],ai.trans ag⟩
  .rw[if_neg (by simpa using aj)] at aP;rw[decide_eq_false aj];refine I ?_;exact⟨a1,aJ,(),trivial,ai.trans ag,aP⟩
 .refine I ?_;exact⟨by rw[aP,AE9 Aw];rfl,ai⟩
def ahY(v:B_)(l:C_ Int)(w:A_)(h:c3 w v l) :
  Ei F.h #[v,.func (.func F.u2) #[] #[]] w λbU w'=>bU = .bool (l.any λn=>decide (n≠0))/\Ext w w':=by
 refine wo E.h ?_;refine oR ?_;refine I ?_;refine J_ (aiD v l w h) ?_;rintro _ az ⟨rfl,ai⟩;refine I ?_;refine⟨?_,ai⟩;congr 1;exact Bool.eq_iff_iff.2 (by rw[decide_eq_true_eq];exact JI)
theorem Yy(v:B_)(l:C_ Int)(w:A_)(h:c3 w v l)(aE:l.length<=100000):Ei F.g0 #[v] w λu w'=>u = .bool (jA l)/\Ext w w':=by
 obtain⟨ei,eZ,rfl,fa⟩:=h.form;refine bk E.g0 ?_;refine I ?_;apply I_<;>intro g1
 .refine I ?_;exact⟨by rw[acB λad=>by omega],Ext.refl _⟩
 have ad:0<l.length:=Aw
 obtain⟨a,rfl⟩:=h.addr ad;refine I ?_
 try (refine K_ 0 rfl Aw ?_;refine I ?_)
 refine J_ (aqr _ _ _ w) ?_;rintro _ w1 ⟨⟨t,rfl,aB⟩,af⟩;cases t with
 | false =>
  refine I ?_;exact⟨by rw[acB λ_ h=>by have:=aB.2 h;cases this],af⟩
 | true =>
 have av:=aB.1 rfl;have fo:=h.ext Flat.ext af;refine I ?_
 try (refine K_ 0 rfl Aw ?_;refine I ?_)
 refine _0 (k:=.i64) (1+l[0].toNat) fo (by simp[dc,bE];omega) Aw λae c au=>?_;refine I ?_;refine J_ (ahY _ (l.drop (1+l[0].toNat)) w1 (by have:=au.len.1;exact au)) ?_;rintro _ az ⟨rfl,ai⟩;refine I ?_;exact⟨by rw[aoX ad av.1 av.2],af.trans ai⟩
def Yz(v:B_)(l:C_ Int)(w:A_)(h:c3 w v l)(aE:l.length<=100000) :
  Ei F.g2 #[v] w λu w'=>iy w.heap.size w' u (jB l)/\Ext w w':=by
 obtain⟨ei,eZ,rfl,fa⟩:=h.form;refine bk E.g2 ?_;refine I ?_;refine J_ (Yy _ l w h aE) ?_;rintro _ w1 ⟨rfl,af⟩;by_cases av:jA l=true;rotate_left
 .have Bj:jA l=false:=by simpa using av
  rw[Bj];refine I ?_;exact⟨by rw[acD av];exact aK.nil _ _ _ _ _,af⟩
 rw[av];obtain⟨ad,h1,J,ab⟩:=zu.1 av;obtain⟨a,rfl⟩:=h.addr ad;have fo:=h.ext Flat.ext af;refine I ?_
 try (refine K_ 0 rfl Aw ?_;refine I ?_)
 refine _y l[0].toNat Aw Aw ?_;intro az bP c8 ai ao;have dy:iy w.heap.size az (.slice (some ⟨bP,0,none⟩) l[0].toNat l[0].toNat) (List.replicate l[0].toNat 0):=aK.sF _ ao (by have:=af.size;omega) (G7 _) (λ_=>rfl) CC (by rw[AF3];unfold maxLen;omega);refine I ?_;intro aM ag;have gT:=fo.ext Flat.ext (ai.trans ag);have ez:=dy.ext ag;refine I ?_
 try (refine K_ 0 rfl Aw ?_;refine I ?_)
 try (refine K_ 0 rfl Aw ?_;refine I ?_)
 refine AD9 (k:=.i64) (k':=.i64) (k'':=.i64) 1 (1+l[0].toNat) gT (by simp[oY]) (by simp[dc,bE];omega) (by simp[dc,bE];omega) Aw Aw λae au=>?_;rw[show 1+l[0].toNat - 1=l[0].toNat from Aw] at au ⊢;refine I ?_;refine _b (p:=0) ez au (by simp only[dc,bE];rfl) (by simp only[dc,bE];rfl) (λ_=>rfl) (by rw[AF3];omega) Cx Cx λu aR dT dj=>?_;have aO:=(af.trans ai).trans ag;refine I ?_;refine⟨?_,dT.ext aO (by have:=af.size;omega)⟩;have kz:=ao0 av ad;rw[<-SS av ad,MT Aw] at dj
 have:h0 (List.replicate l[0].toNat 0) 0 (jB l)=jB l:=by
  unfold h0;rw[AH8,AF8,AE9 (by rw[AF3];omega),S5]
 rw[this] at dj;exact dj
def Yx(n:Nat)(v:B_)(l:C_ Int)(w:A_)(h:c3 w v l)(aw:1<=n/\n<=100000) :
  Ei F.g1 #[.I n,v] w λu w'=>iy w.heap.size w' u (sd n l)/\Ext w w':=by
 obtain⟨ei,eZ,rfl,fa⟩:=h.form;refine bk E.g1 ?_;refine I ?_;refine _y n Aw Aw ?_;intro az bP c8 ai ao;have dy:iy w.heap.size az (.slice (some ⟨bP,0,none⟩) n n) (List.replicate n 0):=aK.sF _ ao Aw (G7 _) (λ_=>rfl) CC (by rw[AF3];unfold maxLen;omega);have eo:=h.ext Flat.ext ai;clear ao;refine I ?_
 try (refine K_ 0 rfl Aw ?_;refine I ?_)
 refine _z (k:=0) dy (by rw[AF3];omega) λaM fF ez=>?_;have aO:Ext w aM:=fF.ext ai c8;have gT:=h.ext Flat.ext aO;refine I ?_;refine AD8 (k:=.i64) 1 (kF ez) (by simp[oY]) (by rw[X4,AF3];omega) λae c au=>?_;refine I ?_;refine _b (p:=1) ez gT (by simp only[dc,bE];rfl) (by simp only[dc,bE];rfl) au (by rw[X4,AF3];omega) Cx Cx λu aR dT dj=>?_;rw[arp n l aw.1] at dj;refine I ?_;exact⟨dj,dT.ext aO c8⟩
def ain(v:B_)(l:C_ Int)(w:A_)(h:c3 w v l)(aE:l.length<=100000) :
  Ei F.g4 #[v] w λu w'=>((qD l=none/\u = .tuple #[.slice none 0 0,.I 0,.bool false])\/(∃r x ae c,qD l=some (r,x)/\u = .tuple #[.slice ae r.length c,.I x,.bool true]/\iy w.heap.size w' (.slice ae r.length c) r))/\Ext w w':=by
 obtain⟨ei,eZ,rfl,fa⟩:=h.form;refine bk E.g4 ?_;refine I ?_;refine J_ (Yz _ l w h aE) ?_;rintro u w1 ⟨kU,af⟩;have fl:=kF kU;obtain⟨ca,ci,rfl,_⟩:=fl.form;refine I ?_;apply I_<;>intro g1
 .have U:jB l=[]:=AF7 Aw;refine I ?_;exact⟨.inl ⟨by unfold qD;rw[U],aJ⟩,af⟩
 have kz:=K3 l;obtain⟨x,r,U⟩:∃x r,jB l=x :: r:=by
  cases an:jB l with
  | nil=>rw[an] at g1;simp at g1
  | cons x r=>exact⟨x,r,rfl⟩
 obtain⟨gu,rfl⟩:=fl.addr;refine I ?_;intro az ai;have Dc:=fl.ext Flat.ext ai;have eo:=h.ext Flat.ext (af.trans ai);refine I ?_;refine _0 (k:=.i64) 1 Dc rfl Aw λae c au=>?_;have Gk:(jB l).drop 1=r:=by rw[U];rfl
 have zo:(jB l)[0]' Aw=x:=by simp[U]
 rw[Gk] at au;refine I ?_
 try (refine K_ 0 rfl Aw ?_;refine I ?_)
 refine J_ (Yx l.length _ r az (by have:=au.len.1;exact au) Aw) ?_;rintro u aM ⟨ez,ag⟩;obtain⟨Ts,yK,rfl,_⟩:=(kF ez).form;refine⟨ag,?_⟩;refine I ?_;exact⟨.inr ⟨sd l.length r,x,Ts,yK,by unfold qD;rw[U],by rw[zo],aK.low (af.trans ai).size ez⟩,(af.trans ai).trans ag⟩
def aim(v:B_)(l:C_ Int)(x:Int)(w:A_)(h:c3 w v l)(aE:l.length<=100000) :
  Ei F.J1 #[v,.I x] w λu w'=>((nN l x=none/\u = .tuple #[.slice none 0 0,.bool false])\/(∃r ae c,nN l x=some r/\u = .tuple #[.slice ae r.length c,.bool true]/\iy w.heap.size w' (.slice ae r.length c) r))/\Ext w w':=by
 obtain⟨ei,eZ,rfl,fa⟩:=h.form;refine bk E.J1 ?_;refine I ?_;refine J_ (Yy _ l w h aE) ?_;rintro _ w1 ⟨rfl,af⟩;by_cases av:jA l=true;rotate_left
 .have Bj:jA l=false:=by simpa using av
  rw[Bj];refine I ?_;exact⟨.inl ⟨by unfold nN;rw[if_neg (λe=>av e.1)],aJ⟩,af⟩
 rw[av];obtain⟨ad,h1,J,ab⟩:=zu.1 av;obtain⟨a,rfl⟩:=h.addr ad;have fo:=h.ext Flat.ext af;have bb:l.headD 0=l[0]:=by cases l with | nil=>simp at ad | cons n r=>rfl
 refine I ?_;apply I_<;>intro g1
 .refine I ?_;exact⟨.inl ⟨by unfold nN;rw[if_neg (λe=>e.2 (by rw[bb];omega))],aJ⟩,af⟩
 refine I ?_;refine J_ (Yz _ l w1 fo aE) ?_;rintro u az ⟨dy,ai⟩;obtain⟨ca,ci,rfl,_⟩:=(kF dy).form;have kz:=K3 l;refine I ?_;intro aM bV eX ag a8;refine I ?_;refine S_ (y:=x) (dy.ext ag) a8 rfl (λ_=>rfl) ht Aw (by unfold maxLen;omega) (by have:=ai.size;have:=ag.size;omega) λaN c d aR dj mY=>?_;have bo:Ext w1 aR:=(ai.trans ag).grown mY λi U=>(dy.lt i U).1;refine I ?_;refine J_ (Yx l.length _ _ aR (kF dj) Aw) ?_;rintro u bg ⟨dC,ar⟩;obtain⟨Ts,yK,rfl,_⟩:=(kF dC).form;refine I ?_;exact⟨.inr ⟨_,Ts,yK,by unfold nN;rw[if_pos ⟨av,by rw[bb];omega⟩],rfl,aK.low (af.trans bo).size dC⟩,(af.trans bo).trans ar⟩
def qa(w:A_)(b:Nat)(m:o.Model):Prop := ∃zs,w.heap[b]? = some (.cells zs.toArray T.gM)/\pC w zs m
theorem qa.ext{w w':A_}{b:Nat}{m:o.Model}(he:Ext w w')(h:qa w b m):qa w' b m:=let ⟨zs,h1,J⟩:=h; ⟨zs,he.obj h1,J.ext he⟩
def akz(cs:C_ B_)(m:o.Model)(w:A_)(h:dh w cs m)(aG:m.cr)(aS:gQ w) :
  Ei F.d9 #[.agg cs.toArray] w λu w'=>((¬(o.check m).cJ=0/\u = .tuple #[.pointer none,.bool false])\/((o.check m).cJ=0/\∃b,u = .tuple #[.pointer (some ⟨b,0,none⟩),.bool true]/\w.heap.size<=b/\qa w' b m))/\Ext w w':=by
 have b2:=h;obtain⟨bZ,bz,bN,c1,bT,c2,bW,bw,b1,bD,rfl,_⟩:=h.form;refine bk E.d9 ?_;refine I ?_;intro w1 bx cN af al;refine I ?_;refine J_ (zx _ m w1 (b2.ext af) aG (aS.ext af)) ?_;rintro _ az ⟨rfl,ai⟩;replace al:=ai.obj al;have aD:=af.trans ai;refine I ?_;refine Y_ (v:=.I (o.check m).cJ) rfl ?_;refine I ?_;refine I_ (λhk=>?_) (λhk=>?_);rotate_left
 .refine I ?_;exact⟨.inl ⟨hk,aJ⟩,aD⟩
 have A9:lyz m=o.layout m:=zw hk;refine I ?_;intro aM ag;replace al:=ag.obj al;have aO:=aD.trans ag;refine I ?_;refine J_ (He _ m aM (b2.ext aO) aG (aS.ext aO)) ?_;rintro _ aR ⟨⟨ys,rfl,AO⟩,aq⟩;rw[A9] at AO;have bo:=aO.trans aq;refine⟨aq,?_⟩;refine I ?_;refine J_ (xA _ m aR (b2.ext bo) aG) ?_;rintro bK bg ⟨anf,ar⟩;have bC:=bo.trans ar;refine⟨aq.trans ar,?_⟩;refine I ?_;refine J_ (zK _ m bg (b2.ext bC) (gU hk).lim) ?_;rintro vr bp ⟨ui,aC⟩;have b5:=bC.trans aC;refine⟨(aq.trans ar).trans aC,?_⟩;have abd:=anf.ext aC;have Da:=AO.here.ext (ar.trans aC);obtain⟨eD,d0,dI,d1,ec,d2,ep,d3,eM,d4,rfl,_⟩:=Da.form;obtain⟨ca,ci,rfl,_⟩:=(aK.e4 (enc:=cP.enc) (λ_=>rfl) abd).form;obtain⟨e1,gh,rfl,_⟩:=(aK.e4 (enc:=o.Ref.enc) (λ_=>rfl) ui).form;refine I ?_;intro bH ia hi bc b3;have cL:=b5.trans bc;refine I ?_;exact⟨.inr ⟨hk,ia,aJ,by have:=b5.size;omega,_,b3,_,_,_,_,rfl,b2.ext cL,Da.ext bc,(aK.e4 (enc:=cP.enc) (λ_=>rfl) (abd.ext bc)),(aK.e4 (enc:=o.Ref.enc) (λ_=>rfl) (ui.ext bc))⟩,cL⟩
def Zy(b:Nat)(m:o.Model)(ref:Int)(q p k:Nat)(w:A_)(h:qa w b m)(br:fe m ref q p k) :
  Ei F.ae #[.pointer (some ⟨b,0,none⟩),.I ref] w λu w'=>(∃fE fN aN fh,u = .agg ((bM m p k).enc (.slice fE (bM m p k).guard.length fN) (.slice aN (bM m p k).bL.length fh)).toArray/\eW w (.slice fE (bM m p k).guard.length fN) (bM m p k).guard/\lP w (.slice aN (bM m p k).bL.length fh) (bM m p k).bL)/\Ext w w':=by
 obtain⟨zs,ak,h⟩:=h;obtain⟨eD,d0,dI,d1,ec,d2,ep,d3,eM,d4,bZ,bz,bN,c1,bT,c2,bW,bw,b1,bD,ca,ci,e1,gh,rfl,_,_,_,_,_,_,_,_,_,_,ab,aP,bA⟩:=h.form;have av:=br.at_.U;have au:=br.at_.au;have hz:=br.at_.hk;have kc:=br.at_.ip;obtain⟨r,rfl⟩:=Nb br.aV;have aT:r<(o.refs m).length:=br.U;have fm:(o.refs m)[r].inst=(q:Int):=br.at_.nk;have ke:(o.refs m)[r].cmd=(k:Int):=br.at_.pU;obtain⟨iN,rfl⟩:=bA.addr;obtain⟨gu,rfl⟩:=aP.addr;obtain⟨a3,rfl⟩:=ab.addr;obtain⟨kC,bY,dQ,c5,eU,eA⟩:=ab.at p au;obtain⟨vT,u4,rfl,vP⟩:=eA.form;obtain⟨ac,rfl⟩:=eA.addr;obtain⟨eI,eY,va,e0,ga,e2⟩:=eA.at k hz;obtain⟨fE,fN,rfl,_⟩:=ga.form;obtain⟨oC,n2,rfl,_⟩:=e2.form;unfold dv.enc at c5;unfold dG.enc at e0;refine bk E.ae ?_;refine I ?_;intro w1 bP c8 af ao;replace ak:=af.obj ak;have Qx:=bA.ext Flat.ext af;refine I ?_;intro az cQ fD ai bn;have tP:(o.refs m)[r].enc=[.I q,.I k]:=by unfold o.Ref.enc;rw[fm,ke]
 rw[tP] at bn;have z4:=cq ao;replace ao:=ai.obj ao;replace ak:=ai.obj ak;have aD:=af.trans ai;have AN:=aP.ext Flat.ext aD;have DE:=c5.ext aD;have Gf:=e0.ext aD;clear Qx;refine I ?_;intro aM ag;replace ao:=ag.obj ao;replace bn:=ag.obj bn;replace ak:=ag.obj ak;replace AN:=AN.ext Flat.ext ag;replace DE:=DE.ext ag;replace Gf:=Gf.ext ag;refine I ?_;refine K_ p (by rw[kc]) au ?_;refine I ?_;intro aR dT bI;refine I ?_;have ha:=sJ au hz;exact⟨⟨fE,fN,oC,n2,by rw[ha];rfl,by rw[ha];exact ga,by rw[ha];exact e2⟩,dT.ext (aD.trans ag) Aw⟩
def P4(b:Nat)(m:o.Model)(c:Nat)(w:A_)(h:qa w b m)(aL:eE m)(an:c<m.aA.length) :
  Ei F.JH #[.pointer (some ⟨b,0,none⟩),.I c] w λu w'=>u = .tuple #[.I (b6 m c),.I (b6 m c+(1+gF m c):Nat)]/\Ext w w':=by
 obtain⟨zs,ak,h⟩:=h;obtain⟨eD,d0,dI,d1,ec,d2,ep,d3,eM,d4,bZ,bz,bN,c1,bT,c2,bW,bw,b1,bD,ca,ci,e1,gh,rfl,_,_,dF,cR,cA,eN,fs,ad,h1,J,ab,aP,bA⟩:=h.form;obtain⟨je,eH⟩:=qc an;have hT:=(aL.chan _ (E2 an)).cap;have eI:=oT an;have s3:=n1 an;have jN:di m<=64:=iH aL;obtain⟨db,rfl⟩:=cR.addr;obtain⟨nW,rfl⟩:=J.addr;have dK:=(J.at c an).cells;refine bk E.JH ?_;refine I ?_;intro w1 af;refine I ?_;refine⟨?_,af⟩;rw[eH,show(((b6 m c+(1+gF m c):Nat)):Int)=(b6 m c:Int)+1+m.aA[c].cap from Aw]
end Go.Proofs.R
namespace o
def apv(m:Model):(layout m).aA.length=m.aA.length:=by simp[layout,Bz,dM,uM]
end o
namespace Go.Proofs.R
open Go Go.RowKit ba o
theorem z1.ext{w w':A_}{cs:C_ B_}{l:C_ Int}(he:Ext w w')(h:z1 w cs l):z1 w' cs l:=let ⟨v,h1,J⟩:=h; ⟨v,h1,J.ext Flat.ext he⟩
def akl(cz dp q p:Nat)(v:B_)(m:o.Model)(s:C_ Int)(w:A_)(bR:w.heap[cz]? = some (.cells #[.pointer (some ⟨dp,0,none⟩),.I q,v] T.pE))(ew:qa w dp m)(fx:(o.check m).cJ=0)(aj:c3 w v s)(ax:o.Fits m s)(hIn:fL m q p) :
  Ei F.ge #[.pointer (some ⟨cz,0,none⟩)] w λu w'=>(∃es,u = .agg es.toArray/\Oi w' es (cX m s q))/\Ext w w':=by
 obtain⟨zs,ak,iC⟩:=ew;obtain⟨eD,d0,dI,d1,ec,d2,ep,d3,eM,d4,bZ,bz,bN,c1,bT,c2,bW,bw,b1,bD,ca,ci,e1,gh,rfl,_,_,dF,cR,cA,_,_,ad,h1,J,ab,aP,bA⟩:=iC.form;obtain⟨ei,eZ,rfl,fa⟩:=aj.form;have aL:=gU fx;have hlen:=ax.len;have jN:di m<=64:=iH aL;have gj:=aL.gj;have awZ:(o.layout m).aA.length=m.aA.length:=apv m;have kz:(o.insts m).length<=30:=by have:=vI m;have:=aL.procs;omega
 clear iC bA;refine bk E.ge ?_;refine I ?_;intro w1 bP c8 af ao;refine I ?_;intro az fC al0 ai dW;have ayX:=cq ao;have U3:=cq dW;have z12:=ai.size;have FT:∀{W},Mod (λi=>i=fC) az W->Ext w W:=λh=>af.trans (h.ext ai λi U e=>Aw);have ZY:∀{W},Mod (λi=>i=fC) az W->W.heap[bP]? = _:=λh=>(h.ext ai λi U e=>Aw).obj ao;have K0:∀{W},Ext w W->W.heap[cz]? = _:=λe=>e.obj bR;have DK:∀{W},Ext w W->W.heap[dp]? = _:=λe=>e.obj ak;have aD:=af.trans ai;replace bR:=aD.obj bR;replace ak:=aD.obj ak;clear ao;refine I ?_;refine L_ 24 m.vars.length [0,2,3,22,23] (λ_:fk=>[]) (none,0,0) (λk v W=>(Mod (λi=>i=fC) az W/\W.heap[fC]? = some (.cells #[.slice v.1 v.2.1 v.2.2,.slice none 0 0,.slice none 0 0,.slice none 0 0,.I 0] T.v))/\∃cb:C_ (fv 1),cb.length=k/\pA T.b 1 az.heap.size W (.slice v.1 v.2.1 v.2.2) cb/\∀i (h1:i<cb.length) (J:i<(cX m s q).vars.length),z1 w cb[i].1 (cX m s q).vars[i]) a6 a6 ⟨⟨Mod.refl _ _,dW⟩,[],rfl,aK.nil _ _ _ _ _,λi h=>absurd h (E3 _)⟩ ?_;clear dW bR ak;rintro k v S bp hk ⟨⟨jg,dW⟩,cb,kA,dk,FP⟩;have hg:=FT jg;have bR:=K0 hg;have ak:=DK hg;refine I ?_;apply I_<;>intro g1
 .have b8:k<m.vars.length:=Aw
  obtain⟨a,rfl⟩:=h1.addr;have dN:=sH m.vars[k] m.scalars;have oo:=sl b8;have eI:=nC m;obtain⟨dP,gn⟩:=rB b8;have dK:=((h1.at k b8).cells).ext hg;refine I ?_;intro wn pF sR fc amF;refine I ?_;intro bH dz gZ;have bc:Ext bp bH:=dz.ext fc sR;replace gZ:bH.heap[pF]? = some (.cells m.vars[k].enc.toArray T.m):=gZ;replace bR:=bc.obj bR;replace ak:=bc.obj ak;replace dW:=bc.obj dW;have dY:=dk.ext bc;have gd:=hg.trans bc;have hl:Mod (λi=>i=fC) az bH:=jg.trans bc.mod;clear dz fc amF dK dk;obtain⟨a0,rfl⟩:=dF.addr;have Nc:=dF.ext Flat.ext gd;refine I ?_;intro cB bt;replace dW:=bt.obj dW;replace bR:=bt.obj bR;replace ak:=bt.obj ak;replace gZ:=bt.obj gZ;have gy:=dY.ext bt;have hR:=gd.trans bt;have jh:Mod (λi=>i=fC) az cB:=hl.trans bt.mod;have DI:=aj.ext Flat.ext hR;clear Nc dY;refine I ?_;refine J_ (CE m.vars[k] _ m.scalars cB (ad.ext hR)) ?_;rintro _ cD ⟨rfl,b0⟩;refine⟨b0,?_⟩;refine I ?_;refine _W (k:=.i64) (k':=.i64) (gb m k) (gb m k+(o.cells m.vars[k] m.scalars).toNat) aj (by simp[dc,bE,gn]) (by simp[dc,bE,gn];omega) Aw Aw λae c au=>?_;rw[show gb m k+(o.cells m.vars[k] m.scalars).toNat - gb m k=(o.cells m.vars[k] m.scalars).toNat from Aw] at au ⊢;have xw:=Ur (s:=s) (inst:=q) b8;refine I ?_;intro ft mm xa ef jd;refine⟨b0.trans ef,?_⟩;have N7:=b0.size;have ayN:=ef.size;have PT:Ext cB ft:=b0.trans ef;have o9:=gy.ext PT;have z58:=jh.size;refine S_ (enc:=lA) (y:=(⟨[.slice ae (o.cells m.vars[k] m.scalars).toNat c],rfl,by simp[Value.oneCell']⟩:fv 1)) o9 jd rfl k8 yN Aw (by unfold maxLen;omega) Aw λaN n iY hf aT vu=>?_;have aaE:=o9.box vu (PT.obj dW) BS;have r7:=(jh.trans PT.mod).own vu λi U=>(o9.lt i U).1;clear dW o9 gy jd gZ bR ak;refine I ?_;intro jX kD gw;refine I ?_;refine⟨b8,aJ,(aN,n,iY),trivial,⟨r7.trans (kD.mod rfl),gw⟩,_,by simp[kA],aT.wr kD U3,λi h1 J=>?_⟩;by_cases U:i<cb.length
  .rw[AH3 U];exact FP i U J
  .have e:i=cb.length:=by simp at h1;omega
   subst e;rw[AH4 (E1 _)];obtain⟨_,aoz⟩:=List.getElem?_eq_some_iff.1 xw;subst kA;rw[aoz];exact⟨.slice ae _ c,CC,au⟩
 have my:m.vars.length=k:=Aw
 subst my;obtain⟨va,oA,fh⟩:=v;have ayH:=cq dW;have z26:=jg.size;have nF:∀{W},Mod (λi=>i<az.heap.size) bp W->Ext w W->yp W (.slice va oA fh) (cX m s q).vars:=λ{W} h he =>
  bm.D1 (by rw[kA,Ny]) (aK.iR k8 (aK.mod dk h λi U a=>by have:=(dk.lt i U).1;omega)) λi h1 J=>(FP i h1 J).ext he
 clear dk FP kA;have aag:∀{W},Mod (λi=>i=fC) bp W->Mod (λi=>i=fC) az W:=λh=>jg.trans h;refine I ?_;clear bR ak;refine L_ 73 m.aA.length [0,2,3,71,72] (λ_:fk=>[]) (none,0,0) (λk v W=>(Mod (λi=>i=fC) bp W/\W.heap[fC]? = some (.cells #[.slice va oA fh,.slice v.1 v.2.1 v.2.2,.slice none 0 0,.slice none 0 0,.I 0] T.v))/\aK bX T.a 1 bp.heap.size W (.slice v.1 v.2.1 v.2.2) (((cX m s q).lens).take k)) a6 a6 ⟨⟨Mod.refl _ _,dW⟩,by simpa using aK.nil _ _ _ _ _⟩ ?_;clear dW;rintro k v S bH hk ⟨⟨hl,dW⟩,dY⟩;have gd:=FT (aag hl);have bR:=K0 gd;have ak:=DK gd;refine I ?_;apply I_<;>intro g1
 .have b8:k<m.aA.length:=Aw
  have oo:=wL b8;have eI:=nC m;obtain⟨dP,eH⟩:=qc b8;obtain⟨db,rfl⟩:=cR.addr;obtain⟨ahe,rfl⟩:=aj.addr;have kB:=aj.ext Flat.ext gd;have zH:=cR.ext Flat.ext gd;refine I ?_;intro cB bt;replace dW:=bt.obj dW;replace bR:=bt.obj bR;replace ak:=bt.obj ak;have gy:=dY.ext bt;have jh:Mod (λi=>i=fC) bp cB:=hl.trans bt.mod;have DI:=kB.ext Flat.ext bt;clear kB dY zH;refine I ?_;refine K_ (b6 m k) (by rw[eH]) Aw ?_;refine I ?_;intro cD b9 lZ b0 cG;refine⟨b0,?_⟩;have gx:b6 m k<s.length:=Aw
  have xw:=afr (inst:=q) b8 gx;have anq:(((cX m s q).lens).take k).length<=12:=by rw[H5,Nx];omega
  have fy:=gy.ext b0;have U1:=jh.size;have N7:=b0.size;refine S_ (y:=s[b6 m k]) fy cG rfl (λ_=>rfl) ht Aw (by unfold maxLen;omega) Aw λaN n c et ou mX=>?_;have amw:=fy.box mX (b0.obj dW) BS;have pN:=(jh.trans b0.mod).own mX λi U=>(fy.lt i U).1;clear dW fy gy cG bR ak;refine I ?_;intro ft hZ jd;refine I ?_;refine⟨b8,aJ,(aN,n,c),trivial,⟨pN.trans (hZ.mod rfl),jd⟩,?_⟩;rw[AJ6,xw];exact ou.mod (hZ.mod (A:=λi=>i=fC) rfl) λi U e=>by have:=(ou.lt i U).1;omega
 have r5:m.aA.length=k:=Aw
 rw[MT (by rw[Nx];omega)] at dY;have FY:er bp (λw=>c3 w (.slice v.1 v.2.1 v.2.2) (cX m s q).lens) bH:=aK.new (λ_=>rfl) dY;obtain⟨iS,mD,sG⟩:=v;have ayJ:=cq dW;have z67:=hl.size;have als:∀{W},Mod (λi=>i=fC) bH W->Mod (λi=>i=fC) az W:=λh=>aag (hl.trans h);clear dY;refine I ?_;clear bR ak;refine L_ 99 m.procs.length [0,2,3,97,98] (λ_:fk=>[]) (none,0,0) (λk v W=>(Mod (λi=>i=fC) bH W/\W.heap[fC]? = some (.cells #[.slice va oA fh,.slice iS mD sG,.slice none 0 0,.slice v.1 v.2.1 v.2.2,.I 0] T.v))/\∃bs:C_ Nat,bs.length=k/\oH m bH.heap.size bs (λp=>kP m s p (m.procs[p]?.map (·.cn) |>.getD 0) 0) (.slice v.1 v.2.1 v.2.2) W) a6 a6 ⟨⟨Mod.refl _ _,dW⟩,[],rfl,⟨aK.nil _ _ _ _ _,(λb h=>nomatch h),List.nodup_nil,(λp h=>nomatch h)⟩⟩ ?_;clear dW;rintro k v S cB hk ⟨⟨jh,dW⟩,bs,F8,w5⟩;have hR:=FT (als jh);have bR:=K0 hR;have ak:=DK hR;refine I ?_;apply I_<;>intro g1
 .have b8:k<m.procs.length:=Aw
  obtain⟨a,rfl⟩:=ab.addr;obtain⟨kC,bY,dQ,c5,eU,eA⟩:=ab.at k b8;obtain⟨D2,CJ,rfl,adm⟩:=eU.form;obtain⟨adJ,Yv,rfl,ac6⟩:=eA.form;have c9:=(aL.proc _ (E2 b8)).cn;replace c5:=c5.ext hR;refine I ?_;intro cD tG Dh b0 o2;replace dW:=b0.obj dW;have yS:=w5.ext b0;have mz:Mod (λi=>i=fC) bH cD:=jh.trans b0.mod;clear c5 w5 bR ak;refine I ?_;intro et cd;replace dW:=cd.obj dW;replace o2:=cd.obj o2;have C4:=yS.ext cd;have pN:Mod (λi=>i=fC) bH et:=mz.trans cd.mod;refine I ?_;refine _y m.procs[k].cn.toNat Aw Aw ?_;intro ft mm xa ef jd;refine⟨ef,?_⟩;refine I ?_;intro hf Cy tT dH ic;refine⟨ef.trans dH,?_⟩;have oc:=ef.trans dH;have FO:=C4.ext oc;have anc:=y8 (m:=m) (bs:=bs) Aw;have awa:=aL.procs;have ayK:=pN.size;have ayE:=oc.size;refine S_ (y:=(mm,m.procs[k].cn.toNat)) FO.row ic rfl (λ_=>rfl) ajp Aw (by unfold maxLen;omega) Aw λaN n c jX vD Rp=>?_;have awC:=FO.row.box Rp (oc.obj dW) BS;have uf:=(pN.trans oc.mod).own Rp λi U=>(FO.row.lt i U).1;have alb:oH m bH.heap.size (bs++[mm]) _ (.slice aN n c) jX:=FO.snoc Aw (by subst F8;exact vD) Rp Aw (λp au e=>by have:=cq (C4.cy p au);omega) (by
   subst F8;rw[Ya];simp only[List.getElem?_eq_getElem b8,Option.map_some,Option.getD_some];exact dH.obj jd)
  clear dW FO C4 yS ic;refine I ?_;intro sm zn o2;refine I ?_;exact⟨b8,aJ,(aN,n,c),trivial,⟨uf.trans (zn.mod rfl),o2⟩,bs++[mm],by simp[F8],alb.mod (zn.mod (A:=λi=>i=fC) rfl) λi e=>Aw⟩
 have vy:m.procs.length=k:=Aw
 subst vy;obtain⟨NS,Ti,Fm⟩:=v;have ayL:=cq dW;have z78:=jh.size;have w6:∀{W},Mod (λi=>i∈bs) cB W->Ext w W:=λh=>h.ext hR λi U e=>by have:=w5.low i e;have:=af.size;omega
 have alf:¬fC∈bs:=λh=>by have:=w5.low _ h;omega
 have abo:∀{W},Mod (λi=>i∈bs) cB W->W.heap[fC]? = _:=λh=>h.obj alf dW;refine I ?_;refine L_ 120 (o.insts m).length [0,2,3,118,119] (λ_:Unit=>[]) () (λk _ W=>Mod (λi=>i∈bs) cB W/\oH m bH.heap.size bs (λp=>kP m s p (m.procs[p]?.map (·.cn) |>.getD 0) k) (.slice NS Ti Fm) W) a6 a6 ⟨Mod.refl _ _,w5⟩ ?_;clear w5 dW bR ak;rintro k _ S cD hk ⟨mz,yS⟩;have fA:=w6 mz;have bR:=K0 fA;have ak:=DK fA;have dW:=abo mz;refine I ?_;apply I_<;>intro g1
 .have b8:k<(o.insts m).length:=Aw
  have J7:=aP.ext Flat.ext fA;obtain⟨gu,rfl⟩:=aP.addr;have nI:=rl _ (E2 b8);obtain⟨eQ,av,Bk,q1⟩:=Br nI;have Dt:(o.insts m)[k]?.map (·.proc)=some (eQ:Int):=by rw[List.getElem?_eq_getElem b8,AG3,Bk]
  obtain⟨d,GR,amS⟩:=ax.loc b8 av q1;obtain⟨jT,GS⟩:=List.getElem?_eq_some_iff.1 GR;obtain⟨dP,gn⟩:=ow b8;obtain⟨nY,rfl⟩:=aj.addr;obtain⟨a2,rfl⟩:=cA.addr;have c9:=(aL.proc _ (E2 av)).cn;refine I ?_;intro wn Pb aas fc amG;refine I ?_;intro et pR o3;have cd:Ext cD et:=pR.ext fc aas;replace o3:et.heap[Pb]? = some (.cells #[.I eQ,.I (o.insts m)[k].elem] T.d):=by rw[<-Bk];exact o3
  replace dW:=cd.obj dW;replace bR:=cd.obj bR;replace ak:=cd.obj ak;have C4:=yS.ext cd;have pN:Mod (λi=>i∈bs) cB et:=mz.trans cd.mod;clear pR fc amG J7 yS;refine I ?_;intro ft ef;replace dW:=ef.obj dW;replace ak:=ef.obj ak;replace bR:=ef.obj bR;replace o3:=ef.obj o3;have Qm:=C4.ext ef;have DA:Mod (λi=>i∈bs) cB ft:=pN.trans ef.mod;have abY:=aj.ext Flat.ext ((fA.trans cd).trans ef);have ayj:=cA.ext Flat.ext ((fA.trans cd).trans ef);clear C4;have anc:=y8 (m:=m) (bs:=bs) Aw;have kV:=aK.iR (enc:=AB) (sz:=1) (λ_=>rfl) Qm.row;obtain⟨nV,rfl⟩:∃a,NS=some a:=kV.addr;have kT:=kV.len.1;obtain⟨awM,abc⟩:=List.getElem?_eq_some_iff.1 (Gp (m:=m) (bs:=bs) (k:=eQ) Aw av);have hW:d<m.procs[eQ].cn.toNat:=Aw
  have Z6:(q7 m bs)[eQ].1=bs[eQ]:=by rw[abc]
  have Qr:(q7 m bs)[eQ].2=m.procs[eQ].cn.toNat:=by rw[abc]
  have hblk:=Qm.cy eQ Aw;simp only[List.getElem?_eq_getElem av,Option.map_some,Option.getD_some] at hblk;rw[<-Z6] at hblk;have hM:=wH m s eQ m.procs[eQ].cn k;have R5:=E6 (m:=m) (s:=s) (p:=eQ) (k:=k) hW;have dN:=O9 m s eQ d k;have aw8:c3 ft (.slice (some ⟨(q7 m bs)[eQ].1,0,none⟩) (q7 m bs)[eQ].2 (q7 m bs)[eQ].2) (kP m s eQ m.procs[eQ].cn k):=Tm hblk (by rw[Qr,hM]) (by rw[hM];unfold maxLen;omega);have Gk:d<(kP m s eQ m.procs[eQ].cn k).length:=Aw
  obtain⟨_,R6⟩:=List.getElem?_eq_some_iff.1 R5;refine I ?_;refine K_ (cV m k) (by rw[gn]) (by rw[hlen];omega) ?_;refine I ?_;refine K_ d GS (by rw[Qr];exact hW) ?_;refine I ?_;refine K_ d GS (by rw[Qr];exact hW) ?_;refine I ?_;refine _H hblk (by rw[List.size_toArray,acy];omega) rfl λhf l5 ic=>?_;rw[acz (AG2 _),R6,<-X9 Dt GR hW] at ic;rw[Z6] at l5 ic;refine I ?_;refine⟨b8,aJ,(),trivial,DA.trans (l5.mod (E2 _)),Qm.step (q:=eQ) Aw l5 (by simp only[List.getElem?_eq_getElem av,Option.map_some,Option.getD_some];exact ic) λp au KI=>?_⟩;have abL:p<m.procs.length:=Aw
  simp only[List.getElem?_eq_getElem abL,Option.map_some,Option.getD_some];exact X8 (by rw[Dt];intro e;have:=Option.some.inj e;omega)
 have l1:(o.insts m).length=k:=Aw
 subst l1;have abA:Mod (λi=>i=fC) bH cD:=jh.comp mz (λi _ e=>e) λi U e=>by have:=yS.low i e;omega
 have RH:Mod (λi=>i=fC) bp cD:=hl.trans abA;have anB:Mod (λi=>i=fC) az cD:=jg.trans RH;have q3:=ZY anB;have alw:er bp (λw=>c3 w (.slice iS mD sG) (cX m s q).lens) cD:=FY.move abA (λi _ e=>Aw) λi _ e=>e;have dd:∀{W},Mod (λi=>i<bp.heap.size) cD W->yp W (.slice NS Ti Fm) (cX m s q).at_:=λ{W} ew=>(yS.mod ew λi e=>Aw).aqs F8 (Uq m s q) (λp au=>by
   simp only[List.getElem?_eq_getElem au,Option.map_some,Option.getD_some];exact⟨wH _ _ _ _ _,by have:=(aL.proc _ (E2 au)).cn;omega⟩) λp au=>by
   simp only[List.getElem?_eq_getElem au,Option.map_some,Option.getD_some];exact afq au
 have z9:=RH.size;clear FY yS ZY abo;have av:=hIn.av;have oo:=SK av;obtain⟨dP,gn⟩:=ow av;obtain⟨a2,rfl⟩:=cA.addr;have TN:=cA.ext Flat.ext fA;obtain⟨gu,rfl⟩:=aP.addr;have J7:=aP.ext Flat.ext fA;have nI:=rl _ (E2 av);obtain⟨gC,au,ho,q1⟩:=Br nI;have Kf:(mB m (o.insts m)[q]).length=1+m.procs[gC].vars.length:=by rw[q1,BI]
 obtain⟨a,rfl⟩:=ab.addr;obtain⟨kC,bY,dQ,c5,eU,eA⟩:=ab.at gC au;obtain⟨D2,CJ,rfl,adm⟩:=eU.form;obtain⟨adJ,Yv,rfl,ac6⟩:=eA.form;refine I ?_;intro et cd;replace dW:=cd.obj dW;replace ak:=cd.obj ak;replace bR:=cd.obj bR;replace q3:=cd.obj q3;have TM:=TN.ext Flat.ext cd;have ali:=J7.ext Flat.ext cd;clear TN J7;refine I ?_;intro ft Yb alY ef jd;refine⟨ef,?_⟩;refine I ?_;intro hf l5 ic;have dH:Ext et hf:=l5.ext ef alY;replace ic:hf.heap[Yb]? = some (.cells #[.I gC,.I (o.insts m)[q].elem] T.d):=by rw[<-ho];exact ic
 replace dW:=dH.obj dW;replace bR:=dH.obj bR;replace ak:=dH.obj ak;replace q3:=dH.obj q3;have r7:Mod (λi=>i=fC) cD hf:=cd.mod.trans dH.mod;have ayO:=r7.size;have mI:Ext w hf:=fA.trans (cd.trans dH);have ar7:=cA.ext Flat.ext mI;clear jd l5 ali TM;refine I ?_;intro jX fW;replace dW:=fW.obj dW;replace bR:=fW.obj bR;replace ak:=fW.obj ak;replace q3:=fW.obj q3;replace ic:=fW.obj ic;have uf:Mod (λi=>i=fC) cD jX:=r7.trans fW.mod;have oI:Ext w jX:=mI.trans fW;have aw9:=aj.ext Flat.ext oI;clear ar7;replace c5:=c5.ext oI;unfold dv.enc at c5;refine I ?_;intro sm lD;replace dW:=lD.obj dW;replace bR:=lD.obj bR;replace ak:=lD.obj ak;replace q3:=lD.obj q3;replace ic:=lD.obj ic;have KC:Mod (λi=>i=fC) cD sm:=uf.trans lD.mod;have zW:Ext w sm:=oI.trans lD;have axa:=aj.ext Flat.ext zW;replace c5:=c5.ext lD;refine I ?_;refine _W (k:=.i64) (k':=.i64) (cV m q+1) (cV m q+1+m.procs[gC].vars.length) aj (by simp[dc,bE,gn]) (by simp[dc,bE,gn]) Aw Aw λae c GN=>?_;rw[show cV m q+1+m.procs[gC].vars.length - (cV m q+1)=m.procs[gC].vars.length from Aw] at GN ⊢;refine I ?_;intro NV KT AV;have n17:Yb≠fC:=by have:=cd.size;omega
 replace ic:=KT.obj ic n17;replace q3:=KT.obj q3 Aw;have anA:Mod (λi=>i=fC) cD NV:=KC.trans (KT.mod rfl);have zX:Ext w NV:=KT.ext zW Aw;refine I ?_;intro afT St o3;have abw:Mod (λi=>i=fC) cD afT:=anA.trans (St.mod rfl);have agj:Ext w afT:=St.ext zX Aw;replace q3:=St.obj q3 Aw;refine I ?_;intro UN Su QR;have Of:Ext w UN:=Su.ext agj Aw;have abB:Mod (λi=>i<bp.heap.size) cD UN:=(abw.B1 λi e=>Aw).trans (Su.mod Aw);have anC:Mod (λi=>i<az.heap.size) bp cD:=RH.B1 λi e=>Aw
 have anD:Mod (λi=>i<az.heap.size) cD UN:=(abw.B1 λi e=>Aw).trans (Su.mod Aw);refine I ?_;obtain⟨ej,bG⟩:=HS s av (n:=m.procs[gC].vars.length) Aw;refine⟨⟨_,rfl,_,_,_,_,by rw[bG];rfl,nF (anC.trans anD) Of,alw _ abB,?_,dd abB⟩,Of⟩;rw[ej];exact GN.ext Flat.ext Of
structure lT(w0 w:World)(cz dp g c q base:Nat)(m:o.Model)(s:List Int):Prop where
 hQ:Ext w0 w
 low:w0.heap.size<=base
 Ey:qa w0 dp m
 box:w.heap[cz]? = some (.cells #[.pointer (some ⟨dp,0,none⟩),.int .i64 q,.slice (some ⟨g,0,none⟩) s.length c] T.pE)
 own:iy base w (.slice (some ⟨g,0,none⟩) s.length c) s
theorem lT.ext{w0 w w':A_}{cz dp g c q base:Nat}{m:o.Model}{s:C_ Int}(he:Ext w w')(h:lT w0 w cz dp g c q base m s):lT w0 w' cz dp g c q base m s :=
 ⟨h.hQ.trans he,h.low,h.Ey,he.obj h.box,h.own.ext he⟩
def lT.Fa{w0 w:A_}{cz dp g c q base:Nat}{m:o.Model}{s:C_ Int}(h:lT w0 w cz dp g c q base m s):base<=g/\g<w.heap.size:=aK.lt h.own g rfl
def lT.ne{w0 w:A_}{cz dp g c q base:Nat}{m:o.Model}{s:C_ Int}(h:lT w0 w cz dp g c q base m s):cz≠g:=λe=>by
 obtain⟨cur,h1⟩:=aK.cy h.own g rfl;have J:=h.box;rw[e,h1] at J;injection J with J
 injection J with _ J
 revert J;decide
def lT.mod{w0 w w':A_}{cz dp g c q base:Nat}{m:o.Model}{s t:C_ Int}(h:lT w0 w cz dp g c q base m s)(hm:Mod (λi=>i=g) w w')(aS:iy base w' (.slice (some ⟨g,0,none⟩) s.length c) t)(aE:t.length=s.length):lT w0 w' cz dp g c q base m t :=
 ⟨hm.ext h.hQ λi U e=>by have:=h.low;have:=h.Fa;omega,h.low,h.Ey,by rw[aE];exact hm.obj h.ne h.box,by rw[aE];exact aS⟩
def lT.BE{w0 w:A_}{cz dp g c q base:Nat}{m:o.Model}{s:C_ Int}(h:lT w0 w cz dp g c q base m s):c3 w (.slice (some ⟨g,0,none⟩) s.length c) s:=kF h.own
def kO(base g:Nat)(v:B_)(ae:H_ (C_ Int))(u:B_)(w w':A_):Prop :=
 ((∃t,ae=some t/\u = .bool true/\iy base w' v t)\/(ae=none/\u = .bool false))/\Mod (λi=>i=g) w w'
def kO.before{base g:Nat}{v:B_}{ae:H_ (C_ Int)}{u:B_}{w w1 w':A_}(h:kO base g v ae u w1 w')(he:Ext w w1):kO base g v ae u w w':=⟨h.1,he.mod.trans h.2⟩
theorem kO.none{base g:Nat}{v:B_}{ae:H_ (C_ Int)}{w w':A_}(aS:ae=Option.none)(he:Ext w w'):kO base g v ae (.bool false) w w':=⟨.inr ⟨aS,rfl⟩,he.mod⟩
def kO.SQ{base g:Nat}{v:B_}{ae:H_ (C_ Int)}{u:B_}{w w':A_}(h:kO base g v ae u w w'):∃t:Bool,u = .bool t:=by
 rcases h.1 with ⟨_,_,e,_⟩ | ⟨_,e⟩
 .exact⟨_,e⟩
 .exact⟨_,e⟩
def C0{w0:A_}(cz dp g c q p base:Nat)(m:o.Model)(s:C_ Int)(gX:B_)(e:C_ o.Node)(w:A_)(bR:lT w0 w cz dp g c q base m s)(fx:(o.check m).cJ=0)(ax:o.Fits m s)(hIn:fL m q p)(he:eW w gX e) :
  Ei F.JE #[.pointer (some ⟨cz,0,none⟩),gX] w λu w'=>u = .tuple #[.I (o.eval e (cX m s q)).1,.bool (decide ((o.eval e (cX m s q)).2=0))]/\Ext w w':=by
 obtain⟨Tv,eF,rfl,xK⟩:=he.form;refine bk E.JE ?_;refine I ?_;refine J_ (akl cz dp q p _ m s w bR.box (bR.Ey.ext bR.hQ) fx bR.BE ax hIn) ?_;rintro _ w1 ⟨⟨es,rfl,de⟩,af⟩;refine I ?_;refine J_ (ajG _ e _ (cX m s q) w1 (he.ext af) (PW de (PX (gU fx) ax hIn.av))) ?_;rintro _ az ⟨rfl,ai⟩;refine I ?_;exact⟨aJ,af.trans ai⟩
def JL{w0:A_}(cz dp g c q base:Nat)(m:o.Model)(s:C_ Int)(k:Nat)(x n:Int)(w:A_)(bR:lT w0 w cz dp g c q base m s)(aL:eE m)(aE:s.length=di m)(ah:x=k)(hk:k<di m) :
  Ei F.J0 #[.pointer (some ⟨cz,0,none⟩),.I x,.I n] w λu w'=>kO base g (.slice (some ⟨g,0,none⟩) s.length c) (o.putAt m s k n) u w w':=by
 subst ah;have y1:=bR;obtain⟨hold,Ba,⟨zs,ak,iC⟩,sS,gz⟩:=bR;obtain⟨eD,d0,dI,d1,ec,d2,ep,d3,eM,d4,bZ,bz,bN,c1,bT,c2,bW,bw,b1,bD,ca,ci,e1,gh,rfl,_,_,dF,cR,cA,eN,fs,ad,h1,J,ab,aP,bA⟩:=iC.form;replace ak:=hold.obj ak;replace eN:=eN.ext Flat.ext hold;replace fs:=fs.ext Flat.ext hold;obtain⟨dN,q0⟩:=Yg hk;have f2:=Ld m;have f3:=Lb m;have kA:(cp m).length=di m:=rfl;have dU:(o.layout m).aV[k]' Aw=(cp m)[k].aV:=Lc _ dN;have eg:(o.layout m).U[k]' Aw=(cp m)[k].U:=La _ dN;have jN:di m<=64:=iH aL;obtain⟨a3,rfl⟩:=eN.addr;obtain⟨a4,rfl⟩:=fs.addr;clear dF cR cA ad h1 J ab aP bA iC;refine bk E.J0 ?_;refine I ?_;apply I_<;>intro g1
 .refine I ?_;exact kO.none (by unfold o.putAt;rw[q0,if_pos (.inl (by simp only;omega))]) (Ext.refl _)
 refine I ?_;apply I_<;>intro g2
 .refine I ?_;exact kO.none (by unfold o.putAt;rw[q0,if_pos (.inr (by simp only;omega))]) (Ext.refl _)
 refine I ?_;refine _z (k:=k) gz Aw λw1 iF kU=>?_;refine I ?_;exact⟨.inl ⟨_,by unfold o.putAt;rw[q0,if_neg (by simp only;omega)],aJ,kU⟩,iF.mod rfl⟩
def akH{w0:A_}(cz dp g c q p base:Nat)(m:o.Model)(s:C_ Int)(a:o.Act)(bK bY:B_)(w:A_)(bR:lT w0 w cz dp g c q base m s)(fx:(o.check m).cJ=0)(ax:o.Fits m s)(hIn:fL m q p)
  (aY:nR (o.inner (m.procs[p]'(hIn.au)) (eC m)) a)(l1:a.kind=1)(U:eW w bK a.index)(aH:eW w bY a.value) :
  Ei F.cU #[.agg (a.enc bK bY).toArray,.pointer (some ⟨cz,0,none⟩)] w λu w'=>kO base g (.slice (some ⟨g,0,none⟩) s.length c) (h9 m s q a) u w w':=by
 obtain⟨ca,ci,rfl,_⟩:=U.form;obtain⟨BH,Ax,rfl,_⟩:=aH.form;have aL:=gU fx;obtain⟨f6,f7,f8⟩:=pT m;have done:h9 m s q a=if (o.eval a.value (cX m s q)).2≠0 then none else o.putAt m s (gb m a.to.toNat) (o.eval a.value (cX m s q)).1:=by
  unfold h9;rw[if_neg Aw,if_pos l1]
 rw[done];unfold o.Act.enc;refine bk E.cU ?_;refine I ?_;intro w1 bP c8 af ao;replace bR:=bR.ext af;refine I ?_;refine J_ (C0 cz dp g c q p base m s _ a.value w1 bR fx ax hIn (aH.ext af)) ?_;rintro _ az ⟨rfl,ai⟩;replace bR:=bR.ext ai;replace ao:=ai.obj ao;obtain⟨n,pO⟩:∃n,n=(o.eval a.value (cX m s q)).1:=⟨_,rfl⟩;obtain⟨e,o5⟩:∃e,e=(o.eval a.value (cX m s q)).2:=⟨_,rfl⟩;rw[<-pO,<-o5];have aD:=af.trans ai;refine I ?_;intro aM ag;replace bR:=bR.ext ag;replace ao:=ag.obj ao;have aO:=aD.trans ag;have y1:=bR;obtain⟨hold,Ba,⟨zs,ak,iC⟩,sS,gz⟩:=bR;obtain⟨eD,d0,dI,d1,ec,d2,ep,d3,eM,d4,bZ,bz,bN,c1,bT,c2,bW,bw,b1,bD,zD,yE,e1,gh,rfl,_,_,dF,cR,cA,eN,fs,ad,h1,J,ab,aP,bA⟩:=iC.form;replace ak:=hold.obj ak;obtain⟨fj,bU,dS,iE⟩:=aY.set l1;have hB:a.to.toNat<m.vars.length:=(List.getElem?_eq_some_iff.1 dS).1;obtain⟨dP,gn⟩:=rB hB;have Sl:=sl hB;have eI:=nC m;have dN:=sH m.vars[a.to.toNat] m.scalars;have RE:=rp hB;have amB:o.cells m.vars[a.to.toNat] m.scalars=1:=by
  have GZ:m.vars[a.to.toNat]=bU:=(List.getElem?_eq_some_iff.1 dS).2;rw[GZ];unfold o.cells;rw[if_pos iE]
 obtain⟨pE,rfl⟩:=dF.addr;replace dF:=dF.ext Flat.ext hold;clear cR cA eN fs ad h1 J ab aP bA iC;refine I ?_;refine I_ (λcM=>?_) (λcM=>?_);rotate_left
 .refine I ?_;exact kO.none (by rw[if_pos cM]) aO
 rw[if_neg Aw];refine I ?_;refine K_ a.to.toNat Aw Aw ?_;refine I ?_;refine J_ (JL cz dp g c q base m s (gb m a.to.toNat) _ n aM y1 aL ax.len (by rw[gn]) Aw) ?_;rintro u aR qZ;obtain⟨t,rfl⟩:=qZ.SQ;refine I ?_;exact qZ.before aO
def akA{w0:A_}(cz dp g c q p base:Nat)(m:o.Model)(s:C_ Int)(a:o.Act)(bK bY:B_)(w:A_)(bR:lT w0 w cz dp g c q base m s)(fx:(o.check m).cJ=0)(ax:o.Fits m s)(hIn:fL m q p)
  (aY:nR (o.inner (m.procs[p]'(hIn.au)) (eC m)) a)(l1:a.kind=3)(U:eW w bK a.index)(aH:eW w bY a.value) :
  Ei F.wJ #[.agg (a.enc bK bY).toArray,.pointer (some ⟨cz,0,none⟩)] w λu w'=>kO base g (.slice (some ⟨g,0,none⟩) s.length c) (h9 m s q a) u w w':=by
 obtain⟨ca,ci,rfl,_⟩:=U.form;obtain⟨BH,Ax,rfl,_⟩:=aH.form;have aL:=gU fx;obtain⟨f6,f7,f8⟩:=pT m;have done:h9 m s q a=if (o.eval a.value (cX m s q)).2≠0 then none else o.putAt m s (cV m q+1+a.to.toNat) (o.eval a.value (cX m s q)).1:=by
  unfold h9;rw[if_neg (show ¬a.kind=5 by omega),if_neg (show ¬a.kind=1 by omega),if_neg (show ¬a.kind=2 by omega),if_pos l1]
 rw[done];unfold o.Act.enc;refine bk E.wJ ?_;refine I ?_;intro w1 bP c8 af ao;replace bR:=bR.ext af;refine I ?_;refine J_ (C0 cz dp g c q p base m s _ a.value w1 bR fx ax hIn (aH.ext af)) ?_;rintro _ az ⟨rfl,ai⟩;replace bR:=bR.ext ai;replace ao:=ai.obj ao;obtain⟨n,pO⟩:∃n,n=(o.eval a.value (cX m s q)).1:=⟨_,rfl⟩;obtain⟨e,o5⟩:∃e,e=(o.eval a.value (cX m s q)).2:=⟨_,rfl⟩;rw[<-pO,<-o5];have aD:=af.trans ai;refine I ?_;intro aM ag;replace bR:=bR.ext ag;replace ao:=ag.obj ao;have aO:=aD.trans ag;have y1:=bR;obtain⟨hold,Ba,⟨zs,ak,iC⟩,sS,gz⟩:=bR;obtain⟨eD,d0,dI,d1,ec,d2,ep,d3,eM,d4,bZ,bz,bN,c1,bT,c2,bW,bw,b1,bD,zD,yE,e1,gh,rfl,_,_,dF,cR,cA,eN,fs,ad,h1,J,ab,aP,bA⟩:=iC.form;replace ak:=hold.obj ak;have av:=hIn.av;obtain⟨fj,GH⟩:=aY.loc l1;have GG:a.to.toNat<(m.procs[p]'(hIn.au)).vars.length:=GH;obtain⟨dP,gn⟩:=ow av;have s3:=hIn.room;have jN:di m<=64:=iH aL;have hlen:=ax.len;obtain⟨pE,rfl⟩:=cA.addr;replace cA:=cA.ext Flat.ext hold;clear dF cR eN fs ad h1 J ab aP bA iC;refine I ?_;refine I_ (λcM=>?_) (λcM=>?_);rotate_left
 .refine I ?_;exact kO.none (by rw[if_pos cM]) aO
 rw[if_neg Aw];refine I ?_;refine J_ (JL cz dp g c q base m s (cV m q+1+a.to.toNat) _ n aM y1 aL ax.len (by rw[gn];omega) Aw) ?_;rintro u aR qZ;obtain⟨t,rfl⟩:=qZ.SQ;refine I ?_;exact qZ.before aO
def akr{w0:A_}(cz dp g c q p base:Nat)(m:o.Model)(s:C_ Int)(a:o.Act)(bK bY:B_)(w:A_)(bR:lT w0 w cz dp g c q base m s)(fx:(o.check m).cJ=0)(ax:o.Fits m s)(hIn:fL m q p)
  (aY:nR (o.inner (m.procs[p]'(hIn.au)) (eC m)) a)(l1:a.kind=2)(U:eW w bK a.index)(aH:eW w bY a.value) :
  Ei F.Fj #[.agg (a.enc bK bY).toArray,.pointer (some ⟨cz,0,none⟩)] w λu w'=>kO base g (.slice (some ⟨g,0,none⟩) s.length c) (h9 m s q a) u w w':=by
 obtain⟨ca,ci,rfl,_⟩:=U.form;obtain⟨BH,Ax,rfl,_⟩:=aH.form;have aL:=gU fx;obtain⟨f6,f7,f8⟩:=pT m;have done:h9 m s q a=if (o.eval a.value (cX m s q)).2≠0 then none else xB m s a (o.eval a.index (cX m s q)) (o.eval a.value (cX m s q)).1:=by
  unfold h9;rw[if_neg (show ¬a.kind=5 by omega),if_neg (show ¬a.kind=1 by omega),if_pos l1]
 rw[done];unfold o.Act.enc;refine bk E.Fj ?_;refine I ?_;intro w1 bP c8 af ao;replace bR:=bR.ext af;refine I ?_;refine J_ (C0 cz dp g c q p base m s _ a.index w1 bR fx ax hIn (U.ext af)) ?_;rintro _ az ⟨rfl,ai⟩;replace bR:=bR.ext ai;replace ao:=ai.obj ao;have aD:=af.trans ai;refine I ?_;refine J_ (C0 cz dp g c q p base m s _ a.value az bR fx ax hIn (aH.ext aD)) ?_;rintro _ aM ⟨rfl,ag⟩;replace bR:=bR.ext ag;replace ao:=ag.obj ao;have aO:=aD.trans ag;obtain⟨n,pO⟩:∃n,n=(o.eval a.value (cX m s q)).1:=⟨_,rfl⟩;obtain⟨e,o5⟩:∃e,e=(o.eval a.value (cX m s q)).2:=⟨_,rfl⟩;obtain⟨k,Gz⟩:∃k,k=(o.eval a.index (cX m s q)).1:=⟨_,rfl⟩;obtain⟨f,Gs⟩:∃f,f=(o.eval a.index (cX m s q)).2:=⟨_,rfl⟩;have o6:xB m s a (o.eval a.index (cX m s q)) n=if f≠0\/k<1\/(lI m a.to.toNat:Int)<k then none else o.putAt m s (gb m a.to.toNat+k.toNat - 1) n:=by unfold xB;rw[<-Gz,<-Gs]
 rw[<-pO,<-o5,o6,<-Gz,<-Gs];clear o6 done;have y1:=bR;obtain⟨hold,Ba,⟨zs,ak,iC⟩,sS,gz⟩:=bR;obtain⟨eD,d0,dI,d1,ec,d2,ep,d3,eM,d4,bZ,bz,bN,c1,bT,c2,bW,bw,b1,bD,zD,yE,e1,gh,rfl,_,_,dF,cR,cA,eN,fs,ad,h1,J,ab,aP,bA⟩:=iC.form;replace ak:=hold.obj ak;obtain⟨fj,GY,A5⟩:=aY.item l1;have hB:a.to.toNat<m.vars.length:=GY;obtain⟨dP,gn⟩:=rB hB;have Sl:=sl hB;have eI:=nC m;have RE:=rp hB;have dN:=sH m.vars[a.to.toNat] m.scalars;have jN:di m<=64:=iH aL;have hlen:=ax.len;obtain⟨pE,rfl⟩:=dF.addr;obtain⟨nY,rfl⟩:=h1.addr;replace dF:=dF.ext Flat.ext hold;replace ad:=ad.ext hold;have dK:=((h1.at a.to.toNat hB).cells).ext hold;clear cR cA eN fs h1 J ab aP bA iC;refine I ?_;refine I_ (λcM=>?_) (λcM=>?_);rotate_left
 .refine I ?_;intro aR aq;refine kO.none ?_ (aO.trans aq);by_cases h:e≠0
  .rw[if_pos h]
  .rw[if_neg h,if_pos (.inl cM)]
 refine I ?_;refine I_ (λcW=>?_) (λcW=>?_);rotate_left
 .refine I ?_;intro aR aq;exact kO.none (by rw[if_pos cW]) (aO.trans aq)
 rw[if_neg (show ¬e≠0 by omega)];refine I ?_;refine I_ (λfr=>?_) (λfr=>?_)
 .refine I ?_;intro aR aq;exact kO.none (by rw[if_pos (.inr (.inl fr))]) (aO.trans aq)
 refine I ?_;refine K_ a.to.toNat Aw Aw ?_;refine I ?_;refine P_ (.I (o.cells m.vars[a.to.toNat] m.scalars)) (λw' e'=>CE m.vars[a.to.toNat] _ m.scalars w' (ad.ext e')) ?_;refine I ?_;intro aR aq;refine I_ (λhN=>?_) (λhN=>?_)
 .refine I ?_;exact kO.none (by rw[if_pos (.inr (.inr Aw))]) (aO.trans aq)
 rw[if_neg Aw];have AR:=y1.ext aq;replace ao:=aq.obj ao;replace ak:=aq.obj ak;replace sS:=aq.obj sS;have D5:=dF.ext Flat.ext aq;clear dF ad dK;refine I ?_;intro bg ar;replace AR:=AR.ext ar;replace ao:=ar.obj ao;replace ak:=ar.obj ak;replace sS:=ar.obj sS;replace D5:=D5.ext Flat.ext ar;refine I ?_;refine K_ a.to.toNat Aw Aw ?_;refine I ?_;refine J_ (JL cz dp g c q base m s (gb m a.to.toNat+k.toNat - 1) _ n bg AR aL ax.len (by rw[gn];omega) Aw) ?_;rintro u bp sQ;obtain⟨t,rfl⟩:=sQ.SQ;refine I ?_;exact sQ.before ((aO.trans aq).trans ar)
end Go.Proofs.R
namespace o
def Pt(m:Model)(s:C_ Int)(c:Nat):(s.drop (b6 m c)).take (b6 m c+(1+gF m c) - b6 m c)=chanOf m s c:=by
 unfold chanOf;rw[show b6 m c+(1+gF m c) - b6 m c=1+gF m c from Aw]
end o
namespace Go.Proofs.R
open Go Go.RowKit ba o
def akC{w0:A_}(cz dp g c q p base:Nat)(m:o.Model)(s:C_ Int)(a:o.Act)(bK bY:B_)(w:A_)(bR:lT w0 w cz dp g c q base m s)(fx:(o.check m).cJ=0)(ax:o.Fits m s)(hIn:fL m q p)
  (aY:nR (o.inner (m.procs[p]'(hIn.au)) (eC m)) a)(l1:a.kind=5)(U:eW w bK a.index)(aH:eW w bY a.value) :
  Ei F.nZ #[.agg (a.enc bK bY).toArray,.pointer (some ⟨cz,0,none⟩)] w λu w'=>kO base g (.slice (some ⟨g,0,none⟩) s.length c) (h9 m s q a) u w w':=by
 obtain⟨ca,ci,rfl,_⟩:=U.form;obtain⟨BH,Ax,rfl,_⟩:=aH.form;have aL:=gU fx;obtain⟨f6,f7,f8⟩:=pT m;have done:h9 m s q a=zI m s q a:=by unfold h9;rw[if_pos l1]
 rw[done];unfold zI;clear done;obtain⟨fj,dS⟩:=aY.chan (.inr l1);have dL:a.to.toNat<m.aA.length:=dS;have gK:a.to=(a.to.toNat:Nat):=Aw
 have dN:(o.chanOf m s a.to.toNat).length=1+gF m a.to.toNat:=u5 (by rw[ax.len];exact n1 dL);have abX:=n1 dL;obtain⟨eB,GH⟩:=aY.recv l1;have GG:a.loc.toNat<(m.procs[p]'(hIn.au)).vars.length:=GH;have aog:=hIn.room;have hlen:=ax.len;have jN:di m<=64:=iH aL;have av:=hIn.av;obtain⟨dP,gn⟩:=ow av;unfold o.Act.enc;rw[gK,AG8];have Dq:=bR.Fa;refine bk E.nZ ?_;refine I ?_;intro w1 bP c8 af ao;replace bR:=bR.ext af;have qi:=bR.box;refine I ?_;refine P_ (.tuple #[.I (b6 m a.to.toNat),.I (b6 m a.to.toNat+(1+gF m a.to.toNat):Nat)]) (λw' e=>P4 dp m a.to.toNat w' (bR.Ey.ext (bR.hQ.trans e)) aL dL) ?_;refine I ?_;intro az ai;replace bR:=bR.ext ai;replace ao:=ai.obj ao;replace qi:=bR.box;have aD:=af.trans ai;refine I ?_;refine _a (k:=.i64) (k':=.i64) (b6 m a.to.toNat) (b6 m a.to.toNat+(1+gF m a.to.toNat)) bR.BE (by simp[dc,bE]) (by simp[dc,bE]) Aw Aw λbN c1 _ zh=>?_;rw[Pt] at zh;refine I ?_;refine J_ (ain _ _ az zh Aw) ?_;rintro _ aM ⟨alM,ag⟩;replace bR:=bR.ext ag;replace ao:=ag.obj ao;replace qi:=bR.box;have aO:=aD.trans ag;have aG:=bR.Fa;rcases alM with ⟨ey,rfl⟩ | ⟨r,x,ae,gh,hX,rfl,xn⟩
 .rw[ey];refine I ?_;refine _a (k:=.i64) (k':=.i64) (b6 m a.to.toNat) (b6 m a.to.toNat+(1+gF m a.to.toNat)) bR.BE (by simp[dc,bE]) (by simp[dc,bE]) Aw Aw λbT c2 hV _=>?_;refine I ?_;refine _b (p:=b6 m a.to.toNat) (xs:=[]) bR.own bm.nil (by simp only[dc,bE];rfl) (by simp only[dc,bE];rfl) hV Aw Cx Cx λu aR dT dj=>?_;refine I ?_;intro bg ar;refine I ?_;have hm:Mod (λi=>i=g) w bg:=((Ext.mod (A:=λi=>i=g) aO).trans (dT.mod rfl)).trans ar.mod;exact⟨.inr ⟨rfl,aJ⟩,hm⟩
 .rw[hX];have hM:=NH hX;rw[dN] at hM;refine I ?_;refine _a (k:=.i64) (k':=.i64) (b6 m a.to.toNat) (b6 m a.to.toNat+(1+gF m a.to.toNat)) bR.BE (by simp[dc,bE]) (by simp[dc,bE]) Aw Aw λbT c2 hV _=>?_;refine I ?_;refine _b (p:=b6 m a.to.toNat) bR.own (kF xn) (by simp only[dc,bE];rfl) (by simp only[dc,bE];rfl) hV Aw Cx Cx λu aR dT dj=>?_;rw[MT Aw] at dj;have kz:(h0 s (b6 m a.to.toNat) r).length=s.length:=G6 Aw;replace bR:=bR.mod (dT.mod rfl) dj kz;have bn:=dT.obj ao Aw;have kd:Mod (λi=>i=g) w aR:=aO.mod.trans (dT.mod rfl);clear qi zh ao;refine I ?_;intro bg ar;replace bR:=bR.ext ar;replace bn:=ar.obj bn;have y1:=bR;obtain⟨hold,Ba,⟨zs,ak,iC⟩,sS,gz⟩:=bR;obtain⟨eD,d0,dI,d1,ec,d2,ep,d3,eM,d4,bZ,bz,bN,c1,aqx,ahJ,bW,bw,b1,bD,zD,yE,e1,mS,rfl,_,_,dF,cR,cA,eN,fs,ad,h1,J,ab,aP,bA⟩:=iC.form;replace ak:=hold.obj ak;obtain⟨pE,rfl⟩:=cA.addr;replace cA:=cA.ext Flat.ext hold;rw[kz] at sS;clear dF cR eN fs ad h1 J ab aP bA iC;refine I ?_;rw[gn];refine I ?_;refine J_ (JL cz dp g c q base m _ (cV m q+1+a.loc.toNat) _ x bg y1 aL Aw Aw Aw) ?_;rintro u bp ⟨sQ,jg⟩;rw[kz] at sQ;have hm:Mod (λi=>i=g) w bp:=(kd.trans ar.mod).trans jg;rcases sQ with ⟨t,h1,rfl,J⟩ | ⟨h1,rfl⟩
  .refine I ?_;exact⟨.inl ⟨t,h1,aJ,J⟩,hm⟩
  .refine I ?_;exact⟨.inr ⟨h1,aJ⟩,hm⟩
def akG{w0:A_}(cz dp g c q p base:Nat)(m:o.Model)(s:C_ Int)(a:o.Act)(bK bY:B_)(w:A_)(bR:lT w0 w cz dp g c q base m s)(fx:(o.check m).cJ=0)(ax:o.Fits m s)(hIn:fL m q p)
  (aY:nR (o.inner (m.procs[p]'(hIn.au)) (eC m)) a)(l1:a.kind=4)(U:eW w bK a.index)(aH:eW w bY a.value) :
  Ei F.Fl #[.agg (a.enc bK bY).toArray,.pointer (some ⟨cz,0,none⟩)] w λu w'=>kO base g (.slice (some ⟨g,0,none⟩) s.length c) (h9 m s q a) u w w':=by
 obtain⟨ca,ci,rfl,_⟩:=U.form;obtain⟨BH,Ax,rfl,_⟩:=aH.form;have aL:=gU fx;obtain⟨f6,f7,f8⟩:=pT m;have done:h9 m s q a=if (o.eval a.value (cX m s q)).2≠0 then none else vZ m s a.to.toNat (o.eval a.value (cX m s q)).1:=by
  unfold h9;rw[if_neg (show ¬a.kind=5 by omega),if_neg (show ¬a.kind=1 by omega),if_neg (show ¬a.kind=2 by omega),if_neg (show ¬a.kind=3 by omega)]
 rw[done];clear done;obtain⟨fj,dS⟩:=aY.chan (.inl l1);have dL:a.to.toNat<m.aA.length:=dS;have gK:a.to=(a.to.toNat:Nat):=Aw
 have dN:(o.chanOf m s a.to.toNat).length=1+gF m a.to.toNat:=u5 (by rw[ax.len];exact n1 dL);have abX:=n1 dL;have hlen:=ax.len;have jN:di m<=64:=iH aL;unfold o.Act.enc;rw[gK,AG8];have Dq:=bR.Fa;refine bk E.Fl ?_;refine I ?_;intro w1 bP c8 af ao;replace bR:=bR.ext af;refine I ?_;refine J_ (C0 cz dp g c q p base m s _ a.value w1 bR fx ax hIn (aH.ext af)) ?_;rintro _ az ⟨rfl,ai⟩;replace bR:=bR.ext ai;replace ao:=ai.obj ao;have aD:=af.trans ai;obtain⟨n,pO⟩:∃n,n=(o.eval a.value (cX m s q)).1:=⟨_,rfl⟩;obtain⟨e,o5⟩:∃e,e=(o.eval a.value (cX m s q)).2:=⟨_,rfl⟩;rw[<-pO,<-o5];refine I ?_;intro aM ag;replace bR:=bR.ext ag;replace ao:=ag.obj ao;have aO:=aD.trans ag;obtain⟨zs,rZ,iC⟩:=bR.Ey;obtain⟨eD,d0,dI,d1,ec,d2,ep,d3,eM,d4,bZ,bz,bN,c1,aqx,ahJ,bW,bw,b1,bD,zD,yE,e1,mS,rfl,_,_,dF,cR,cA,eN,fs,ad,h1,J,ab,aP,bA⟩:=iC.form;obtain⟨nW,rfl⟩:=J.addr;have ak:=bR.hQ.obj rZ;have qi:=bR.box;have dK:=((J.at a.to.toNat dL).cells).ext bR.hQ;have J9:=ad.ext bR.hQ;clear dF cR cA eN fs ad h1 J ab aP bA rZ iC;refine I ?_;intro aR ia hi aq b3;refine⟨aq,?_⟩;refine U_ b3 rfl rfl (by simp[Value.oneCell',ea.enc]) λbg e3 bI=>?_;have ar:Ext aM bg:=e3.ext aq hi;replace bR:=bR.ext ar;replace ak:=ar.obj ak;replace qi:=bR.box;replace ao:=ar.obj ao;replace J9:=J9.ext ar;have bC:=aO.trans ar;clear b3 e3 dK;obtain⟨aV,hA⟩:∃aV,aV=(e7 m.aA[a.to.toNat].scalar m.aA[a.to.toNat].aV m.aA[a.to.toNat].U m.scalars).aV:=⟨_,rfl⟩;obtain⟨cw,ud⟩:∃U,U=(e7 m.aA[a.to.toNat].scalar m.aA[a.to.toNat].aV m.aA[a.to.toNat].U m.scalars).U:=⟨_,rfl⟩;have xd:vZ m s a.to.toNat n=if n<aV\/cw<n then none else (nN (o.chanOf m s a.to.toNat) n).map (h0 s (b6 m a.to.toNat)):=by
  unfold vZ wM;rw[List.getElem?_eq_getElem dL,hA,ud]
 rw[xd];clear xd;refine I ?_;refine P_ (.tuple #[.I aV,.I cw]) (λw' e'=>by
  rw[hA,ud,show e7 m.aA[a.to.toNat].scalar m.aA[a.to.toNat].aV m.aA[a.to.toNat].U m.scalars=_ from An ⟨⟨#[]⟩,m.aA[a.to.toNat].scalar,0,m.aA[a.to.toNat].aV,m.aA[a.to.toNat].U,0⟩ m.scalars];exact IY ⟨⟨#[]⟩,m.aA[a.to.toNat].scalar,0,m.aA[a.to.toNat].aV,m.aA[a.to.toNat].U,0⟩ _ m.scalars w' (J9.ext e')) ?_
 refine I ?_;intro bp aC;replace bR:=bR.ext aC;replace ak:=aC.obj ak;replace qi:=bR.box;replace ao:=aC.obj ao;have b5:=bC.trans aC;clear bI J9;refine I ?_;refine I_ (λcM=>?_) (λcM=>?_);rotate_left
 .refine I ?_;exact kO.none (by rw[if_pos cM]) b5
 rw[if_neg (show ¬e≠0 by omega)];refine I ?_;refine I_ (λcW=>?_) (λcW=>?_)
 .refine I ?_;exact kO.none (by rw[if_pos (.inl cW)]) b5
 refine I ?_;refine I_ (λfr=>?_) (λfr=>?_)
 .refine I ?_;exact kO.none (by rw[if_pos (.inr Aw)]) b5
 rw[if_neg Aw];refine I ?_;refine P_ (.tuple #[.I (b6 m a.to.toNat),.I (b6 m a.to.toNat+(1+gF m a.to.toNat):Nat)]) (λw' e'=>P4 dp m a.to.toNat w' (bR.Ey.ext (bR.hQ.trans e')) aL dL) ?_;refine I ?_;intro bH bc;replace bR:=bR.ext bc;replace qi:=bR.box;have cL:=b5.trans bc;clear ak ao;refine I ?_;refine _a (k:=.i64) (k':=.i64) (b6 m a.to.toNat) (b6 m a.to.toNat+(1+gF m a.to.toNat)) bR.BE (by simp[dc,bE]) (by simp[dc,bE]) Aw Aw λbN c1 _ zh=>?_;rw[Pt] at zh;refine I ?_;refine J_ (aim _ _ n bH zh Aw) ?_;rintro _ cB ⟨alA,bt⟩;replace bR:=bR.ext bt;replace qi:=bR.box;have eK:=cL.trans bt;rcases alA with ⟨ey,rfl⟩ | ⟨r,ae,gh,hX,rfl,xn⟩
 .rw[ey];refine I ?_;refine _a (k:=.i64) (k':=.i64) (b6 m a.to.toNat) (b6 m a.to.toNat+(1+gF m a.to.toNat)) bR.BE (by simp[dc,bE]) (by simp[dc,bE]) Aw Aw λbT c2 hV _=>?_;refine I ?_;refine _b (p:=b6 m a.to.toNat) (xs:=[]) bR.own bm.nil (by simp only[dc,bE];rfl) (by simp only[dc,bE];rfl) hV Aw Cx Cx λu cD gA fy=>?_;refine I ?_;exact⟨.inr ⟨rfl,aJ⟩,(Ext.mod (A:=λi=>i=g) eK).trans (gA.mod rfl)⟩
 .rw[hX];have hM:=Na hX;rw[dN] at hM;refine I ?_;refine _a (k:=.i64) (k':=.i64) (b6 m a.to.toNat) (b6 m a.to.toNat+(1+gF m a.to.toNat)) bR.BE (by simp[dc,bE]) (by simp[dc,bE]) Aw Aw λbT c2 hV _=>?_;refine I ?_;refine _b (p:=b6 m a.to.toNat) bR.own (kF xn) (by simp only[dc,bE];rfl) (by simp only[dc,bE];rfl) hV Aw Cx Cx λu cD gA fy=>?_;rw[MT Aw] at fy;refine I ?_;exact⟨.inl ⟨_,rfl,aJ,fy⟩,(Ext.mod (A:=λi=>i=g) eK).trans (gA.mod rfl)⟩
end Go.Proofs.R
namespace ba
open Go Go.RowKit
def _s{P:D_}{ty:F_}{v:B_}{m:String}{f:E_}{r:B_}{args:C_ B_}{w:A_}{R:B_->A_->Prop}{cO:B_->A_->Prop}{t}(ax:okF P f=true)(hm:∀w',(method (P.types.size+Made.depth) ty v m).run P w' = .ok (f,r) w')
  (h:aW P f (r :: args).toArray w R)(hk:∀v w',R v w'->cO v w'):B6 P (.iface ty v) m args w cO t:=by unfold B6;exact ahT ax hm h hk
def aK.aqF{α:Type}{enc:α->C_ B_}{e:F_}{sz base:Nat}{w:A_}{v:B_}{cb:C_ (fv sz)}{xs:C_ α}(h:pA e sz base w v cb)(aE:cb.length=xs.length)(he:∀i (h1:i<cb.length) (J:i<xs.length),cb[i].1=enc xs[i]):aK enc e sz base w v xs:=by
 have hm:cb.map lA=xs.map enc:=AK8 (by simp[aE]) λi h1 J=>by
  rw[List.getElem_map,List.getElem_map];exact he i (by simpa using h1) (by simpa using J)
 have:cb.flatMap lA=xs.flatMap enc:=by rw[List.flatMap_def,List.flatMap_def,hm]
 unfold aK at *;rw[<-this,<-aE];exact h
end ba
namespace Go.Proofs.R
open Go Go.RowKit ba o
def SL(v:B_)(xs:C_ Int)(w:A_)(h:c3 w v xs)(ak:ev xs.length 8) :
  Ei F.g6 #[v] w λbU w'=>iy w.heap.size w' bU xs/\Ext w w' :=
 (YC l3 E.g6 Cx v xs w h (by unfold ev at ak;omega)).mono λbU w' ⟨⟨cb,aE,aS,an⟩,he⟩=>⟨aK.aqF aS aE λi h1 J=>an i h1 J,he⟩
def qU(k:Int):F_:=if k=1 then T.yy else if k=2 then T.a0 else if k=3 then T.db else if k=4 then T.a2 else T.a3
def Ir(w:A_)(cs:C_ B_)(x:o.Act):Prop := ∃bK bY,cs=[.iface (qU x.kind) (.agg (x.enc bK bY).toArray)]/\eW w bK x.index/\eW w bY x.value
def akk{w0:A_}(v:B_)(xs:C_ o.Act)(w:A_)(h:lP w0 v xs)(de:Ext w0 w)(hk:∀x∈xs,1<=x.kind/\x.kind<=5)(ak:xs.length<=100000) :
  Ei F.JF #[v] w λu w'=>(∃cb:C_ (fv 1),cb.length=xs.length/\pA T.yx 1 w.heap.size w' u cb/\∀i (h1:i<cb.length) (J:i<xs.length),Ir w0 cb[i].1 xs[i])/\Ext w w':=by
 obtain⟨ei,eZ,rfl,fa⟩:=h.form;refine bk E.JF ?_;refine I ?_;refine L_ 8 xs.length [6,7] (λv:fk=>[(3,.slice v.1 v.2.1 v.2.2)]) (none,0,0) (λk v W=>Ext w W/\∃cb:C_ (fv 1),cb.length=k/\pA T.yx 1 w.heap.size W (.slice v.1 v.2.1 v.2.2) cb/\∀i (h1:i<cb.length) (J:i<xs.length),Ir w0 cb[i].1 xs[i]) a6 a6 ⟨Ext.refl _,[],rfl,aK.nil _ _ _ _ _,λi h=>absurd h (E3 _)⟩ ?_;rintro k nr S az hz ⟨ai,cb,kA,dy,gv⟩;refine I ?_;apply I_<;>intro g1;rotate_left
 .have gO:xs.length=k:=Aw
  refine I ?_;exact⟨⟨cb,Aw,dy,gv⟩,ai⟩
 have a1:k<xs.length:=Aw
 obtain⟨a,rfl⟩:=h.addr;obtain⟨bK,bY,nG,ot,qo⟩:=h.at k a1;obtain⟨cM,vL⟩:=hk _ (E2 a1);obtain⟨x,ah⟩:∃x,x=xs[k]:=⟨_,rfl⟩;rw[<-ah] at nG ot qo cM vL;obtain⟨ca,ci,rfl,_⟩:=ot.form;obtain⟨BH,Ax,rfl,_⟩:=qo.form;replace nG:=nG.ext (de.trans ai);unfold o.Act.enc at nG;refine I ?_;intro aM dJ jc ag bI;have ez:=dy.ext ag;have aO:=ai.trans ag;clear nG;have step:∀(y:fv 1),Ir w0 y.1 xs[k]->∀i (h1:i<(cb++[y]).length) (J:i<xs.length),Ir w0 ((cb++[y])[i]).1 xs[i]:=λy bF i h1 J=>by
  by_cases U:i<cb.length
  .rw[AH3 U];exact gv i U J
  .have e:i=cb.length:=by simp at h1;omega
   subst e;subst kA;rw[AH4 (E1 _)];simpa using bF
 have age:=aO.size;refine I ?_;apply I_<;>intro g2;rotate_left;refine I ?_;apply I_<;>intro g3;rotate_left;refine I ?_;apply I_<;>intro g4;rotate_left;refine I ?_;apply I_<;>intro g5;rotate_left
 all_goals
  refine I ?_;intro aR cQ fD aq bn;refine I ?_;refine S_ (enc:=lA) (y:=(⟨[.iface _ (.agg (x.enc (.slice ca x.index.length ci) (.slice BH x.value.length Ax)).toArray)],rfl,by simp[Value.oneCell']⟩:fv 1)) (ez.ext aq) bn rfl k8 yN Aw (by unfold maxLen;omega) (by have:=aq.size;omega) λaN n c bg dC kS=>?_;refine I ?_;exact⟨a1,aJ,(aN,n,c),⟨rfl,trivial⟩,(aO.trans aq).grown kS λi U=>(ez.lt i U).1,_,by simp[kA],dC,step _ ⟨_,_,by rw[<-ah];unfold qU; (repeat' split)<;>first | rfl | omega,by rw[<-ah];exact ot,by rw[<-ah];exact qo⟩⟩
end Go.Proofs.R