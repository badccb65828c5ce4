/- Parts. -/
import Derived.Test.YtakmdjclehkglaaGreatDoorQauo
set_option linter.all false
set_option maxRecDepth 8000
set_option maxHeartbeats 16000000
section
namespace Go.Proofs.R
open Go Go.RowKit bb
structure arw(w:World)(b N:Nat)(L:List Int):Prop where
 row:∃ad,w.heap[b]? = some (.cells (nQ ad).toArray T.n)/\o.ov N L ad
end Go.Proofs.R
end
section
namespace o
structure acJ(m:Model):Prop where
 s:m.scalars.length<=8
 v:m.vars.length<=20
 c:m.aw.length<=8
 p:m.procs.length<=10
 q:m.props.length<=16
 i:∀(j:Nat) (h:j<m.procs.length),m.procs[j].vars.length<=10/\m.procs[j].cL.length<=16
end o
end
section
namespace o
open Go
structure ow(m:Model)(ref:Int)(t:Bool):Prop where
 none:¬Told m ref->t=false
 there:∀q p k a b,eM m ref q p k->kf m ref a b->(t=true↔(bI m p k).to<=(bI m p k).from_\/∃x∈b,x∈qe m)
theorem ow.no{m:Model}{ref:Int}(h:¬Told m ref):ow m ref false:=⟨fun _=>rfl,fun _ _ _ _ _ bC=>absurd bC.told h⟩
theorem ow.of{m:Model}{ref:Int}{q p k:Nat}{a b:C_ Int}{t:Bool}(bC:eM m ref q p k)(bE:kf m ref a b)(h:t=true↔(bI m p k).to<=(bI m p k).from_\/∃x∈b,x∈qe m):ow m ref t :=
 ⟨fun ay=>absurd bC.told ay,fun eX gz k' cD gL xA ahK=>by
  obtain⟨rfl,rfl,rfl⟩:=bC.one xA;obtain⟨rfl,rfl⟩:=bE.eq ahK;exact h⟩
theorem ara{m:Model}{ref:Int}{q p k:Nat}{a b:C_ Int}(bC:eM m ref q p k)(bE:kf m ref a b):∀x∈b,0<=x/\x<dW m:=fun x ag=>arb bC x (((bE.there q p k bC).2.mem x).1 ag)
end o
namespace Go.Proofs.R
open Go Go.RowKit bb
theorem ao9{m:o.Model}{b:C_ Int}(hk:(o.check m).cA=0)(ak:∀x∈b,0<=x/\x<o.dW m):b.any (r7 (o.oc m))=true↔∃x∈b,x∈o.qe m:=by
 rw[List.any_eq_true];have key:∀x∈b,(r7 (o.oc m) x=true↔x∈o.qe m):=fun x ag=>by
  obtain⟨af,h1⟩:=ak x ag;unfold r7 o.oc;rw[if_pos hk,List.getElem?_map,List.getElem?_range (by omega)];simp only[Option.map_some,Option.getD_some,decide_eq_true_eq];rw[show((x.toNat:Nat):Int)=x from by omega]
 constructor
 .rintro⟨x,ag,h⟩;exact⟨x,ag,(key x ag).1 h⟩
 .rintro⟨x,ag,h⟩;exact⟨x,ag,(key x ag).2 h⟩
theorem apn{m:o.Model}(hk:(o.check m).cA=0):(o.oc m).length=o.dW m:=by unfold o.oc;rw[if_pos hk];simp
theorem Mj{s:ByteArray}{f t:Int}{a b:H_ Addr}{lq ku c1 c2:Nat}{y:Bool}:∀x∈(#[.string s,.int .i64 f,.int .i64 t,.slice a lq c1,.slice b ku c2,.bool y]:Array B_).toList,x.oneCell'=true:=by simp[Value.oneCell']
theorem afc(cs:C_ B_)(m:o.Model)(ref:Int)(w:A_)(h:o.dV w cs m)(aK:m.cN)(aM:gB w) :
  a7 Tryz.prog F.ce #[.agg cs.toArray,.int .i64 ref] w fun u w'=>(∃t,u = .bool t/\o.ow m ref t)/\Ext w w':=by
 have dw:=h;obtain⟨cd,bw,bO,c1,bV,c2,b2,br,cj,bF,rfl,_⟩:=h.form;refine bn E.ce ?_;refine aa ?_;intro w1 bR dt al av;refine aa ?_;refine J_ (x9 _ m w1 (dw.ext al) aK (aM.ext al)) ?_;rintro _ aH ⟨rfl,ao⟩;replace av:=ao.obj av;have aI:=al.trans ao;refine aa ?_;refine _A (v:=.int .i64 (o.check m).cA) rfl ?_;refine aa ?_;apply I_<;>intro g1;rotate_left
 .refine aa ?_;exact⟨⟨false,aU,o.ow.no fun h=>g1 h.1⟩,aI⟩
 have jU:=o.ir g1;have kr:=o.yh jU.lim;refine aa ?_;refine J_ (yi _ m aH (dw.ext aI) jU.lim) ?_;rintro lS aP ⟨n0,aj⟩;obtain⟨gR,pP,rfl,_⟩:=n0.form;have k7:bh 2 (Flat o.Ref.enc) aP _ _:=aW.iv (enc:=o.Ref.enc) (fun _=>rfl) n0;replace av:=aj.obj av;have ba:=aI.trans aj;clear n0;refine aa ?_;apply I_<;>intro g2
 .refine aa ?_;exact⟨⟨false,aU,o.ow.no fun h=>by have:=h.2.1;omega⟩,ba⟩
 refine aa ?_;apply I_<;>intro g3
 .refine aa ?_;exact⟨⟨false,aU,o.ow.no fun h=>by have:=h.2.2;omega⟩,ba⟩
 obtain⟨q,p,k,bC⟩:=o.o8 (m:=m) (ref:=ref) ⟨g1,by omega,by omega⟩;obtain⟨r,rfl⟩:=Int.eq_ofNat_of_zero_le (show 0<=ref by omega);have aL:r<(o.refs m).length:=by omega
 have gD:(o.refs m)[r].inst=(q:Int):=bC.at_.pw;have rS:(o.refs m)[r].cmd=(k:Int):=bC.at_.uH;obtain⟨kD,rfl⟩:=k7.addr;refine eh ?_;refine S_ [1,2] (fun dP:Nat=>[(6,.pointer (some ⟨dP,0,none⟩))]) (fun dP W=>(∃gy ga aQ fD,W.heap[dP]? = some (.cells #[.string (o.bI m p k).name,.int .i64 (o.bI m p k).from_,.int .i64 (o.bI m p k).to,.slice gy (o.bI m p k).guard.length ga,.slice aQ (o.bI m p k).bY.length fD,.bool (o.bI m p k).fair] T.k))/\Ext aP W) ?_ ?_
 .have vL:∀{W},Ext aP W->a7 Tryz.prog F.b #[.agg #[.slice cd m.scalars.length bw,.slice bO m.vars.length c1,.slice bV m.aw.length c2,.slice b2 m.procs.length br,.slice cj m.props.length bF]] W fun v w'=>(∃cx ci,v = .slice cx (o.insts m).length ci/\ke w' v (o.insts m))/\Ext W w':=fun {W} he=>(v7 _ m W (dw.ext (ba.trans he)) aK).mono fun v w' ⟨aG,hR⟩=>by
   obtain⟨cx,ci,rfl,_⟩:=aG.form;exact⟨⟨cx,ci,rfl,aW.iv (enc:=o.cZ.enc) (fun _=>rfl) aG⟩,hR⟩
  have eo:∀{W} {bM},Ext aP W->ke W bM (o.insts m)->a7 Tryz.prog F.g #[.agg #[.slice cd m.scalars.length bw,.slice bO m.vars.length c1,.slice bV m.aw.length c2,.slice b2 m.procs.length br,.slice cj m.props.length bF],bM,.agg ((o.refs m)[r]).enc.toArray] W fun u w'=>(∃gy ga aQ fD,u = .agg #[.string (o.bI m p k).name,.int .i64 (o.bI m p k).from_,.int .i64 (o.bI m p k).to,.slice gy (o.bI m p k).guard.length ga,.slice aQ (o.bI m p k).bY.length fD,.bool (o.bI m p k).fair])/\Ext W w':=fun {W bM} he U=>(Vy _ bM m r q p k W (dw.ext (ba.trans he)) U bC _ gD rS).mono fun u w' ⟨⟨gu,ea,hu,ay,aV⟩,hR⟩=>by
   obtain⟨gy,ga,rfl,_⟩:=ay.form;obtain⟨aQ,fD,rfl,_⟩:=aV.form;exact⟨⟨gy,ga,aQ,fD,hu⟩,hR⟩
  refine aa ?_;intro aR aA;replace av:=aA.obj av;have ar5:=k7.ext Flat.ext aA;refine aa ?_;refine⟨?_,?_⟩
  .refine J_ (vL aA) ?_;rintro _ bq ⟨⟨cx,ci,rfl,a8⟩,aJ⟩;have bU:=aA.trans aJ;refine⟨aJ,?_⟩;refine aa ?_;refine⟨?_,?_⟩
   .refine J_ (eo bU a8) ?_;rintro _ bB ⟨⟨gy,ga,aQ,fD,rfl⟩,aT⟩;have c8:=bU.trans aT;refine aa ?_;intro bQ dP fX bz b4;refine⟨(aJ.trans aT).trans bz,?_⟩;refine T_ b4 rfl rfl Mj fun de iH c4=>?_;have gm:=iH.ext bz fX;refine aa ?_;exact⟨dP,⟨aU,trivial⟩,⟨_,_,_,_,c4⟩,c8.trans gm⟩
   .refine O_ ?_;intro bB dP fX aT b4;have c8:=bU.trans aT;refine⟨aJ.trans aT,?_⟩;refine aa ?_;refine J_ (eo c8 (a8.ext Flat.ext aT)) ?_;rintro _ bQ ⟨⟨gy,ga,aQ,fD,rfl⟩,bz⟩;refine aa ?_;refine T_ (bz.obj b4) rfl rfl Mj fun de iH c4=>?_;have gm:=iH.ext (aT.trans bz) fX;refine aa ?_;exact⟨dP,⟨aU,trivial⟩,⟨_,_,_,_,c4⟩,bU.trans gm⟩
  .refine O_ ?_;intro bq dP fX aJ b4;have bU:=aA.trans aJ;refine⟨aJ,?_⟩;refine aa ?_;refine J_ (vL bU) ?_;rintro _ bB ⟨⟨cx,ci,rfl,a8⟩,aT⟩;have c8:=bU.trans aT;refine⟨aJ.trans aT,?_⟩;refine aa ?_;refine J_ (eo c8 a8) ?_;rintro _ bQ ⟨⟨gy,ga,aQ,fD,rfl⟩,bz⟩;refine aa ?_;refine T_ ((aT.trans bz).obj b4) rfl rfl Mj fun de iH c4=>?_;have gm:=iH.ext ((aJ.trans aT).trans bz) fX;refine aa ?_;exact⟨dP,⟨aU,trivial⟩,⟨_,_,_,_,c4⟩,aA.trans gm⟩
 rintro dP S aR ⟨⟨gy,ga,aQ,fD,b4⟩,aA⟩;replace av:=aA.obj av;have bG:=ba.trans aA;refine aa ?_;refine J_ (acP _ m (r:Int) aR (dw.ext bG) aK (aM.ext bG)) ?_;rintro _ bq ⟨⟨bl,js,a,b,rfl,dh,km,bE⟩,aJ⟩;have bU:=bG.trans aJ;replace av:=aJ.obj av;replace b4:=aJ.obj b4;have e9:=o.ara bC bE;have hlen:=apn g1;refine aa ?_;refine J_ (apo _ m bq (dw.ext bU) aK (aM.ext bU)) ?_;rintro aqT bB ⟨⟨j7,n,aG⟩,aT⟩;have c8:=bU.trans aT;replace b4:=aT.obj b4;have fin:∀(W:A_) (bJ:Nat),Ext bB W->(0<b.length->w9 W bJ j7 (o.oc m))->a7 Tryz.prog F.n #[js,.func (.func F.s) #[] #[.pointer (some ⟨bJ,0,none⟩)]] W fun b9 w'=>b9 = .bool (b.any (r7 (o.oc m)))/\Ext W w':=fun W bJ he bZ =>
  apg js b bJ j7 _ W (km.ext Flat.ext (aT.trans he)) bZ fun x ag=>⟨(e9 x ag).1,by have:=e9 x ag;omega⟩
 have kQ:∃p,aqT = .slice p n n/\(0<b.length->p=some ⟨j7,0,none⟩/\n=(o.oc m).length/\bB.heap[j7]? = some (.cells (nQ (o.oc m)).toArray T.n)):=by
  rcases aG with ⟨an,rfl,rfl⟩ | ⟨rfl,ay,_,mF⟩
  .refine⟨none,rfl,fun ak=>?_⟩;have h1:=e9 _ (List.getElem_mem ak);rw[an] at hlen;simp at hlen;omega
  .exact⟨_,rfl,fun _=>⟨rfl,ay,mF⟩⟩
 obtain⟨atP,rfl,ajU⟩:=kQ;refine aa ?_;intro wn bJ nV fm eQ;refine aa ?_;intro bQ dT kM;have bz:Ext bB bQ:=dT.ext fm nV;clear eQ;have dQ:=c8.trans bz;replace b4:=bz.obj b4;have ahQ:0<b.length->w9 bQ bJ j7 (o.oc m):=fun ak=>by
  obtain⟨rfl,rfl,mF⟩:=ajU ak;exact⟨kM,bz.obj mF⟩
 refine aa ?_;apply I_<;>intro g5
 .refine aa ?_;exact⟨⟨true,aU,o.ow.of bC bE ⟨fun _=>.inl g5,fun _=>rfl⟩⟩,dQ⟩
 refine aa ?_;refine J_ (fin bQ bJ bz ahQ) ?_;rintro _ de ⟨rfl,bP⟩;refine aa ?_;refine⟨⟨_,aU,o.ow.of bC bE ?_⟩,dQ.trans bP⟩;rw[ao9 g1 e9];exact⟨.inr,fun h=>h.resolve_left (by omega)⟩
end Go.Proofs.R
end
section
namespace o
open Go
def nH(m:Model)(q l:Int)(i:Nat):Prop := ∃(eX p k:Nat),eM m i eX p k/\(eX:Int)=q/\(bI m p k).from_=l
def oT(m:Model)(q l:Int):Prop:=(check m).cA=0/\∃(eX p:Nat) (h:fI m eX p),(eX:Int)=q/\0<=l/\l<(m.procs[p]'(h.ar)).b8
def Az(m:Model)(L:C_ (C_ Int×C_ Int))(q l:Int):Prop :=
 ∀i,nH m q l i->∀j (aE:j<(refs m).length),(refs m)[j].inst≠q->∀x y,L[i]? = some x->L[j]? = some y->¬sj x.1 x.2 y.1 y.2
structure ot(m:Model)(q l:Int)(t:Bool):Prop where
 off:¬oT m q l->t=false
 there:oT m q l->∀L,mV m (refs m).length L->(t=true↔Az m L q l)
theorem ot.no{m:Model}{q l:Int}(h:¬oT m q l):ot m q l false:=⟨fun _=>rfl,fun k=>absurd k h⟩
theorem ot.of{m:Model}{q l:Int}{t:Bool}{L:C_ (C_ Int×C_ Int)}(dh:oT m q l)(k8:mV m (refs m).length L)(h:t=true↔Az m L q l):ot m q l t :=
 ⟨fun k=>absurd dh k,fun _ mT Nj=>by rw[<-k8.eq Nj];exact h⟩
theorem EZ{m:Model}{q p:Nat}{l:Int}(hk:(check m).cA=0)(a8:fI m q p)(af:0<=l)(h1:l<(m.procs[p]'a8.ar).b8):oT m q l:=⟨hk,q,p,a8,rfl,af,h1⟩
theorem fI.one{m:Model}{q p gz:Nat}(h:fI m q p)(bd:fI m q gz):p=gz:=by
 have a:=h.eq;have b:=bd.eq;omega
theorem oT.lt{m:Model}{q p:Nat}{l:Int}(h:oT m q l)(a8:fI m q p):0<=l/\l<(m.procs[p]'a8.ar).b8:=by
 obtain⟨_,eX,gz,ahx,e,af,h1⟩:=h
 have:eX=q:=by omega
 subst this
 have:=a8.one ahx
 subst this;exact⟨af,h1⟩
theorem oT.aO{m:Model}{q l:Int}(h:oT m q l):0<=q/\q<(insts m).length/\0<=l:=by
 obtain⟨_,eX,gz,a8,e,af,h1⟩:=h
 have:=a8.au
 omega
theorem Wr{m:Model}{q l:Int}{i eX p k:Nat}(bC:eM m i eX p k):nH m q l i↔((eX:Int)=q/\(bI m p k).from_=l):=by
 constructor
 .rintro⟨a,b,c,h,h1,I⟩;obtain⟨rfl,rfl,rfl⟩:=bC.one h;exact⟨h1,I⟩
 .rintro⟨h1,I⟩;exact⟨eX,p,k,bC,h1,I⟩
theorem nH.lt{m:Model}{q l:Int}{i:Nat}(h:nH m q l i):i<(refs m).length:=by
 obtain⟨_,_,_,bC,_⟩:=h
 have:=bC.told.2.2
 omega
theorem Qw:∀l:C_ Int,∃r,sr l r
 | []=>⟨[],List.Pairwise.nil,fun _=>Iff.rfl⟩
 | x :: l=>by
  obtain⟨r,aL⟩:=Qw l;by_cases ag:x∈r
  .exact⟨r,aL.mO,fun y=>by
    rw[aL.mem,List.mem_cons];exact⟨.inr,fun h=>h.elim (fun e=>e ▸ (aL.mem x).1 ag) id⟩⟩
  .refine⟨r.filter (· < x)++x :: r.filter (x < ·),?_,fun y=>?_⟩
   .refine List.pairwise_append.2 ⟨aL.mO.sublist List.filter_sublist,List.pairwise_cons.2 ⟨fun y bS=>?_,aL.mO.sublist List.filter_sublist⟩,fun y bS z bA=>?_⟩
    .simpa using(List.mem_filter.1 bS).2
    .have h1:y<x:=by simpa using(List.mem_filter.1 bS).2
     rcases List.mem_cons.1 bA with e | e
     .omega
     .have I:x<z:=by simpa using(List.mem_filter.1 e).2
      omega
   .rw[List.mem_append,List.mem_cons,List.mem_filter,List.mem_filter,List.mem_cons,<-aL.mem y];simp only[decide_eq_true_eq];constructor
    .rintro(h | h | h)
     .exact .inr h.1
     .exact .inl h
     .exact .inr h.1
    .rintro(h | h)
     .exact .inr (.inl h)
     .have:y≠x:=fun e=>ag (e ▸ h)
      rcases Int.lt_or_lt_of_ne this with k | k
      .exact .inl ⟨h,k⟩
      .exact .inr (.inr ⟨h,k⟩)
theorem Qo(m:Model)(ref:Int):∃a b,kf m ref a b:=by
 by_cases aB:Told m ref
 .obtain⟨q,p,k,bC⟩:=o8 aB;obtain⟨a,aV⟩:=Qw (q4 m q (bI m p k) (bI m p k).bY.length);obtain⟨b,ak⟩:=Qw (nB m q (bI m p k) (bI m p k).bY.length);exact⟨a,b,kf.of bC aV ak⟩
 .exact⟨[],[],kf.nil aB⟩
theorem ab1(m:Model):∀n,∃L,mV m n L
 | 0=>⟨[],mV.nil m⟩
 | n+1=>by
  obtain⟨L,h⟩:=ab1 m n;obtain⟨a,b,bE⟩:=Qo m n;exact⟨_,h.snoc bE⟩
noncomputable def E0(m:Model)(q l:Int):Bool := @decide (oT m q l/\∀L,mV m (refs m).length L->Az m L q l) (Classical.propDecidable _)
theorem ot.is{m:Model}{q l:Int}{t:Bool}(h:ot m q l t):t=E0 m q l:=by
 unfold E0;by_cases dh:oT m q l
 .obtain⟨L,k8⟩:=ab1 m (refs m).length;have h1:=h.there dh L k8;refine Bool.eq_iff_iff.2 (h1.trans ?_);rw[@decide_eq_true_iff _ (Classical.propDecidable _)];exact⟨fun k=>⟨dh,fun mT Nj=>k8.eq Nj ▸ k⟩,fun k=>k.2 L k8⟩
 .rw[h.off dh];exact(@decide_eq_false _ (Classical.propDecidable _) fun k=>dh k.1).symm
noncomputable def uM(m:Model)(ref:Int):Bool := @decide (∃q p k a b,eM m ref q p k/\kf m ref a b/\((bI m p k).to<=(bI m p k).from_\/∃x∈b,x∈qe m)) (Classical.propDecidable _)
theorem ow.is{m:Model}{ref:Int}{t:Bool}(h:ow m ref t):t=uM m ref:=by
 unfold uM;refine Bool.eq_iff_iff.2 ?_;rw[@decide_eq_true_iff _ (Classical.propDecidable _)];constructor
 .intro e;have aB:Told m ref:=Classical.byContradiction fun ay=>by rw[h.none ay] at e;cases e
  obtain⟨q,p,k,bC⟩:=o8 aB;obtain⟨a,b,bE⟩:=Qo m ref;exact⟨q,p,k,a,b,bC,bE,(h.there q p k a b bC bE).1 e⟩
 .rintro⟨q,p,k,a,b,bC,bE,hk⟩;exact(h.there q p k a b bC bE).2 hk
structure kZ where
 cmd:Int
 gJ:Int
 to:List Int
def ye(m:Model)(q:Nat):Nat:=match (insts m)[q]? with
 | some i=>i.proc.toNat
 | none=>0
def lp(m:Model)(s:C_ Int)(r:Nat):C_ kZ:=match (refs m)[r]? with
 | none=>[]
 | some x=>match hp m s x.inst.toNat (bI m (ye m x.inst.toNat) x.cmd.toNat) with
  | none=>[]
  | some t=>⟨r,0,t⟩ :: if ways (bI m (ye m x.inst.toNat) x.cmd.toNat) m.aw=2 then [⟨r,1,lost m s t (bI m (ye m x.inst.toNat) x.cmd.toNat)⟩] else []
def oa(m:Model)(s:C_ Int)(n:Nat):C_ kZ:=(List.range n).flatMap (lp m s)
def hT(m:Model)(s:C_ Int):C_ kZ:=match oa m s (refs m).length with
 | []=>[⟨-1,0,s⟩]
 | l=>l
theorem ZU(m:Model)(s:C_ Int)(n:Nat):oa m s (n+1)=oa m s n++lp m s n:=by
 unfold oa;rw[List.range_succ,List.flatMap_append];simp
theorem amj(m:Model)(s:C_ Int)(r:Nat):(lp m s r).length<=2:=by
 unfold lp;split
 .simp
 .split
  .simp
  .split<;>simp
theorem ZT(m:Model)(s:C_ Int):∀n,(oa m s n).length<=2*n
 | 0=>by simp[oa]
 | n+1=>by
  rw[ZU,List.length_append]
  have:=ZT m s n
  have:=amj m s n
  omega
theorem eM.lp{m:Model}{r q p k:Nat}(h:eM m r q p k)(s:C_ Int):lp m s r=match hp m s q (bI m p k) with
  | none=>[]
  | some t=>⟨r,0,t⟩ :: if ways (bI m p k) m.aw=2 then [⟨r,1,lost m s t (bI m p k)⟩] else []:=by
 have h1:=h.U;have dh:=h.at_;simp only[Int.toNat_natCast] at h1 dh;have bt:(refs m)[r].inst.toNat=q:=by have:=dh.pw;omega
 have aI:(refs m)[r].cmd.toNat=k:=by have:=dh.uH;omega
 have ba:ye m q=p:=by
  unfold ye;rw[List.getElem?_eq_getElem dh.U]
  have:=dh.ip
  simp only;omega
 unfold o.lp;rw[List.getElem?_eq_getElem h1];simp only[bt,aI,ba]
theorem eM.off{m:Model}{r q p k:Nat}(h:eM m r q p k){s:C_ Int}(bd:hp m s q (bI m p k)=none):o.lp m s r=[]:=by rw[h.lp,bd]
theorem eM.aad{m:Model}{r q p k:Nat}(h:eM m r q p k){s t:C_ Int}(bd:hp m s q (bI m p k)=some t)(hw:¬ways (bI m p k) m.aw=2):o.lp m s r=[⟨r,0,t⟩]:=by
 rw[h.lp,bd];simp only[if_neg hw]
theorem eM.amS{m:Model}{r q p k:Nat}(h:eM m r q p k){s t:C_ Int}(bd:hp m s q (bI m p k)=some t)(hw:ways (bI m p k) m.aw=2):o.lp m s r=[⟨r,0,t⟩,⟨r,1,lost m s t (bI m p k)⟩]:=by
 rw[h.lp,bd];simp only[if_pos hw]
structure LA(m:Model)(s:List Int)(x:kZ)(q p k:Nat)(u:List Int):Prop where
 at_:eM m x.cmd q p k
 aff:hp m s q (bI m p k)=some u
 aqf:x.gJ=0/\x.to=u\/x.gJ=1/\ways (bI m p k) m.aw=2/\x.to=lost m s u (bI m p k)
theorem ami{m:Model}{s:C_ Int}{r:Nat}(hk:(check m).cA=0)(aL:r<(refs m).length){x:kZ}(ag:x∈lp m s r):∃q p k u,LA m s x q p k u/\x.cmd=r:=by
 obtain⟨q,p,k,bC⟩:=o8 (m:=m) (ref:=r) ⟨hk,by omega,by omega⟩;cases h:hp m s q (bI m p k) with
 | none=>rw[bC.off h] at ag;cases ag
 | some u =>
  by_cases hw:ways (bI m p k) m.aw=2
  .rw[bC.amS h hw] at ag;simp only[List.mem_cons,List.not_mem_nil,or_false] at ag;rcases ag with rfl | rfl
   .exact⟨q,p,k,u,⟨bC,h,.inl ⟨rfl,rfl⟩⟩,rfl⟩
   .exact⟨q,p,k,u,⟨bC,h,.inr ⟨rfl,hw,rfl⟩⟩,rfl⟩
  .rw[bC.aad h hw] at ag;simp only[List.mem_cons,List.not_mem_nil,or_false] at ag;subst ag;exact⟨q,p,k,u,⟨bC,h,.inl ⟨rfl,rfl⟩⟩,rfl⟩
theorem ZV{m:Model}{s:C_ Int}(hk:(check m).cA=0){x:kZ}(ag:x∈hT m s):(x.cmd = -1/\x.gJ=0/\x.to=s)\/∃q p k u,LA m s x q p k u:=by
 have key:x∈oa m s (refs m).length->∃q p k u,LA m s x q p k u:=fun h=>by
  unfold oa at h;obtain⟨r,aL,ag⟩:=List.mem_flatMap.1 h;obtain⟨q,p,k,u,h,_⟩:=ami hk (List.mem_range.1 aL) ag;exact⟨q,p,k,u,h⟩
 unfold hT at ag;split at ag
 .simp only[List.mem_cons,List.not_mem_nil,or_false] at ag;subst ag;exact .inl ⟨rfl,rfl,rfl⟩
 .exact .inr (key ag)
theorem K6{m:Model}{c:dI}(h:ways c m.aw=2):∃j:Nat,(comm c.bY).2=j/\j<m.aw.length:=by
 obtain⟨j,h1,I,_⟩:=aqY (c:=c) (l:=m.aw) (by omega);exact⟨j,h1,I⟩
theorem alY{m:Model}{s t:C_ Int}{c:dI}{l:C_ Int}(ax:s.length=dW m)(h:eI s t l)(hw:ways c m.aw=2):eI s (lost m s t c) l:=by
 obtain⟨j,aE,np⟩:=K6 hw;have rT:=o5 np;unfold lost;rw[aE,Int.toNat_natCast];have dR:(chanOf m s j).length=1+gN m j:=tM (by omega);have U:cq m j+(chanOf m s j).length<=t.length:=by rw[dR,h.1];omega
 refine⟨(EO U).trans h.1,fun c ah=>?_⟩;rw[v8 U] at ah;split at ah
 .rename_i aL;refine absurd ?_ ah;rw[dR] at aL;unfold chanOf;rw[List.getElem?_take_of_lt (by omega),List.getElem?_drop];congr 1;omega
 .exact h.2 c ah
theorem K7(c:dI)(l:C_ dv):ways c l<=2:=by
 unfold ways;split
 .split
  .split<;>omega
  .omega
 .omega
theorem aiN{c:dI}{b8:Int}(h:head c b8=0):0<=c.from_/\c.from_<b8/\0<=c.to/\c.to<b8:=by
 unfold head at h;by_cases cV:isName c.name=false
 .rw[if_pos cV] at h;exact absurd h (by decide)
 rw[if_neg cV] at h;by_cases dq:c.from_<0\/b8<=c.from_\/c.to<0\/b8<=c.to
 .rw[if_pos dq] at h;exact absurd h (by decide)
 omega
theorem aeS{m:Model}(h:(check m).cA=0){p k:Nat}(ar:p<m.procs.length)(hk:k<m.procs[p].cL.length):0<=m.procs[p].cL[k].from_/\m.procs[p].cL[k].from_<m.procs[p].b8/\0<=m.procs[p].cL[k].to/\m.procs[p].cL[k].to<m.procs[p].b8:=by
 obtain⟨dZ,_,_⟩:=Kq (Mf h);obtain⟨_,cC,_,_⟩:=Bd ar (dZ p ar);obtain⟨_,_,hI⟩:=Qa cC;have aY:=(GY _ _ hI k hk).1;unfold jg at aY;by_cases h1:head m.procs[p].cL[k] m.procs[p].b8≠0
 .rw[if_pos h1] at aY;exact absurd aY h1
 .exact aiN (Classical.byContradiction h1)
theorem eM.b8{m:Model}{ref:Int}{q p k:Nat}(h:eM m ref q p k):0<=(bI m p k).to/\(bI m p k).to<(m.procs[p]'(h.at_.ar)).b8:=by
 have:=aeS h.ok h.at_.ar h.at_.hk
 rw[xl h.at_.ar h.at_.hk];omega
theorem Ve{m:Model}{ref:Int}{q p k:Nat}(bC:eM m ref q p k){s t:C_ Int}(ax:Fits m s)(h:hp m s q (bI m p k)=some t):Fits m t:=by
 have a1:=ir bC.ok;unfold hp at h;split at h
 .cases h
 split at h
 .cases h
 cases h1:kh m q (bI m p k).bY s with
 | none=>rw[h1] at h;cases h
 | some u =>
  rw[h1] at h;have e:u.set (dj m q) (bI m p k).to=t:=by injection h
  subst e;have hu:=Uv a1 bC.inst _ s u (fun a aV=>by
   obtain⟨j,aE,rfl⟩:=List.mem_iff_getElem.1 aV;exact bC.cin.act j aE) ax h1
  refine Wj hu (.inr (by have:=Jn (m:=m) (q:=q) 0;omega)) fun ah=>?_;obtain⟨_,I,ab⟩:=Zz bC.inst.au bC.inst.ar bC.inst.UP
  have:=bC.b8
  omega
theorem ZM{m:Model}(a1:eL m){s t:C_ Int}{c:dI}(ax:Fits m s)(aB:Fits m t)(hw:ways c m.aw=2):Fits m (lost m s t c):=by
 obtain⟨j,aE,np⟩:=K6 hw;have rT:=o5 np;have h7:=(a1.chan _ (List.getElem_mem np)).cap;have eQ:=o6 np;unfold lost;rw[aE,Int.toNat_natCast];have dR:(chanOf m s j).length=1+gN m j:=tM (by rw[ax.len];omega);refine MS aB np (by omega) dR ?_
 have:=ax.queue j np
 unfold mv at this;unfold chanOf;rw[eQ];exact this
theorem uX.right{m:Model}{s t:C_ Int}{ref gJ:Int}(h:uX m s ref gJ t 0):hb m s/\hb m t/\∃q p k,eM m ref q p k/\eI s t (nB m q (bI m p k) (bI m p k).bY.length):=by
 have af:hb m s/\Told m ref:=Classical.byContradiction fun ay=>absurd (h.f0 ay).2 (by decide);obtain⟨bE,aB⟩:=af;obtain⟨q,p,k,bC⟩:=o8 aB;have hw:0<=gJ/\gJ<ways (bI m p k) m.aw:=Classical.byContradiction fun ay=>absurd (h.f1 q p k bE bC ay).2 (by decide);cases a6:hp m s q (bI m p k) with
 | none=>exact absurd (h.f2 q p k bE bC hw a6).2 (by decide)
 | some u =>
  obtain⟨e,_⟩:=h.f3 q p k u bE bC hw a6;have hu:=Ve bC bE.2 a6;have ah:=Vd bC.inst.au rfl bC.cin bE.2.len a6;have I8:=K7 (bI m p k) m.aw;refine⟨bE,?_,q,p,k,bC,?_⟩
  .rw[e];split
   .exact⟨bE.1,ZM (ir bE.1) bE.2 hu (by omega)⟩
   .exact⟨bE.1,hu⟩
  .rw[e];split
   .exact alY bE.2.len ah (by omega)
   .exact ah
theorem aqy{m:Model}{s t:C_ Int}{ref gJ:Int}{b:C_ Int}{a:C_ Int}(bZ:ow m ref false)(bE:kf m ref a b)(h:uX m s ref gJ t 0):qa m s=qa m t/\(qa m t).2=0:=by
 obtain⟨aL,aB,q,p,k,bC,ah⟩:=h.right;have hg:=bZ.there q p k a b bC bE;have cw:∀x∈b,x∉qe m:=fun x h1 I=>by
  have:=hg.2 (.inr ⟨x,h1,I⟩)
  cases this
 have ak:=(bE.there q p k bC).2;rw[Pu aL.1 aL.2,Pu aL.1 aB.2];refine⟨?_,rfl⟩;congr 1;refine aqk aL.1 fun oM ar x ag=>?_;have p7:x∈qe m:=List.mem_flatMap.2 ⟨oM,ar,ag⟩;have af:=(apl aL.1 (ir aL.1) x p7).1;refine Classical.byContradiction fun ajy=>cw x ?_ p7;refine(ak.mem x).2 ?_
 have:=ah.2 x.toNat fun e=>ajy e.symm
 rwa[show((x.toNat:Nat):Int)=x from by omega] at this
theorem amz{m:Model}{ref:Int}{q p k:Nat}(bC:eM m ref q p k)(bZ:ow m ref false)(bE:∃a b,kf m ref a b):(bI m p k).from_<(bI m p k).to:=by
 obtain⟨a,b,bE⟩:=bE;refine Classical.byContradiction fun ay=>?_
 have:=(bZ.there q p k a b bC bE).2 (.inl (by omega))
 cases this
def CB(m:Model)(s t:C_ Int)(c:dI)(gJ:Int):C_ Int:=if gJ=1 then lost m s t c else t
theorem aqV{m:Model}(a1:eL m){s t:C_ Int}{c:dI}{gJ:Int}(ax:Fits m s)(aB:Fits m t)(hw:gJ<ways c m.aw):Fits m (CB m s t c gJ):=by
 unfold CB;split
 .have:=K7 c m.aw
  exact ZM a1 ax aB (by omega)
 .exact aB
def wY(m:Model)(s:C_ Int)(r:Nat):Prop := ∃q p k,eM m r q p k/\hp m s q (bI m p k)≠none
def mL(m:Model)(s:C_ Int)(j:Nat):Int:=(s[dj m j]?).getD 0
structure qk(m:Model)(s:List Int)(j:Nat):Prop where
 loc:E0 m j (mL m s j)=true
 Dx:∀r,nH m j (mL m s j) r->uM m r=false
 on:∃r,nH m j (mL m s j) r/\wY m s r
structure sk(m:Model)(s:List Int)(i:Int):Prop where
 bad:¬hb m s->i = -1
 none:hb m s->i<0->i = -1/\∀j,j<(insts m).length->¬qk m s j
 some:hb m s->0<=i->i.toNat<(insts m).length/\qk m s i.toNat/\∀j,j<i.toNat->¬qk m s j
theorem sk.eq{m:Model}{s:C_ Int}{i p8:Int}(h:sk m s i)(k:sk m s p8):i=p8:=by
 by_cases bE:hb m s
 .by_cases h1:i<0
  .obtain⟨bt,lq⟩:=h.none bE h1;by_cases I:p8<0
   .rw[bt,(k.none bE I).1]
   .obtain⟨a,b,_⟩:=k.some bE (by omega);exact absurd b (lq _ a)
  .obtain⟨a,b,c⟩:=h.some bE (by omega);by_cases I:p8<0
   .exact absurd b ((k.none bE I).2 _ a)
   .obtain⟨cD,gL,kE⟩:=k.some bE (by omega);rcases Nat.lt_trichotomy i.toNat p8.toNat with q | q | q
    .exact absurd b (kE _ q)
    .omega
    .exact absurd gL (c _ q)
 .rw[h.bad bE,k.bad bE]
theorem wY.from_{m:Model}{s:C_ Int}{r q p k:Nat}(bC:eM m r q p k)(ax:Fits m s)(h:hp m s q (bI m p k)≠none):(bI m p k).from_=mL m s q:=by
 unfold hp at h;split at h
 .exact absurd rfl h
 .rename_i au;unfold mL
  have:s[dj m q]? = some (bI m p k).from_:=Classical.not_not.1 au
  rw[this];rfl
theorem aml{m:Model}{s:C_ Int}{x:kZ}(bE:hb m s)(ag:x∈hT m s)(af:0<=x.cmd):∃q p k u,eM m x.cmd q p k/\hp m s q (bI m p k)=some u/\0<=x.gJ/\x.gJ<ways (bI m p k) m.aw/\x.to=CB m s u (bI m p k) x.gJ:=by
 rcases ZV bE.1 ag with ⟨ay,_⟩ | ⟨q,p,k,u,h⟩
 .omega
 .refine⟨q,p,k,u,h.at_,h.aff,?_⟩;have ar:=aqW (bI m p k) m.aw;rcases h.aqf with ⟨hw,aB⟩ | ⟨hw,I,aB⟩
  .rw[hw];exact⟨by omega,by omega,by rw[aB];unfold CB;rw[if_neg (by omega)]⟩
  .rw[hw];exact⟨by omega,by omega,by rw[aB];unfold CB;rw[if_pos rfl]⟩
theorem anC{m:Model}{s:C_ Int}{i:Nat}(bE:hb m s)(dK:qk m s i){x:kZ}(ag:x∈hT m s){r:Nat}(aL:x.cmd=r)(s5:r<(refs m).length)(as3:(refs m)[r].inst=(i:Int)) :
  qa m s=qa m x.to/\(qa m x.to).2=0/\mL m s i<mL m x.to i/\hb m x.to:=by
 obtain⟨q,p,k,u,bC,a6,BU,ht,aB⟩:=aml bE ag (by omega);have au:q=i:=by
  rw[aL] at bC
  have:=bC.at_.pw
  simp only[Int.toNat_natCast] at this;omega
 subst au;have a1:=ir bE.1;have hu:=Ve bC bE.2 a6;have nY:(bI m p k).from_=mL m s q:=wY.from_ (r:=r) (aL ▸ bC) bE.2 (by rw[a6];simp);have vN:nH m q (mL m s q) r:=⟨q,p,k,aL ▸ bC,rfl,nY⟩;have W0:=dK.Dx r vN;have ahs:uX m s x.cmd x.gJ x.to 0:=by
  have:=uX.some bC bE ⟨BU,ht⟩ a6
  rw[aB];exact this
 obtain⟨a,b,Br⟩:=Qo m x.cmd;have bZ:ow m x.cmd false:=ow.of bC Br ⟨fun h=>(by cases h),fun h=>by
  unfold uM at W0
  have := @of_decide_eq_false _ (Classical.propDecidable _) W0
  exact absurd ⟨q,p,k,a,b,aL ▸ bC,aL ▸ Br,h⟩ this⟩
 obtain⟨bt,aI⟩:=aqy bZ Br ahs;have aiZ:=amz bC bZ ⟨a,b,Br⟩;refine⟨bt,aI,?_,bE.1,by rw[aB];exact aqV a1 bE.2 hu ht⟩;have ajm:mL m x.to q=(bI m p k).to:=by
  unfold hp at a6;split at a6
  .cases a6
  split at a6
  .cases a6
  cases h1:kh m q (bI m p k).bY s with
  | none=>rw[h1] at a6;cases a6
  | some t =>
   rw[h1] at a6;have e:t.set (dj m q) (bI m p k).to=u:=by injection a6
   have aj5:dj m q<t.length:=by
    have h1:=hu.len;rw[<-e,List.length_set] at h1
    have:=bC.inst.room
    omega
   have Yy:u[dj m q]? = some (bI m p k).to:=by rw[<-e,List.getElem?_set_self aj5]
   have mG:x.to[dj m q]? = some (bI m p k).to:=by
    rw[aB];unfold CB;split
    .have I8:=K7 (bI m p k) m.aw;obtain⟨j,aE,np⟩:=K6 (m:=m) (c:=bI m p k) (by omega);have rT:=o5 np;have xS:=Jn (m:=m) (q:=q) 0;have nn:=tL np;have ek:(chanOf m s j).length=1+gN m j:=tM (by rw[bE.2.len];exact rT);unfold lost;rw[aE,Int.toNat_natCast,v8 (by rw[hu.len,ek];exact rT),ek,if_neg ?_]
     .exact Yy
     .have:cq m j+(1+gN m j)<=total (cO m)+total (dr m):=by
       have bt:=L4 np;have aI:=GQ (m:=m) (m.aw.length - (j+1)) (j+1) (by omega);have ba:cq m m.aw.length=total (cO m)+total (dr m):=by
        unfold cq;rw[List.take_of_length_le (by simp[dr])]
       rw[show j+1+(m.aw.length - (j+1))=m.aw.length from by omega] at aI;omega
      omega
    .exact Yy
   unfold mL;rw[mG];rfl
 rw[ajm,<-nY];exact aiZ
def Bk(m:Model)(r:Nat):Int:=match (refs m)[r]? with
 | some x=>(bI m (ye m x.inst.toNat) x.cmd.toNat).from_
 | none=>0
def zF(m:Model)(r:Nat):Int:=match (refs m)[r]? with
 | some x=>x.inst
 | none => -1
def pc(m:Model)(q l:Int)(r:Nat):Bool:=decide (zF m r=q)&&decide (Bk m r=l)
theorem eM.rel{m:Model}{r q p k:Nat}(h:eM m r q p k):zF m r=q/\Bk m r=(bI m p k).from_:=by
 have h1:=h.U;have dh:=h.at_;simp only[Int.toNat_natCast] at h1 dh;have bt:(refs m)[r].inst.toNat=q:=by have:=dh.pw;omega
 have aI:(refs m)[r].cmd.toNat=k:=by have:=dh.uH;omega
 have ba:ye m q=p:=by
  unfold ye;rw[List.getElem?_eq_getElem dh.U]
  have:=dh.ip
  simp only;omega
 unfold zF Bk;rw[List.getElem?_eq_getElem h1];simp only[bt,aI,ba,and_true];exact dh.pw
theorem HU{m:Model}{q l:Int}{r:Nat}(hk:(check m).cA=0)(aL:r<(refs m).length):pc m q l r=true↔nH m q l r:=by
 obtain⟨eX,p,k,bC⟩:=o8 (m:=m) (ref:=r) ⟨hk,by omega,by omega⟩;obtain⟨h1,I⟩:=bC.rel;rw[Wr bC];unfold pc;rw[h1,I,Bool.and_eq_true,decide_eq_true_eq,decide_eq_true_eq]
structure acE(m:Model)(s:List Int)(q l:Int):Prop where
 loc:E0 m q l=true
 Dx:∀r,nH m q l r->uM m r=false
 on:∃r,nH m q l r/\wY m s r
theorem afC{m:Model}{s:C_ Int}{j:Nat}:qk m s j↔acE m s j (mL m s j):=⟨fun h=>⟨h.loc,h.Dx,h.on⟩,fun h=>⟨h.loc,h.Dx,h.on⟩⟩
def r4(m:Model)(i:Int)(x:kZ):Bool:=decide (0<=x.cmd)&&decide (zF m x.cmd.toNat=i)
def kT(m:Model)(s:C_ Int)(i:Int):C_ kZ:=if i<0 then hT m s else (hT m s).filter (r4 m i)
theorem amk{m:Model}{s:C_ Int}(hk:(check m).cA=0){x:kZ}(ag:x∈hT m s):x.cmd = -1\/(0<=x.cmd/\x.cmd.toNat<(refs m).length):=by
 rcases ZV hk ag with ⟨h,_⟩ | ⟨q,p,k,u,h⟩
 .exact .inl h
 .exact .inr ⟨h.at_.aO,h.at_.U⟩
end o
end
section
namespace o
theorem akX(s:C_ Int)(p:Nat)(x:Int)(xs:C_ Int)(h:p+(xs.length+1)<=s.length):jY (s.set p x) (p+1) xs=jY s p (x :: xs):=by
 have h1:p+1+xs.length<=(s.set p x).length:=by rw[List.length_set];omega
 have I:p+(x :: xs).length<=s.length:=by simpa using h
 apply List.ext_getElem?;intro i;rw[v8 h1,v8 I];by_cases U:i=p
 .subst U;rw[if_neg (by omega),if_pos ⟨by omega,by simp⟩,List.getElem?_set_self (by omega)];simp
 .by_cases aL:p+1<=i/\i<p+1+xs.length
  .rw[if_pos aL,if_pos ⟨by omega,by simp;omega⟩,show i - p=(i - (p+1))+1 from by omega,List.getElem?_cons_succ]
  .rw[if_neg aL,if_neg (by simp;omega),List.getElem?_set_ne (by omega)]
theorem YZ(s:C_ Int)(p:Nat):jY s p []=s:=by simp[jY]
end o
namespace bb
open Go Go.RowKit
theorem aai{e:F_}{base:Nat}{w:A_}{l:C_ Int}{g n c k:Nat}{x:Int}(h:aW cR e 1 base w (.slice (some ⟨g,0,none⟩) n c) l)(hk:k<l.length) :
  aW cR e 1 base (w.setCell ⟨g,k,none⟩ (.int .i64 x)) (.slice (some ⟨g,0,none⟩) n c) (l.set k x)/\(∃hx,w.cell? ⟨g,k,none⟩=some hx)/\w.frozen? ⟨g,k,none⟩=false:=by
 rcases h.2 with ⟨ay,af⟩ | ⟨agU,cap,cur,h1,I,ab,aD,aY,bx,b1⟩
 .cases ay
 .injection h1 with bt aI ba
  injection bt with bt
  injection bt with bt
  subst bt ba;have ch:k<cur.size:=by omega
  have iT:Addr.add ⟨g,0,none⟩ k=⟨g,k,none⟩:=by rw[add_eq,Nat.zero_add]
  have ah:w.cell? (Addr.add ⟨g,0,none⟩ k)=some cur[k]:=fQ ab (Array.getElem?_eq_getElem ch);rw[iT] at ah;have bd:w.ownsRow base e 1 (.slice (some ⟨g,0,none⟩) l.length c) l.length (l.flatMap cR):=by unfold aW at h;rw[aI] at h;exact h
  have an:=World.ownsRow.stored bd k (.int .i64 x);rw[MT] at an;refine⟨?_,⟨_,ah⟩,by simp[World.frozen?,ab]⟩;unfold aW;rw[List.length_set,aI];exact an.1
theorem aaj{e:F_}{base:Nat}{g n c p:Nat}:∀(xs:C_ Int) (i:Nat) (w:A_) (l:C_ Int),aW cR e 1 base w (.slice (some ⟨g,0,none⟩) n c) l->p+i+xs.length<=l.length ->
  aW cR e 1 base (ic w ⟨g,p,none⟩ (xs.flatMap cR) i) (.slice (some ⟨g,0,none⟩) n c) (o.jY l (p+i) xs)
 | [],i,w,l,h,_=>by rw[o.YZ];exact h
 | x :: xs,i,w,l,h,aF=>by
  have im:p+i+(xs.length+1)<=l.length:=by simpa using aF
  have h1:=(aai (x:=x) h (k:=p+i) (by omega)).1;have I:=aaj (p:=p) xs (i+1) _ _ h1 (by rw[List.length_set];omega);rw[<-Nat.add_assoc,o.akX _ _ _ _ im] at I;show aW cR e 1 base (ic (w.setCell (Addr.add ⟨g,p,none⟩ i) (.int .i64 x)) ⟨g,p,none⟩ (xs.flatMap cR) (i+1)) _ _;rw[add_eq];exact I
theorem _c{S:Fr}{w:A_}{aC:B_->Prop}{n cap g:Nat}{x y:G_}{k k':IntKind}{xs:C_ Int}{t}(l u:Nat)(an:bh 1 (Flat cR) w (.slice (some ⟨g,0,none⟩) n cap) xs)(ag:aS S x = .int k (l:Int))(bS:aS S y = .int k' (u:Int))(aF:l<=u)(hu:u<=xs.length)
  (hk:∀ad c,(0<u - l->ad=some ⟨g,l,none⟩)->bh 1 (Flat cR) w (.slice ad (u - l) c) ((xs.drop l).take (u - l))->aC (.slice ad (u - l) c)):su S 1 (.slice (some ⟨g,0,none⟩) n cap) (some x) (some y) none aC t:=by
 obtain⟨bt,aI,ba⟩:=an.len;refine _C l u cap (by simp[eG,ag]) (by simp[eG,bS]) (by simp[eG]) ⟨aF,by omega,Nat.le_refl _⟩ (by simp) ?_;refine hk _ _ (fun af=>?_) (an.sub l u aF hu);rw[if_neg (by omega)];simp[add_eq]
theorem AD7{S:Fr}{w:A_}{aC:B_->Prop}{n cap g:Nat}{x:G_}{k:IntKind}{xs:C_ Int}{t}(l:Nat)(an:bh 1 (Flat cR) w (.slice (some ⟨g,0,none⟩) n cap) xs)(ag:aS S x = .int k (l:Int))(aF:l<=xs.length)
  (hk:∀ad c,(0<n - l->ad=some ⟨g,l,none⟩)->aC (.slice ad (n - l) c)):su S 1 (.slice (some ⟨g,0,none⟩) n cap) (some x) none none aC t:=by
 obtain⟨bt,aI,ba⟩:=an.len;refine _C l n cap (by simp[eG,ag]) (by simp[eG]) (by simp[eG]) ⟨by omega,by omega,Nat.le_refl _⟩ (by simp) ?_;refine hk _ _ (fun af=>?_);rw[if_neg (by omega)];simp[add_eq]
theorem _d{P:D_}{S:Fr}{w:A_}{e cz:F_}{base g n c p k qB m cs:Nat}{l xs:C_ Int}{x y:G_}{ad os:H_ Addr}{cW:B_->A_->Prop}{ty:F_}{t}(aM:aW cR e 1 base w (.slice (some ⟨g,0,none⟩) n c) l)(OM:bh 1 (Flat cR) w (.slice os m cs) xs)
  (ag:aS S x = .slice ad k qB)(bS:aS S y = .slice os m cs)(a6:0<k->ad=some ⟨g,p,none⟩)(ar:p+k<=l.length)(hu:P.underlying cz=some (.slice e))(bA:(P.info? e).map (·.size)=some 1)
  (hk:∀u w1,dn g w w1->aW cR e 1 base w1 (.slice (some ⟨g,0,none⟩) n c) (o.jY l p (xs.take k))->cW u w1):sn P (.call ⟨.builtin .copy,#[x,y],#[cz,cz]⟩) ty S w cW t:=by
 obtain⟨inf,U,fP⟩:=Option.map_eq_some_iff.1 bA;obtain⟨bt,aI,ba⟩:=OM.len;subst bt;have Yd:(xs.take k).length=min k xs.length:=List.length_take;have aiA:∀a,os=some a->e0 w a ((xs.take k).flatMap cR):=fun a aV j v aE=>by
  have l7:(List.map (Value.int .i64) (xs.take k))[j]? = some v:=by rw[<-aE];congr 1;induction xs.take k with | nil=>rfl | cons q r eS=>simp[cR,eS]
  rw[List.getElem?_map] at l7;cases au:(xs.take k)[j]? with
  | none=>rw[au] at l7;cases l7
  | some q =>
   rw[au] at l7;have bG:v = .int .i64 q:=by simpa using l7.symm
   subst bG;obtain⟨ch,zB⟩:=List.getElem?_eq_some_iff.1 au;rw[Yd] at ch;subst aV;have I:=OM.at j (by omega);have ab:w.cell? ((a.add (j*1)).add 0)=some (.int .i64 xs[j]):=I 0 _ rfl;rw[add_zero,Nat.mul_one] at ab;rw[ab]
   have:(xs.take k)[j]=xs[j]:=by simp
   rw[this] at zB;rw[zB]
 have lI:((xs.take k).flatMap cR).length=min xs.length k:=by rw[xy (sz:=1) (fun _=>rfl),Yd];omega
 have NZ:(Builtin.firstCells 1 (min xs.length k) (.slice os xs.length cs)).run P w = .ok ((xs.take k).flatMap cR).toArray w:=by
  cases os with
  | none =>
   have af:xs=[]:=by
    cases p7:xs with
    | nil=>rfl
    | cons q r=>obtain⟨a,aV⟩:=OM.addr (by rw[p7];simp);cases aV
   subst af;simp[Builtin.firstCells]
  | some a =>
   have h1:=run_loadCells_list (P:=P) w a _ (aiA a rfl);rw[lI] at h1;simp only[Builtin.firstCells,Nat.mul_one];exact h1
 rcases Nat.eq_zero_or_pos k with gb | gb
 .subst gb;have bU:(xs.take 0).flatMap cR=[]:=rfl;rw[bU,Nat.min_zero] at NZ;refine _E (v:=goInt 0) (w':=w) ?_ (hk _ _ (dn.refl _ _) (by rw[show xs.take 0=[] from rfl,o.YZ];exact aM));cases ad<;>simp[execOp,resolve,invoke,builtin,ag,bS,Builtin.copy_,run_underlying hu,Builtin.lenOf,px U,fP,NZ,storeCells]
 .obtain rfl:=a6 gb;have h9:=Fz P ⟨g,p,none⟩ ((xs.take k).flatMap cR) 0 w (fun j aE=>by
   rw[Nat.zero_add,add_eq];exact(aai (x:=0) aM (k:=p+j) (by omega)).2) (fun q au=>by
   obtain⟨z,_,rU⟩:=List.mem_flatMap.1 au;rw[List.mem_singleton.1 rU];rfl)
  refine _E (v:=goInt ((Nat.min xs.length k:Nat):Int)) (w':=ic w ⟨g,p,none⟩ ((xs.take k).flatMap cR) 0) ?_ (hk _ _ (dn.ic _ w ⟨g,p,none⟩ 0) (aaj _ 0 w l aM (by omega)));simp[execOp,resolve,invoke,builtin,ag,bS,Builtin.copy_,run_underlying hu,Builtin.lenOf,px U,fP,NZ,h9]
theorem AD8{α:Type}{S:Fr}{w:A_}{aC:B_->Prop}{sz n cap:Nat}{R:A_->Addr->α->Prop}{aQ:H_ Addr}{x y z:G_}{k k' k'':IntKind}{xs:C_ α}{t}(l u:Nat)(an:bh sz R w (.slice aQ n cap) xs)(ag:aS S x = .int k (l:Int))(bS:aS S y = .int k' (u:Int))(bA:aS S z = .int k'' (u:Int))(aF:l<=u)(hu:u<=xs.length)
  (hk:∀ad,bh sz R w (.slice ad (u - l) (u - l)) ((xs.drop l).take (u - l))->aC (.slice ad (u - l) (u - l))):su S sz (.slice aQ n cap) (some x) (some y) (some z) aC t:=by
 obtain⟨bt,aI,ba⟩:=an.len;refine _C l u u (by simp[eG,ag]) (by simp[eG,bS]) (by simp[eG,bA]) ⟨aF,Nat.le_refl _,by omega⟩ (by simp) ?_;refine hk _ ?_;have hlen:((xs.drop l).take (u - l)).length=u - l:=by rw[List.length_take,List.length_drop];omega
 by_cases Yz:u=l
 .subst Yz;have af:(xs.drop u).take (u - u)=[]:=by rw[Nat.sub_self];rfl
  rw[af];rw[if_pos rfl,Nat.sub_self];exact⟨aQ,0,rfl,Nat.le_refl _,Nat.zero_le _,fun h=>absurd rfl h,fun a _ i U=>absurd U (Nat.not_lt_zero _)⟩
 .have h:=an.sub l u aF hu;rw[if_neg (by omega)] at h;rw[if_neg Yz];obtain⟨o',kE,e,h1,I,ab,aD⟩:=h;injection e with f1 f2 f3
  subst f1;exact⟨_,_,by rw[hlen],by rw[hlen];exact Nat.le_refl _,by omega,ab,aD⟩
end bb
namespace o
theorem ak1{l:C_ Int}(af:0<l.length)(h1:0<=l[0])(I:l[0]<=(l.length:Int) - 1):lo l = !((l.drop (1+l[0].toNat)).any fun n=>decide (n≠0)):=by
 cases l with
 | nil=>simp at af
 | cons n r =>
  simp only[List.getElem_cons_zero,List.length_cons] at h1 I ⊢;rw[Nat.add_comm,List.drop_succ_cons];unfold lo;show(decide (0<=n/\n<=(r.length:Int))&&(r.drop n.toNat).all fun x=>decide (x=0))=_;rw[decide_eq_true (by omega),Bool.true_and,List.not_any_eq_all_not];congr 1;funext x;by_cases h:x=0<;>simp[h]
theorem Y3{l:C_ Int}(h:∀af:0<l.length,¬(0<=l[0]/\l[0]<=(l.length:Int) - 1)):lo l=false:=by
 cases au:lo l with
 | false=>rfl
 | true =>
  obtain⟨af,h1,I,_⟩:=Jf.1 au;exact absurd ⟨h1,I⟩ (h af)
theorem ant(n:Nat)(l:C_ Int)(h:1<=n):jY ((List.replicate n 0).set 0 (l.length:Int)) 1 (l.take (n - 1))=tn n l:=by
 have hlen:1+(l.take (n - 1)).length<=((List.replicate n (0:Int)).set 0 (l.length:Int)).length:=by
  rw[List.length_set,List.length_replicate,List.length_take];omega
 apply List.ext_getElem?;intro i;rw[v8 hlen];have rM:(l.take (n - 1)).length=min (n - 1) l.length:=List.length_take;cases i with
 | zero =>
  rw[if_neg (by omega),List.getElem?_set_self (by rw[List.length_replicate];omega)];simp[tn]
 | succ i =>
  by_cases U:i+1<n
  .rw[aal U];by_cases lJ:i<l.length
   .rw[if_pos (by omega),show i+1 - 1=i from rfl,List.getElem?_take_of_lt (by omega),List.getElem?_eq_getElem lJ];simp[lJ]
   .rw[if_neg (by omega),List.getElem?_set_ne (by omega),List.getElem?_replicate,if_pos U];simp[List.getD,List.getElem?_eq_none (show l.length<=i by omega)]
  .rw[if_neg (by omega),List.getElem?_eq_none (by rw[List.length_set,List.length_replicate];omega),List.getElem?_eq_none (by rw[P3 h];omega)]
end o
namespace Go.Proofs.R
open Go Go.RowKit bb
theorem amC(n aO U:Int)(w:A_):a7 Tryz.prog F.f3 #[.int .i64 n,.int .i64 aO,.int .i64 U] w fun v w'=>(∃t:Bool,v = .bool t/\(t=true↔aO<=n/\n<=U))/\Ext w w':=by
 refine bn E.f3 ?_;refine aa ?_;refine I_ (fun g=>?_) (fun g=>?_)
 .refine aa ?_;exact⟨⟨_,rfl,by rw[decide_eq_true_eq];exact⟨fun h=>⟨g,h⟩,fun h=>h.2⟩⟩,Ext.refl _⟩
 .refine aa ?_;exact⟨⟨false,rfl,by simp only[Bool.false_eq_true,false_iff];exact fun h=>g h.1⟩,Ext.refl _⟩
theorem aet(n:Int)(w:A_):a7 Tryz.prog F.as #[.int .i64 n] w fun v w'=>v = .bool (decide (n≠0))/\Ext w w':=by
 refine bn E.as ?_;refine aa ?_;refine⟨?_,Ext.refl _⟩
 first | trivial | (congr 1;simp)
theorem aeL(v:B_)(l:C_ Int)(w:A_)(h:ee w v l) :
  a7 Tryz.prog F.p #[v,.func (.func F.as) #[] #[]] w fun b9 w'=>b9 = .int .i64 (lE (fun n=>decide (n≠0)) l 0)/\Ext w w':=by
 obtain⟨bO,c1,rfl,bo⟩:=h.form;refine u1 E.p ?_;refine nO ?_;refine aa ?_;refine L_ 8 l.length [0,1,7] (fun _:Unit=>[]) () (fun k _ w'=>Ext w w'/\lE (fun n:Int=>decide (n≠0)) l 0=lE (fun n:Int=>decide (n≠0)) (l.drop k) k) bc bc ⟨Ext.refl _,by simp⟩ ?_;rintro k _ S aH hk ⟨ao,a8⟩;have I:=h.ext Flat.ext ao;refine aa ?_;apply I_<;>intro g1
 .have aZ:k<l.length:=by omega
  obtain⟨a,rfl⟩:=h.addr;rw[MP aZ] at a8;refine aa ?_;refine U_ (first:=[]) (cap:=[]) (by kernel_rfl) (aet l[k] aH) ?_;rintro _ aP ⟨rfl,aj⟩;by_cases an:l[k]≠0
  .rw[if_pos (by simpa using an)] at a8;rw[decide_eq_true an];refine aa ?_;exact⟨by rw[a8],ao.trans aj⟩
  .rw[if_neg (by simpa using an)] at a8;rw[decide_eq_false an];refine aa ?_;exact⟨aZ,aU,(),trivial,ao.trans aj,a8⟩
 .refine aa ?_;exact⟨by rw[a8,List.drop_eq_nil_of_le (by omega)];rfl,ao⟩
theorem ad9(v:B_)(l:C_ Int)(w:A_)(h:ee w v l) :
  a7 Tryz.prog F.n #[v,.func (.func F.as) #[] #[]] w fun b9 w'=>b9 = .bool (l.any fun n=>decide (n≠0))/\Ext w w':=by
 refine u1 E.n ?_;refine nO ?_;refine aa ?_;refine J_ (aeL v l w h) ?_;rintro _ aH ⟨rfl,ao⟩;refine aa ?_;refine⟨?_,ao⟩;congr 1;exact Bool.eq_iff_iff.2 (by rw[decide_eq_true_eq];exact HL)
theorem U7(v:B_)(l:C_ Int)(w:A_)(h:ee w v l)(aF:l.length<=100000):a7 Tryz.prog F.f1 #[v] w fun u w'=>u = .bool (o.lo l)/\Ext w w':=by
 obtain⟨e4,fL,rfl,fH⟩:=h.form;refine bn E.f1 ?_;refine aa ?_;apply I_<;>intro g1
 .refine aa ?_;exact⟨by rw[o.Y3 fun af=>by omega],Ext.refl _⟩
 have af:0<l.length:=by omega
 obtain⟨a,rfl⟩:=h.addr af;refine aa ?_
 try (refine K_ 0 rfl (by omega) ?_;refine aa ?_)
 refine J_ (amC _ _ _ w) ?_;rintro _ w1 ⟨⟨t,rfl,aB⟩,al⟩;cases t with
 | false =>
  refine aa ?_;exact⟨by rw[o.Y3 fun _ h=>by have:=aB.2 h;cases this],al⟩
 | true =>
 have au:=aB.1 rfl;have fP:=h.ext Flat.ext al;refine aa ?_
 try (refine K_ 0 rfl (by omega) ?_;refine aa ?_)
 refine AA3 (k:=.i64) (1+l[0].toNat) fP (by simp[dp,bL];omega) (by omega) fun ad c ar=>?_;refine aa ?_;refine J_ (ad9 _ (l.drop (1+l[0].toNat)) w1 (by have:=ar.len.1;exact ar)) ?_;rintro _ aH ⟨rfl,ao⟩;refine aa ?_;exact⟨by rw[o.ak1 af au.1 au.2],al.trans ao⟩
theorem U8(v:B_)(l:C_ Int)(w:A_)(h:ee w v l)(aF:l.length<=100000) :
  a7 Tryz.prog F.f2 #[v] w fun u w'=>ou w.heap.size w' u (o.kR l)/\Ext w w':=by
 obtain⟨e4,fL,rfl,fH⟩:=h.form;refine bn E.f2 ?_;refine aa ?_;refine J_ (U7 _ l w h aF) ?_;rintro _ w1 ⟨rfl,al⟩;by_cases au:o.lo l=true;rotate_left
 .have Oz:o.lo l=false:=by simpa using au
  rw[Oz];refine aa ?_;exact⟨by rw[o.ak5 au];exact aW.nil _ _ _ _ _,al⟩
 rw[au];obtain⟨af,h1,I,ab⟩:=o.Jf.1 au;obtain⟨a,rfl⟩:=h.addr af;have fP:=h.ext Flat.ext al;refine aa ?_
 try (refine K_ 0 rfl (by omega) ?_;refine aa ?_)
 refine _w l[0].toNat (by omega) (by omega) ?_;intro aH bR dt ao av;have fo:ou w.heap.size aH (.slice (some ⟨bR,0,none⟩) l[0].toNat l[0].toNat) (List.replicate l[0].toNat 0):=aW.AZ _ av (by have:=al.size;omega) (EP _) (fun _=>rfl) (by simp) (by rw[List.length_replicate];unfold maxLen;omega);refine aa ?_;intro aP aj;have gE:=fP.ext Flat.ext (ao.trans aj);have eu:=fo.ext aj;refine aa ?_
 try (refine K_ 0 rfl (by omega) ?_;refine aa ?_)
 try (refine K_ 0 rfl (by omega) ?_;refine aa ?_)
 refine AD8 (k:=.i64) (k':=.i64) (k'':=.i64) 1 (1+l[0].toNat) gE (by simp[nT]) (by simp[dp,bL];omega) (by simp[dp,bL];omega) (by omega) (by omega) fun ad ar=>?_;rw[show 1+l[0].toNat - 1=l[0].toNat from by omega] at ar ⊢;refine aa ?_;refine _d (p:=0) eu ar (by simp only[dp,bL];rfl) (by simp only[dp,bL];rfl) (fun _=>rfl) (by rw[List.length_replicate];omega) (by kernel_rfl) (by kernel_rfl) fun u aR du eR=>?_;have ba:=(al.trans ao).trans aj;refine aa ?_;refine⟨?_,du.ext ba (by have:=al.size;omega)⟩;have lJ:=o.ak4 au af;rw[<-o.Y7 au af,List.take_of_length_le (by omega)] at eR
 have:o.jY (List.replicate l[0].toNat 0) 0 (o.kR l)=o.kR l:=by
  unfold o.jY;rw[List.take_zero,List.nil_append,List.drop_eq_nil_of_le (by rw[List.length_replicate];omega),List.append_nil]
 rw[this] at eR;exact eR
theorem U6(n:Nat)(v:B_)(l:C_ Int)(w:A_)(h:ee w v l)(ay:1<=n/\n<=100000) :
  a7 Tryz.prog F.dx #[.int .i64 n,v] w fun u w'=>ou w.heap.size w' u (o.tn n l)/\Ext w w':=by
 obtain⟨e4,fL,rfl,fH⟩:=h.form;refine bn E.dx ?_;refine aa ?_;refine _w n (by omega) (by omega) ?_;intro aH bR dt ao av;have fo:ou w.heap.size aH (.slice (some ⟨bR,0,none⟩) n n) (List.replicate n 0):=aW.AZ _ av (by omega) (EP _) (fun _=>rfl) (by simp) (by rw[List.length_replicate];unfold maxLen;omega);have eE:=h.ext Flat.ext ao;clear av;refine aa ?_
 try (refine K_ 0 rfl (by omega) ?_;refine aa ?_)
 refine _1 (k:=0) fo (by rw[List.length_replicate];omega) fun aP gd eu=>?_;have ba:Ext w aP:=gd.ext ao dt;have gE:=h.ext Flat.ext ba;refine aa ?_;refine AD7 (k:=.i64) 1 (oL eu) (by simp[nT]) (by rw[List.length_set,List.length_replicate];omega) fun ad c ar=>?_;refine aa ?_;refine _d (p:=1) eu gE (by simp only[dp,bL];rfl) (by simp only[dp,bL];rfl) ar (by rw[List.length_set,List.length_replicate];omega) (by kernel_rfl) (by kernel_rfl) fun u aR du eR=>?_;rw[o.ant n l ay.1] at eR;refine aa ?_;exact⟨eR,du.ext ba dt⟩
theorem aev(v:B_)(l:C_ Int)(w:A_)(h:ee w v l)(aF:l.length<=100000) :
  a7 Tryz.prog F.f4 #[v] w fun u w'=>((o.tx l=none/\u = .tuple #[.slice none 0 0,.int .i64 0,.bool false])\/(∃r x ad c,o.tx l=some (r,x)/\u = .tuple #[.slice ad r.length c,.int .i64 x,.bool true]/\ou w.heap.size w' (.slice ad r.length c) r))/\Ext w w':=by
 obtain⟨e4,fL,rfl,fH⟩:=h.form;refine bn E.f4 ?_;refine aa ?_;refine J_ (U8 _ l w h aF) ?_;rintro u w1 ⟨xW,al⟩;have fV:=oL xW;obtain⟨cx,ci,rfl,_⟩:=fV.form;refine aa ?_;apply I_<;>intro g1
 .have U:o.kR l=[]:=List.eq_nil_of_length_eq_zero (by omega);refine aa ?_;exact⟨.inl ⟨by unfold o.tx;rw[U],aU⟩,al⟩
 have lJ:=o.Y6 l;obtain⟨x,r,U⟩:∃x r,o.kR l=x :: r:=by
  cases ah:o.kR l with
  | nil=>rw[ah] at g1;simp at g1
  | cons x r=>exact⟨x,r,rfl⟩
 obtain⟨iP,rfl⟩:=fV.addr;refine aa ?_;intro aH ao;have WW:=fV.ext Flat.ext ao;have eE:=h.ext Flat.ext (al.trans ao);refine aa ?_;refine AA3 (k:=.i64) 1 WW rfl (by omega) fun ad c ar=>?_;have NP:(o.kR l).drop 1=r:=by rw[U];rfl
 have YD:(o.kR l)[0]'(by omega)=x:=by simp[U]
 rw[NP] at ar;refine aa ?_
 try (refine K_ 0 rfl (by omega) ?_;refine aa ?_)
 refine J_ (U6 l.length _ r aH (by have:=ar.len.1;exact ar) (by omega)) ?_;rintro u aP ⟨eu,aj⟩;obtain⟨P0,xq,rfl,_⟩:=(oL eu).form;refine⟨aj,?_⟩;refine aa ?_;exact⟨.inr ⟨o.tn l.length r,x,P0,xq,by unfold o.tx;rw[U],by rw[YD],aW.low (al.trans ao).size eu⟩,(al.trans ao).trans aj⟩
theorem aeu(v:B_)(l:C_ Int)(x:Int)(w:A_)(h:ee w v l)(aF:l.length<=100000) :
  a7 Tryz.prog F.f0 #[v,.int .i64 x] w fun u w'=>((o.q1 l x=none/\u = .tuple #[.slice none 0 0,.bool false])\/(∃r ad c,o.q1 l x=some r/\u = .tuple #[.slice ad r.length c,.bool true]/\ou w.heap.size w' (.slice ad r.length c) r))/\Ext w w':=by
 obtain⟨e4,fL,rfl,fH⟩:=h.form;refine bn E.f0 ?_;refine aa ?_;refine J_ (U7 _ l w h aF) ?_;rintro _ w1 ⟨rfl,al⟩;by_cases au:o.lo l=true;rotate_left
 .have Oz:o.lo l=false:=by simpa using au
  rw[Oz];refine aa ?_;exact⟨.inl ⟨by unfold o.q1;rw[if_neg (fun e=>au e.1)],aU⟩,al⟩
 rw[au];obtain⟨af,h1,I,ab⟩:=o.Jf.1 au;obtain⟨a,rfl⟩:=h.addr af;have fP:=h.ext Flat.ext al;have a6:l.headD 0=l[0]:=by cases l with | nil=>simp at af | cons n r=>rfl
 refine aa ?_;apply I_<;>intro g1
 .refine aa ?_;exact⟨.inl ⟨by unfold o.q1;rw[if_neg (fun e=>e.2 (by rw[a6];omega))],aU⟩,al⟩
 refine aa ?_;refine J_ (U8 _ l w1 fP aF) ?_;rintro u aH ⟨fo,ao⟩;obtain⟨cx,ci,rfl,_⟩:=(oL fo).form;have lJ:=o.Y6 l;refine aa ?_;intro aP b0 fW aj bu;refine aa ?_;refine V_ (y:=x) (fo.ext aj) bu rfl (fun _=>rfl) rC (by omega) (by unfold maxLen;omega) (by have:=ao.size;have:=aj.size;omega) fun aQ c d aR eR BF=>?_;have bG:Ext w1 aR:=(ao.trans aj).grown BF fun i U=>(fo.lt i U).1;refine aa ?_;refine J_ (U6 l.length _ _ aR (oL eR) (by omega)) ?_;rintro u bq ⟨dL,aJ⟩;obtain⟨P0,xq,rfl,_⟩:=(oL dL).form;refine aa ?_;exact⟨.inr ⟨_,P0,xq,by unfold o.q1;rw[if_pos ⟨au,by rw[a6];omega⟩],rfl,aW.low (al.trans bG).size dL⟩,(al.trans bG).trans aJ⟩
def o0(w:A_)(b:Nat)(m:o.Model):Prop := ∃zs,w.heap[b]? = some (.cells zs.toArray T.df)/\AN w zs m
theorem o0.ext{w w':A_}{b:Nat}{m:o.Model}(he:Ext w w')(h:o0 w b m):o0 w' b m:=let ⟨zs,h1,I⟩:=h; ⟨zs,he.obj h1,I.ext he⟩
theorem agL(cs:C_ B_)(m:o.Model)(w:A_)(h:o.dV w cs m)(aK:m.cN)(aM:gB w) :
  a7 Tryz.prog F.Hn #[.agg cs.toArray] w fun u w'=>((¬(o.check m).cA=0/\u = .tuple #[.pointer none,.bool false])\/((o.check m).cA=0/\∃b,u = .tuple #[.pointer (some ⟨b,0,none⟩),.bool true]/\w.heap.size<=b/\o0 w' b m))/\Ext w w':=by
 have dw:=h;obtain⟨cd,bw,bO,c1,bV,c2,b2,br,cj,bF,rfl,_⟩:=h.form;refine bn E.Hn ?_;refine aa ?_;intro w1 bo cT al ai;refine aa ?_;refine J_ (x9 _ m w1 (dw.ext al) aK (aM.ext al)) ?_;rintro _ aH ⟨rfl,ao⟩;replace ai:=ao.obj ai;have aI:=al.trans ao;refine aa ?_;refine _A (v:=.int .i64 (o.check m).cA) rfl ?_;refine aa ?_;refine I_ (fun hk=>?_) (fun hk=>?_);rotate_left
 .refine aa ?_;exact⟨.inl ⟨hk,aU⟩,aI⟩
 have zx:o.lay m=o.layout m:=o.x7 hk;refine aa ?_;intro aP aj;replace ai:=aj.obj ai;have ba:=aI.trans aj;refine aa ?_;refine J_ (EX _ m aP (dw.ext ba) aK (aM.ext ba)) ?_;rintro _ aR ⟨⟨ys,rfl,xD⟩,aA⟩;rw[zx] at xD;have bG:=ba.trans aA;refine⟨aA,?_⟩;refine aa ?_;refine J_ (v7 _ m aR (dw.ext bG) aK) ?_;rintro bM bq ⟨ai3,aJ⟩;have bU:=bG.trans aJ;refine⟨aA.trans aJ,?_⟩;refine aa ?_;refine J_ (yi _ m bq (dw.ext bU) (o.ir hk).lim) ?_;rintro lS bB ⟨xY,aT⟩;have c8:=bU.trans aT;refine⟨(aA.trans aJ).trans aT,?_⟩;have XP:=ai3.ext aT;have WS:=xD.here.ext (aJ.trans aT);obtain⟨ff,d0,dZ,d1,eK,d2,e5,d3,fu,d4,rfl,_⟩:=WS.form;obtain⟨cx,ci,rfl,_⟩:=(aW.iv (enc:=o.cZ.enc) (fun _=>rfl) XP).form;obtain⟨gR,iz,rfl,_⟩:=(aW.iv (enc:=o.Ref.enc) (fun _=>rfl) xY).form;refine aa ?_;intro bQ ho h6 bz c9;have dQ:=c8.trans bz;refine aa ?_;exact⟨.inr ⟨hk,ho,aU,by have:=c8.size;omega,_,c9,_,_,_,_,rfl,dw.ext dQ,WS.ext bz,(aW.iv (enc:=o.cZ.enc) (fun _=>rfl) (XP.ext bz)),(aW.iv (enc:=o.Ref.enc) (fun _=>rfl) (xY.ext bz))⟩,dQ⟩
theorem V8(b:Nat)(m:o.Model)(ref:Int)(q p k:Nat)(w:A_)(h:o0 w b m)(bC:o.eM m ref q p k) :
  a7 Tryz.prog F.h #[.pointer (some ⟨b,0,none⟩),.int .i64 ref] w fun u w'=>(∃gy ga aQ fD,u = .agg ((o.bI m p k).enc (.slice gy (o.bI m p k).guard.length ga) (.slice aQ (o.bI m p k).bY.length fD)).toArray/\o.eV w (.slice gy (o.bI m p k).guard.length ga) (o.bI m p k).guard/\o.mQ w (.slice aQ (o.bI m p k).bY.length fD) (o.bI m p k).bY)/\Ext w w':=by
 obtain⟨zs,ak,h⟩:=h;obtain⟨ff,d0,dZ,d1,eK,d2,e5,d3,fu,d4,cd,bw,bO,c1,bV,c2,b2,br,cj,bF,cx,ci,gR,iz,rfl,_,_,_,_,_,_,_,_,_,_,ab,a8,bE⟩:=h.form;have au:=bC.at_.U;have ar:=bC.at_.ar;have oG:=bC.at_.hk;have pg:=bC.at_.ip;obtain⟨r,rfl⟩:=Int.eq_ofNat_of_zero_le bC.aO;have aL:r<(o.refs m).length:=bC.U;have gD:(o.refs m)[r].inst=(q:Int):=bC.at_.pw;have rS:(o.refs m)[r].cmd=(k:Int):=bC.at_.uH;obtain⟨kD,rfl⟩:=bE.addr;obtain⟨iP,rfl⟩:=a8.addr;obtain⟨a3,rfl⟩:=ab.addr;obtain⟨lM,b7,ec,dD,e2,fO⟩:=ab.at p ar;obtain⟨Fi,Dq,rfl,EY⟩:=fO.form;obtain⟨ac,rfl⟩:=fO.addr;obtain⟨eQ,gu,ea,hf,kP,iX⟩:=fO.at k oG;obtain⟨gy,ga,rfl,_⟩:=kP.form;obtain⟨wv,vi,rfl,_⟩:=iX.form;unfold o.dz.enc at dD;unfold o.dI.enc at hf;refine bn E.h ?_;refine aa ?_;intro w1 bR dt al av;replace ak:=al.obj ak;have Nf:=bE.ext Flat.ext al;refine aa ?_;intro aH cF fy ao bH;have tR:(o.refs m)[r].enc=[.int .i64 q,.int .i64 k]:=by unfold o.Ref.enc;rw[gD,rS]
 rw[tR] at bH;have z4:=cy av;replace av:=ao.obj av;replace ak:=ao.obj ak;have aI:=al.trans ao;have zf:=a8.ext Flat.ext aI;have Ez:=dD.ext aI;have Ed:=hf.ext aI;clear Nf;refine aa ?_;intro aP aj;replace av:=aj.obj av;replace bH:=aj.obj bH;replace ak:=aj.obj ak;replace zf:=zf.ext Flat.ext aj;replace Ez:=Ez.ext aj;replace Ed:=Ed.ext aj;refine aa ?_;refine K_ p (by rw[pg]) ar ?_;refine aa ?_;intro aR du cc;refine aa ?_;have la:=o.xl ar oG;exact⟨⟨gy,ga,wv,vi,by rw[la];rfl,by rw[la];exact kP,by rw[la];exact iX⟩,du.ext (aI.trans aj) (by omega)⟩
theorem ML(b:Nat)(m:o.Model)(c:Nat)(w:A_)(h:o0 w b m)(a1:o.eL m)(ah:c<m.aw.length) :
  a7 Tryz.prog F.tR #[.pointer (some ⟨b,0,none⟩),.int .i64 c] w fun u w'=>u = .tuple #[.int .i64 (o.cq m c),.int .i64 (o.cq m c+(1+o.gN m c):Nat)]/\Ext w w':=by
 obtain⟨zs,ak,h⟩:=h;obtain⟨ff,d0,dZ,d1,eK,d2,e5,d3,fu,d4,cd,bw,bO,c1,bV,c2,b2,br,cj,bF,cx,ci,gR,iz,rfl,_,_,eF,eb,dG,fg,gq,af,h1,I,ab,a8,bE⟩:=h.form;obtain⟨kp,fl⟩:=o.vh ah;have h7:=(a1.chan _ (List.getElem_mem ah)).cap;have eQ:=o.o6 ah;have rT:=o.o5 ah;have mz:o.dW m<=64:=o.kt a1;obtain⟨df,rfl⟩:=eb.addr;obtain⟨qw,rfl⟩:=I.addr;have eo:=(I.at c ah).cells;refine bn E.tR ?_;refine aa ?_;intro w1 al;refine aa ?_;refine⟨?_,al⟩;rw[fl,show(((o.cq m c+(1+o.gN m c):Nat)):Int)=(o.cq m c:Int)+1+m.aw[c].cap from by omega]
end Go.Proofs.R
end
section
namespace o
theorem alC(m:Model):(layout m).aw.length=m.aw.length:=by simp[layout,zM,dr,tw]
end o
namespace Go.Proofs.R
open Go Go.RowKit bb
theorem yH.ext{w w':A_}{cs:C_ B_}{l:C_ Int}(he:Ext w w')(h:yH w cs l):yH w' cs l:=let ⟨v,h1,I⟩:=h; ⟨v,h1,I.ext Flat.ext he⟩
theorem agz(cn c3 q p:Nat)(v:B_)(m:o.Model)(s:C_ Int)(w:A_)(b3:w.heap[cn]? = some (.cells #[.pointer (some ⟨c3,0,none⟩),.int .i64 q,v] T.a4))(gO:o0 w c3 m)(gb:(o.check m).cA=0)(an:ee w v s)(ax:o.Fits m s)(hIn:o.fI m q p) :
  a7 Tryz.prog F.HK #[.pointer (some ⟨cn,0,none⟩)] w fun u w'=>(∃es,u = .agg es.toArray/\Lq w' es (o.cr m s q))/\Ext w w':=by
 obtain⟨zs,ak,h5⟩:=gO;obtain⟨ff,d0,dZ,d1,eK,d2,e5,d3,fu,d4,cd,bw,bO,c1,bV,c2,b2,br,cj,bF,cx,ci,gR,iz,rfl,_,_,eF,eb,dG,_,_,af,h1,I,ab,a8,bE⟩:=h5.form;obtain⟨e4,fL,rfl,fH⟩:=an.form;have a1:=o.ir gb;have hlen:=ax.len;have mz:o.dW m<=64:=o.kt a1;have gU:=a1.gU;have asP:(o.layout m).aw.length=m.aw.length:=o.alC m;have lJ:(o.insts m).length<=30:=by have:=o.uo m;have:=a1.procs;omega
 clear h5 bE;refine bn E.HK ?_;refine aa ?_;intro w1 bR dt al av;refine aa ?_;intro aH fj ah3 ao dF;have auI:=cy av;have Rz:=cy dF;have z12:=ao.size;have DR:∀{W},Mod (fun i=>i=fj) aH W->Ext w W:=fun h=>al.trans (h.ext ao fun i U e=>by omega);have WC:∀{W},Mod (fun i=>i=fj) aH W->W.heap[bR]? = _:=fun h=>(h.ext ao fun i U e=>by omega).obj av;have Jb:∀{W},Ext w W->W.heap[cn]? = _:=fun e=>e.obj b3;have BV:∀{W},Ext w W->W.heap[c3]? = _:=fun e=>e.obj ak;have aI:=al.trans ao;replace b3:=aI.obj b3;replace ak:=aI.obj ak;clear av;refine aa ?_;refine L_ 24 m.vars.length [0,2,3,22,23] (fun _:hc=>[]) (none,0,0) (fun k v W=>(Mod (fun i=>i=fj) aH W/\W.heap[fj]? = some (.cells #[.slice v.1 v.2.1 v.2.2,.slice none 0 0,.slice none 0 0,.slice none 0 0,.int .i64 0] T.v))/\∃cm:C_ (e1 1),cm.length=k/\oV T.b 1 aH.heap.size W (.slice v.1 v.2.1 v.2.2) cm/\∀i (h1:i<cm.length) (I:i<(o.cr m s q).vars.length),yH w cm[i].1 (o.cr m s q).vars[i]) bc bc ⟨⟨Mod.refl _ _,dF⟩,[],rfl,aW.nil _ _ _ _ _,fun i h=>absurd h (Nat.not_lt_zero _)⟩ ?_;clear dF b3 ak;rintro k v S bB hk ⟨⟨jC,dF⟩,cm,lg,dB,DQ⟩;have iM:=DR jC;have b3:=Jb iM;have ak:=BV iM;refine aa ?_;apply I_<;>intro g1
 .have cH:k<m.vars.length:=by omega
  obtain⟨a,rfl⟩:=h1.addr;have dR:=o.sH m.vars[k] m.scalars;have nn:=o.tz cH;have eQ:=o.nR m;obtain⟨fp,iG⟩:=o.Ai cH;have eo:=((h1.at k cH).cells).ext iM;refine aa ?_;intro wn tJ Bv fm aiw;refine aa ?_;intro bQ dT ko;have bz:Ext bB bQ:=dT.ext fm Bv;replace ko:bQ.heap[tJ]? = some (.cells m.vars[k].enc.toArray T.m):=ko;replace b3:=bz.obj b3;replace ak:=bz.obj ak;replace dF:=bz.obj dF;have dS:=dB.ext bz;have gK:=iM.trans bz;have h8:Mod (fun i=>i=fj) aH bQ:=jC.trans bz.mod;clear dT fm aiw eo dB;obtain⟨a0,rfl⟩:=eF.addr;have Kx:=eF.ext Flat.ext gK;refine aa ?_;intro de bP;replace dF:=bP.obj dF;replace b3:=bP.obj b3;replace ak:=bP.obj ak;replace ko:=bP.obj ko;have hr:=dS.ext bP;have ih:=gK.trans bP;have iF:Mod (fun i=>i=fj) aH de:=h8.trans bP.mod;have BT:=an.ext Flat.ext ih;clear Kx dS;refine aa ?_;refine J_ (A7 m.vars[k] _ m.scalars de (af.ext ih)) ?_;rintro _ dc ⟨rfl,ck⟩;refine⟨ck,?_⟩;refine aa ?_;refine _b (k:=.i64) (k':=.i64) (o.gG m k) (o.gG m k+(o.cells m.vars[k] m.scalars).toNat) an (by simp[dp,bL,iG]) (by simp[dp,bL,iG];omega) (by omega) (by omega) fun ad c ar=>?_;rw[show o.gG m k+(o.cells m.vars[k] m.scalars).toNat - o.gG m k=(o.cells m.vars[k] m.scalars).toNat from by omega] at ar ⊢;have vY:=o.KM (s:=s) (inst:=q) cH;refine aa ?_;intro gw o2 Bw e8 kK;refine⟨ck.trans e8,?_⟩;have Li:=ck.size;have auy:=e8.size;have MC:Ext de gw:=ck.trans e8;have p4:=hr.ext MC;have z58:=iF.size;refine V_ (enc:=jR) (y:=(⟨[.slice ad (o.cells m.vars[k] m.scalars).toNat c],rfl,by simp[Value.oneCell']⟩:e1 1)) p4 kK rfl jS sN (by omega) (by unfold maxLen;omega) (by omega) fun aQ n kE jr aL xM=>?_;have Xi:=p4.box xM (MC.obj dF) (by decide);have qP:=(iF.trans MC.mod).own xM fun i U=>(p4.lt i U).1;clear dF p4 hr kK ko b3 ak;refine aa ?_;intro nA jX kL;refine aa ?_;refine⟨cH,aU,(aQ,n,kE),trivial,⟨qP.trans (jX.mod rfl),kL⟩,_,by simp[lg],aL.wr jX Rz,fun i h1 I=>?_⟩;by_cases U:i<cm.length
  .rw[List.getElem_append_left U];exact DQ i U I
  .have e:i=cm.length:=by simp at h1;omega
   subst e;rw[List.getElem_append_right (Nat.le_refl _)];obtain⟨_,akz⟩:=List.getElem?_eq_some_iff.1 vY;subst lg;rw[akz];exact⟨.slice ad _ c,by simp,ar⟩
 have lK:m.vars.length=k:=by omega
 subst lK;obtain⟨ea,nx,fD⟩:=v;have aur:=cy dF;have z26:=jC.size;have mA:∀{W},Mod (fun i=>i<aH.heap.size) bB W->Ext w W->w4 W (.slice ea nx fD) (o.cr m s q).vars:=fun {W} h he =>
  bh.Fj (by rw[lg,o.QT]) (aW.jH jS (aW.mod dB h fun i U a=>by have:=(dB.lt i U).1;omega)) fun i h1 I=>(DQ i h1 I).ext he
 clear dB DQ lg;have WV:∀{W},Mod (fun i=>i=fj) bB W->Mod (fun i=>i=fj) aH W:=fun h=>jC.trans h;refine aa ?_;clear b3 ak;refine L_ 73 m.aw.length [0,2,3,71,72] (fun _:hc=>[]) (none,0,0) (fun k v W=>(Mod (fun i=>i=fj) bB W/\W.heap[fj]? = some (.cells #[.slice ea nx fD,.slice v.1 v.2.1 v.2.2,.slice none 0 0,.slice none 0 0,.int .i64 0] T.v))/\aW cR T.a 1 bB.heap.size W (.slice v.1 v.2.1 v.2.2) (((o.cr m s q).lens).take k)) bc bc ⟨⟨Mod.refl _ _,dF⟩,by simpa using aW.nil _ _ _ _ _⟩ ?_;clear dF;rintro k v S bQ hk ⟨⟨h8,dF⟩,dS⟩;have gK:=DR (WV h8);have b3:=Jb gK;have ak:=BV gK;refine aa ?_;apply I_<;>intro g1
 .have cH:k<m.aw.length:=by omega
  have nn:=o.tL cH;have eQ:=o.nR m;obtain⟨fp,fl⟩:=o.vh cH;obtain⟨df,rfl⟩:=eb.addr;obtain⟨adr,rfl⟩:=an.addr;have jW:=an.ext Flat.ext gK;have Ky:=eb.ext Flat.ext gK;refine aa ?_;intro de bP;replace dF:=bP.obj dF;replace b3:=bP.obj b3;replace ak:=bP.obj ak;have hr:=dS.ext bP;have iF:Mod (fun i=>i=fj) bB de:=h8.trans bP.mod;have BT:=jW.ext Flat.ext bP;clear jW dS Ky;refine aa ?_;refine K_ (o.cq m k) (by rw[fl]) (by omega) ?_;refine aa ?_;intro dc j7 l4 ck dX;refine⟨ck,?_⟩;have gx:o.cq m k<s.length:=by omega
  have vY:=o.abD (inst:=q) cH gx;have aje:(((o.cr m s q).lens).take k).length<=12:=by rw[List.length_take,o.KL];omega
  have hs:=hr.ext ck;have Rx:=iF.size;have Li:=ck.size;refine V_ (y:=s[o.cq m k]) hs dX rfl (fun _=>rfl) rC (by omega) (by unfold maxLen;omega) (by omega) fun aQ n c eY pk oF=>?_;have aio:=hs.box oF (ck.obj dF) (by decide);have rO:=(iF.trans ck.mod).own oF fun i U=>(hs.lt i U).1;clear dF hs hr dX b3 ak;refine aa ?_;intro gw ia kK;refine aa ?_;refine⟨cH,aU,(aQ,n,c),trivial,⟨rO.trans (ia.mod rfl),kK⟩,?_⟩;rw[List.take_succ,vY];exact pk.mod (ia.mod (A:=fun i=>i=fj) rfl) fun i U e=>by have:=(pk.lt i U).1;omega
 have qO:m.aw.length=k:=by omega
 rw[List.take_of_length_le (by rw[o.KL];omega)] at dS;have DV:eD bB (fun w=>ee w (.slice v.1 v.2.1 v.2.2) (o.cr m s q).lens) bQ:=aW.new (fun _=>rfl) dS;obtain⟨ly,lO,yX⟩:=v;have aut:=cy dF;have z67:=h8.size;have ahF:∀{W},Mod (fun i=>i=fj) bQ W->Mod (fun i=>i=fj) aH W:=fun h=>WV (h8.trans h);clear dS;refine aa ?_;clear b3 ak;refine L_ 99 m.procs.length [0,2,3,97,98] (fun _:hc=>[]) (none,0,0) (fun k v W=>(Mod (fun i=>i=fj) bQ W/\W.heap[fj]? = some (.cells #[.slice ea nx fD,.slice ly lO yX,.slice none 0 0,.slice v.1 v.2.1 v.2.2,.int .i64 0] T.v))/\∃bs:C_ Nat,bs.length=k/\nE m bQ.heap.size bs (fun p=>o.iQ m s p (m.procs[p]?.map (·.b8) |>.getD 0) 0) (.slice v.1 v.2.1 v.2.2) W) bc bc ⟨⟨Mod.refl _ _,dF⟩,[],rfl,⟨aW.nil _ _ _ _ _,(fun b h=>nomatch h),List.nodup_nil,(fun p h=>nomatch h)⟩⟩ ?_;clear dF;rintro k v S de hk ⟨⟨iF,dF⟩,bs,D5,vx⟩;have ih:=DR (ahF iF);have b3:=Jb ih;have ak:=BV ih;refine aa ?_;apply I_<;>intro g1
 .have cH:k<m.procs.length:=by omega
  obtain⟨a,rfl⟩:=ab.addr;obtain⟨lM,b7,ec,dD,e2,fO⟩:=ab.at k cH;obtain⟨aaf,Vr,rfl,ZO⟩:=e2.form;obtain⟨aac,U4,rfl,ZB⟩:=fO.form;have di:=(a1.proc _ (List.getElem_mem cH)).b8;replace dD:=dD.ext ih;refine aa ?_;intro dc tK D2 ck pf;replace dF:=ck.obj dF;have xz:=vx.ext ck;have mB:Mod (fun i=>i=fj) bQ dc:=iF.trans ck.mod;clear dD vx b3 ak;refine aa ?_;intro eY cG;replace dF:=cG.obj dF;replace pf:=cG.obj pf;have Bn:=xz.ext cG;have rO:Mod (fun i=>i=fj) bQ eY:=mB.trans cG.mod;refine aa ?_;refine _w m.procs[k].b8.toNat (by omega) (by omega) ?_;intro gw o2 Bw e8 kK;refine⟨e8,?_⟩;refine aa ?_;intro jr AV sR fz iC;refine⟨e8.trans fz,?_⟩;have sM:=e8.trans fz;have DP:=Bn.ext sM;have ai1:=o.xJ (m:=m) (bs:=bs) (by omega);have ar4:=a1.procs;have auu:=rO.size;have auo:=sM.size;refine V_ (y:=(o2,m.procs[k].b8.toNat)) DP.row iC rfl (fun _=>rfl) afy (by omega) (by unfold maxLen;omega) (by omega) fun aQ n c nA ajH N1=>?_;have asx:=DP.row.box N1 (sM.obj dF) (by decide);have sX:=(rO.trans sM.mod).own N1 fun i U=>(DP.row.lt i U).1;have aho:nE m bQ.heap.size (bs++[o2]) _ (.slice aQ n c) nA:=DP.snoc (by omega) (by subst D5;exact ajH) N1 (by omega) (fun p ar e=>by have:=cy (Bn.cu p ar);omega) (by
   subst D5;rw[o.UG];simp only[List.getElem?_eq_getElem cH,Option.map_some,Option.getD_some];exact fz.obj kK)
  clear dF DP Bn xz iC;refine aa ?_;intro wM x2 pf;refine aa ?_;exact⟨cH,aU,(aQ,n,c),trivial,⟨sX.trans (x2.mod rfl),pf⟩,bs++[o2],by simp[D5],aho.mod (x2.mod (A:=fun i=>i=fj) rfl) fun i e=>by omega⟩
 have zw:m.procs.length=k:=by omega
 subst zw;obtain⟨K3,PS,qB⟩:=v;have auv:=cy dF;have z78:=iF.size;have vy:∀{W},Mod (fun i=>i∈bs) de W->Ext w W:=fun h=>h.ext ih fun i U e=>by have:=vx.low i e;have:=al.size;omega
 have ahv:¬fj∈bs:=fun h=>by have:=vx.low _ h;omega
 have XZ:∀{W},Mod (fun i=>i∈bs) de W->W.heap[fj]? = _:=fun h=>h.obj ahv dF;refine aa ?_;refine L_ 120 (o.insts m).length [0,2,3,118,119] (fun _:Unit=>[]) () (fun k _ W=>Mod (fun i=>i∈bs) de W/\nE m bQ.heap.size bs (fun p=>o.iQ m s p (m.procs[p]?.map (·.b8) |>.getD 0) k) (.slice K3 PS qB) W) bc bc ⟨Mod.refl _ _,vx⟩ ?_;clear vx dF b3 ak;rintro k _ S dc hk ⟨mB,xz⟩;have gS:=vy mB;have b3:=Jb gS;have ak:=BV gS;have dF:=XZ mB;refine aa ?_;apply I_<;>intro g1
 .have cH:k<(o.insts m).length:=by omega
  have Ib:=a8.ext Flat.ext gS;obtain⟨iP,rfl⟩:=a8.addr;have pn:=o.rW _ (List.getElem_mem cH);obtain⟨eX,au,zB,pR⟩:=o.zE pn;have BH:(o.insts m)[k]?.map (·.proc)=some (eX:Int):=by rw[List.getElem?_eq_getElem cH,Option.map_some,zB]
  obtain⟨d,EE,aiI⟩:=ax.loc cH au pR;obtain⟨kQ,EF⟩:=List.getElem?_eq_some_iff.1 EE;obtain⟨fp,iG⟩:=o.rV cH;obtain⟨yR,rfl⟩:=an.addr;obtain⟨a2,rfl⟩:=dG.addr;have di:=(a1.proc _ (List.getElem_mem au)).b8;refine aa ?_;intro wn LV W9 fm aix;refine aa ?_;intro eY oI oD;have cG:Ext dc eY:=oI.ext fm W9;replace oD:eY.heap[LV]? = some (.cells #[.int .i64 eX,.int .i64 (o.insts m)[k].elem] T.e):=by rw[<-zB];exact oD
  replace dF:=cG.obj dF;replace b3:=cG.obj b3;replace ak:=cG.obj ak;have Bn:=xz.ext cG;have rO:Mod (fun i=>i∈bs) de eY:=mB.trans cG.mod;clear oI fm aix Ib xz;refine aa ?_;intro gw e8;replace dF:=e8.obj dF;replace ak:=e8.obj ak;replace b3:=e8.obj b3;replace oD:=e8.obj oD;have M4:=Bn.ext e8;have BO:Mod (fun i=>i∈bs) de gw:=rO.trans e8.mod;have Yu:=an.ext Flat.ext ((gS.trans cG).trans e8);have at2:=dG.ext Flat.ext ((gS.trans cG).trans e8);clear Bn;have ai1:=o.xJ (m:=m) (bs:=bs) (by omega);have mF:=aW.jH (enc:=o.y5) (sz:=1) (fun _=>rfl) M4.row;obtain⟨mX,rfl⟩:∃a,K3=some a:=mF.addr;have lk:=mF.len.1;obtain⟨asG,XO⟩:=List.getElem?_eq_some_iff.1 (o.El (m:=m) (bs:=bs) (k:=eX) (by omega) au);have hE:d<m.procs[eX].b8.toNat:=by omega
  have WK:(o.pW m bs)[eX].1=bs[eX]:=by rw[XO]
  have M7:(o.pW m bs)[eX].2=m.procs[eX].b8.toNat:=by rw[XO]
  have hblk:=M4.cu eX (by omega);simp only[List.getElem?_eq_getElem au,Option.map_some,Option.getD_some] at hblk;rw[<-WK] at hblk;have kr:=o.vc m s eX m.procs[eX].b8 k;have OF:=o.Dc (m:=m) (s:=s) (p:=eX) (k:=k) hE;have dR:=o.GL m s eX d k;have asW:ee gw (.slice (some ⟨(o.pW m bs)[eX].1,0,none⟩) (o.pW m bs)[eX].2 (o.pW m bs)[eX].2) (o.iQ m s eX m.procs[eX].b8 k):=PW hblk (by rw[M7,kr]) (by rw[kr];unfold maxLen;omega);have NP:d<(o.iQ m s eX m.procs[eX].b8 k).length:=by omega
  obtain⟨_,OG⟩:=List.getElem?_eq_some_iff.1 OF;refine aa ?_;refine K_ (o.dj m k) (by rw[iG]) (by rw[hlen];omega) ?_;refine aa ?_;refine K_ d EF (by rw[M7];exact hE) ?_;refine aa ?_;refine K_ d EF (by rw[M7];exact hE) ?_;refine aa ?_;refine _F hblk (by rw[List.size_toArray,Y0];omega) rfl fun jr ln iC=>?_;rw[Y1 (Nat.mul_one _),OG,<-o.UF BH EE hE] at iC;rw[WK] at ln iC;refine aa ?_;refine⟨cH,aU,(),trivial,BO.trans (ln.mod (List.getElem_mem _)),M4.step (q:=eX) (by omega) ln (by simp only[List.getElem?_eq_getElem au,Option.map_some,Option.getD_some];exact iC) fun p ar IY=>?_⟩;have Yk:p<m.procs.length:=by omega
  simp only[List.getElem?_eq_getElem Yk,Option.map_some,Option.getD_some];exact o.UE (by rw[BH];intro e;have:=Option.some.inj e;omega)
 have lf:(o.insts m).length=k:=by omega
 subst lf;have Yb:Mod (fun i=>i=fj) bQ dc:=iF.comp mB (fun i _ e=>e) fun i U e=>by have:=xz.low i e;omega
 have Oi:Mod (fun i=>i=fj) bB dc:=h8.trans Yb;have ajq:Mod (fun i=>i=fj) aH dc:=jC.trans Oi;have rK:=WC ajq;have ahG:eD bB (fun w=>ee w (.slice ly lO yX) (o.cr m s q).lens) dc:=DV.move Yb (fun i _ e=>by omega) fun i _ e=>e;have dh:∀{W},Mod (fun i=>i<bB.heap.size) dc W->w4 W (.slice K3 PS qB) (o.cr m s q).at_:=fun {W} gO=>(xz.mod gO fun i e=>by omega).amD D5 (o.QR m s q) (fun p ar=>by
   simp only[List.getElem?_eq_getElem ar,Option.map_some,Option.getD_some];exact⟨o.vc _ _ _ _ _,by have:=(a1.proc _ (List.getElem_mem ar)).b8;omega⟩) fun p ar=>by
   simp only[List.getElem?_eq_getElem ar,Option.map_some,Option.getD_some];exact o.abC ar
 have z9:=Oi.size;clear DV xz WC XZ;have au:=hIn.au;have nn:=o.Pf au;obtain⟨fp,iG⟩:=o.rV au;obtain⟨a2,rfl⟩:=dG.addr;have aaK:=dG.ext Flat.ext gS;obtain⟨iP,rfl⟩:=a8.addr;have Ib:=a8.ext Flat.ext gS;have pn:=o.rW _ (List.getElem_mem au);obtain⟨gz,ar,hh,pR⟩:=o.zE pn;have Im:(o.lN m (o.insts m)[q]).length=1+m.procs[gz].vars.length:=by rw[pR,o.zX]
 obtain⟨a,rfl⟩:=ab.addr;obtain⟨lM,b7,ec,dD,e2,fO⟩:=ab.at gz ar;obtain⟨aaf,Vr,rfl,ZO⟩:=e2.form;obtain⟨aac,U4,rfl,ZB⟩:=fO.form;refine aa ?_;intro eY cG;replace dF:=cG.obj dF;replace ak:=cG.obj ak;replace b3:=cG.obj b3;replace rK:=cG.obj rK;have aaH:=aaK.ext Flat.ext cG;have ahy:=Ib.ext Flat.ext cG;clear aaK Ib;refine aa ?_;intro gw UL ah1 e8 kK;refine⟨e8,?_⟩;refine aa ?_;intro jr ln iC;have fz:Ext eY jr:=ln.ext e8 ah1;replace iC:jr.heap[UL]? = some (.cells #[.int .i64 gz,.int .i64 (o.insts m)[q].elem] T.e):=by rw[<-hh];exact iC
 replace dF:=fz.obj dF;replace b3:=fz.obj b3;replace ak:=fz.obj ak;replace rK:=fz.obj rK;have qP:Mod (fun i=>i=fj) dc jr:=cG.mod.trans fz.mod;have auz:=qP.size;have pE:Ext w jr:=gS.trans (cG.trans fz);have aob:=dG.ext Flat.ext pE;clear kK ln ahy aaH;refine aa ?_;intro nA iD;replace dF:=iD.obj dF;replace b3:=iD.obj b3;replace ak:=iD.obj ak;replace rK:=iD.obj rK;replace iC:=iD.obj iC;have sX:Mod (fun i=>i=fj) dc nA:=qP.trans iD.mod;have wT:Ext w nA:=pE.trans iD;have asY:=an.ext Flat.ext wT;clear aob;replace dD:=dD.ext wT;unfold o.dz.enc at dD;refine aa ?_;intro wM nj;replace dF:=nj.obj dF;replace b3:=nj.obj b3;replace ak:=nj.obj ak;replace rK:=nj.obj rK;replace iC:=nj.obj iC;have IS:Mod (fun i=>i=fj) dc wM:=sX.trans nj.mod;have yA:Ext w wM:=wT.trans nj;have asZ:=an.ext Flat.ext yA;replace dD:=dD.ext nj;refine aa ?_;refine _b (k:=.i64) (k':=.i64) (o.dj m q+1) (o.dj m q+1+m.procs[gz].vars.length) an (by simp[dp,bL,iG]) (by simp[dp,bL,iG]) (by omega) (by omega) fun ad c EA=>?_;rw[show o.dj m q+1+m.procs[gz].vars.length - (o.dj m q+1)=m.procs[gz].vars.length from by omega] at EA ⊢;refine aa ?_;intro Rm I4 zl;have n17:UL≠fj:=by have:=cG.size;omega
 replace iC:=I4.obj iC n17;replace rK:=I4.obj rK (by omega);have ajp:Mod (fun i=>i=fj) dc Rm:=IS.trans (I4.mod rfl);have acA:Ext w Rm:=I4.ext yA (by omega);refine aa ?_;intro ab8 O3 oD;have X7:Mod (fun i=>i=fj) dc ab8:=ajp.trans (O3.mod rfl);have acB:Ext w ab8:=O3.ext acA (by omega);replace rK:=O3.obj rK (by omega);refine aa ?_;intro Rn O4 ass;have Ln:Ext w Rn:=O4.ext acB (by omega);have Yc:Mod (fun i=>i<bB.heap.size) dc Rn:=(X7.Al fun i e=>by omega).trans (O4.mod (by omega));have ajr:Mod (fun i=>i<aH.heap.size) bB dc:=Oi.Al fun i e=>by omega
 have ajs:Mod (fun i=>i<aH.heap.size) dc Rn:=(X7.Al fun i e=>by omega).trans (O4.mod (by omega));refine aa ?_;obtain⟨ej,bt⟩:=o.yr s au (n:=m.procs[gz].vars.length) (by omega);refine⟨⟨_,rfl,_,_,_,_,by rw[bt];rfl,mA (ajr.trans ajs) Ln,ahG _ Yc,?_,dh Yc⟩,Ln⟩;rw[ej];exact EA.ext Flat.ext Ln
structure k1(w0 w:World)(cn c3 g c q base:Nat)(m:o.Model)(s:List Int):Prop where
 hx:Ext w0 w
 low:w0.heap.size<=base
 CC:o0 w0 c3 m
 box:w.heap[cn]? = some (.cells #[.pointer (some ⟨c3,0,none⟩),.int .i64 q,.slice (some ⟨g,0,none⟩) s.length c] T.a4)
 own:ou base w (.slice (some ⟨g,0,none⟩) s.length c) s
theorem k1.ext{w0 w w':A_}{cn c3 g c q base:Nat}{m:o.Model}{s:C_ Int}(he:Ext w w')(h:k1 w0 w cn c3 g c q base m s):k1 w0 w' cn c3 g c q base m s :=
 ⟨h.hx.trans he,h.low,h.CC,he.obj h.box,h.own.ext he⟩
theorem k1.Dg{w0 w:A_}{cn c3 g c q base:Nat}{m:o.Model}{s:C_ Int}(h:k1 w0 w cn c3 g c q base m s):base<=g/\g<w.heap.size:=aW.lt h.own g rfl
theorem k1.ne{w0 w:A_}{cn c3 g c q base:Nat}{m:o.Model}{s:C_ Int}(h:k1 w0 w cn c3 g c q base m s):cn≠g:=fun e=>by
 obtain⟨cur,h1⟩:=aW.cu h.own g rfl;have I:=h.box;rw[e,h1] at I;injection I with I
 injection I with _ I
 revert I;decide
theorem k1.mod{w0 w w':A_}{cn c3 g c q base:Nat}{m:o.Model}{s t:C_ Int}(h:k1 w0 w cn c3 g c q base m s)(hm:Mod (fun i=>i=g) w w')(aM:ou base w' (.slice (some ⟨g,0,none⟩) s.length c) t)(aF:t.length=s.length):k1 w0 w' cn c3 g c q base m t :=
 ⟨hm.ext h.hx fun i U e=>by have:=h.low;have:=h.Dg;omega,h.low,h.CC,by rw[aF];exact hm.obj h.ne h.box,by rw[aF];exact aM⟩
theorem k1.zU{w0 w:A_}{cn c3 g c q base:Nat}{m:o.Model}{s:C_ Int}(h:k1 w0 w cn c3 g c q base m s):ee w (.slice (some ⟨g,0,none⟩) s.length c) s:=oL h.own
def j6(base g:Nat)(v:B_)(ad:H_ (C_ Int))(u:B_)(w w':A_):Prop :=
 ((∃t,ad=some t/\u = .bool true/\ou base w' v t)\/(ad=none/\u = .bool false))/\Mod (fun i=>i=g) w w'
theorem j6.before{base g:Nat}{v:B_}{ad:H_ (C_ Int)}{u:B_}{w w1 w':A_}(h:j6 base g v ad u w1 w')(he:Ext w w1):j6 base g v ad u w w':=⟨h.1,he.mod.trans h.2⟩
theorem j6.none{base g:Nat}{v:B_}{ad:H_ (C_ Int)}{w w':A_}(aM:ad=Option.none)(he:Ext w w'):j6 base g v ad (.bool false) w w':=⟨.inr ⟨aM,rfl⟩,he.mod⟩
theorem j6.Pl{base g:Nat}{v:B_}{ad:H_ (C_ Int)}{u:B_}{w w':A_}(h:j6 base g v ad u w w'):∃t:Bool,u = .bool t:=by
 rcases h.1 with ⟨_,_,e,_⟩ | ⟨_,e⟩
 .exact⟨_,e⟩
 .exact⟨_,e⟩
theorem Bm{w0:A_}(cn c3 g c q p base:Nat)(m:o.Model)(s:C_ Int)(gI:B_)(e:C_ o.Node)(w:A_)(b3:k1 w0 w cn c3 g c q base m s)(gb:(o.check m).cA=0)(ax:o.Fits m s)(hIn:o.fI m q p)(he:o.eV w gI e) :
  a7 Tryz.prog F.HA #[.pointer (some ⟨cn,0,none⟩),gI] w fun u w'=>u = .tuple #[.int .i64 (o.eval e (o.cr m s q)).1,.bool (decide ((o.eval e (o.cr m s q)).2=0))]/\Ext w w':=by
 obtain⟨P2,cX,rfl,x8⟩:=he.form;refine bn E.HA ?_;refine aa ?_;refine J_ (agz cn c3 q p _ m s w b3.box (b3.CC.ext b3.hx) gb b3.zU ax hIn) ?_;rintro _ w1 ⟨⟨es,rfl,dK⟩,al⟩;refine aa ?_;refine J_ (afR _ e _ (o.cr m s q) w1 (he.ext al) (VU dK (o.afI (o.ir gb) ax hIn.au))) ?_;rintro _ aH ⟨rfl,ao⟩;refine aa ?_;exact⟨aU,al.trans ao⟩
theorem HR{w0:A_}(cn c3 g c q base:Nat)(m:o.Model)(s:C_ Int)(k:Nat)(x n:Int)(w:A_)(b3:k1 w0 w cn c3 g c q base m s)(a1:o.eL m)(aF:s.length=o.dW m)(ag:x=k)(hk:k<o.dW m) :
  a7 Tryz.prog F.r #[.pointer (some ⟨cn,0,none⟩),.int .i64 x,.int .i64 n] w fun u w'=>j6 base g (.slice (some ⟨g,0,none⟩) s.length c) (o.putAt m s k n) u w w':=by
 subst ag;have xF:=b3;obtain⟨hold,xS,⟨zs,ak,h5⟩,rI,fB⟩:=b3;obtain⟨ff,d0,dZ,d1,eK,d2,e5,d3,fu,d4,cd,bw,bO,c1,bV,c2,b2,br,cj,bF,cx,ci,gR,iz,rfl,_,_,eF,eb,dG,fg,gq,af,h1,I,ab,a8,bE⟩:=h5.form;replace ak:=hold.obj ak;replace fg:=fg.ext Flat.ext hold;replace gq:=gq.ext Flat.ext hold;obtain⟨dR,tZ⟩:=o.adB hk;have f2:=o.PB m;have f3:=o.Pz m;have lg:(o.bX m).length=o.dW m:=rfl;have ef:(o.layout m).aO[k]'(by omega)=(o.bX m)[k].aO:=o.PA _ dR;have ew:(o.layout m).U[k]'(by omega)=(o.bX m)[k].U:=o.Py _ dR;have mz:o.dW m<=64:=o.kt a1;obtain⟨a3,rfl⟩:=fg.addr;obtain⟨a4,rfl⟩:=gq.addr;clear eF eb dG af h1 I ab a8 bE h5;refine bn E.r ?_;refine aa ?_;apply I_<;>intro g1
 .refine aa ?_;exact j6.none (by unfold o.putAt;rw[tZ,if_pos (.inl (by simp only;omega))]) (Ext.refl _)
 refine aa ?_;apply I_<;>intro g2
 .refine aa ?_;exact j6.none (by unfold o.putAt;rw[tZ,if_pos (.inr (by simp only;omega))]) (Ext.refl _)
 refine aa ?_;refine _1 (k:=k) fB (by omega) fun w1 ht xW=>?_;refine aa ?_;exact⟨.inl ⟨_,by unfold o.putAt;rw[tZ,if_neg (by simp only;omega)],aU,xW⟩,ht.mod rfl⟩
theorem agT{w0:A_}(cn c3 g c q p base:Nat)(m:o.Model)(s:C_ Int)(a:o.Act)(bM b7:B_)(w:A_)(b3:k1 w0 w cn c3 g c q base m s)(gb:(o.check m).cA=0)(ax:o.Fits m s)(hIn:o.fI m q p)
  (aV:o.nD (o.inner (m.procs[p]'(hIn.ar)) (o.ey m)) a)(lf:a.kind=1)(U:o.eV w bM a.index)(aG:o.eV w b7 a.value) :
  a7 Tryz.prog F.bo #[.agg (a.enc bM b7).toArray,.pointer (some ⟨cn,0,none⟩)] w fun u w'=>j6 base g (.slice (some ⟨g,0,none⟩) s.length c) (o.jf m s q a) u w w':=by
 obtain⟨cx,ci,rfl,_⟩:=U.form;obtain⟨uD,tO,rfl,_⟩:=aG.form;have a1:=o.ir gb;obtain⟨f6,f7,f8⟩:=o.s6 m;have done:o.jf m s q a=if (o.eval a.value (o.cr m s q)).2≠0 then none else o.putAt m s (o.gG m a.to.toNat) (o.eval a.value (o.cr m s q)).1:=by
  unfold o.jf;rw[if_neg (by omega),if_pos lf]
 rw[done];unfold o.Act.enc;refine bn E.bo ?_;refine aa ?_;intro w1 bR dt al av;replace b3:=b3.ext al;refine aa ?_;refine J_ (Bm cn c3 g c q p base m s _ a.value w1 b3 gb ax hIn (aG.ext al)) ?_;rintro _ aH ⟨rfl,ao⟩;replace b3:=b3.ext ao;replace av:=ao.obj av;obtain⟨n,ug⟩:∃n,n=(o.eval a.value (o.cr m s q)).1:=⟨_,rfl⟩;obtain⟨e,uc⟩:∃e,e=(o.eval a.value (o.cr m s q)).2:=⟨_,rfl⟩;rw[<-ug,<-uc];have aI:=al.trans ao;refine aa ?_;intro aP aj;replace b3:=b3.ext aj;replace av:=aj.obj av;have ba:=aI.trans aj;have xF:=b3;obtain⟨hold,xS,⟨zs,ak,h5⟩,rI,fB⟩:=b3;obtain⟨ff,d0,dZ,d1,eK,d2,e5,d3,fu,d4,cd,bw,bO,c1,bV,c2,b2,br,cj,bF,yd,xk,gR,iz,rfl,_,_,eF,eb,dG,fg,gq,af,h1,I,ab,a8,bE⟩:=h5.form;replace ak:=hold.obj ak;obtain⟨gF,b9,fa,jm⟩:=aV.set lf;have ll:a.to.toNat<m.vars.length:=(List.getElem?_eq_some_iff.1 fa).1;obtain⟨fp,iG⟩:=o.Ai ll;have aky:=o.tz ll;have eQ:=o.nR m;have dR:=o.sH m.vars[a.to.toNat] m.scalars;have ajk:=o.s7 ll;have asz:o.cells m.vars[a.to.toNat] m.scalars=1:=by
  have OW:m.vars[a.to.toNat]=b9:=(List.getElem?_eq_some_iff.1 fa).2;rw[OW];unfold o.cells;rw[if_pos jm]
 obtain⟨oz,rfl⟩:=eF.addr;replace eF:=eF.ext Flat.ext hold;clear eb dG fg gq af h1 I ab a8 bE h5;refine aa ?_;refine I_ (fun cC=>?_) (fun cC=>?_);rotate_left
 .refine aa ?_;exact j6.none (by rw[if_pos cC]) ba
 rw[if_neg (by omega)];refine aa ?_;refine K_ a.to.toNat (by omega) (by omega) ?_;refine aa ?_;refine J_ (HR cn c3 g c q base m s (o.gG m a.to.toNat) _ n aP xF a1 ax.len (by rw[iG]) (by omega)) ?_;rintro u aR vz;obtain⟨t,rfl⟩:=vz.Pl;refine aa ?_;exact vz.before ba
theorem agM{w0:A_}(cn c3 g c q p base:Nat)(m:o.Model)(s:C_ Int)(a:o.Act)(bM b7:B_)(w:A_)(b3:k1 w0 w cn c3 g c q base m s)(gb:(o.check m).cA=0)(ax:o.Fits m s)(hIn:o.fI m q p)
  (aV:o.nD (o.inner (m.procs[p]'(hIn.ar)) (o.ey m)) a)(lf:a.kind=3)(U:o.eV w bM a.index)(aG:o.eV w b7 a.value) :
  a7 Tryz.prog F.b0 #[.agg (a.enc bM b7).toArray,.pointer (some ⟨cn,0,none⟩)] w fun u w'=>j6 base g (.slice (some ⟨g,0,none⟩) s.length c) (o.jf m s q a) u w w':=by
 obtain⟨cx,ci,rfl,_⟩:=U.form;obtain⟨uD,tO,rfl,_⟩:=aG.form;have a1:=o.ir gb;obtain⟨f6,f7,f8⟩:=o.s6 m;have done:o.jf m s q a=if (o.eval a.value (o.cr m s q)).2≠0 then none else o.putAt m s (o.dj m q+1+a.to.toNat) (o.eval a.value (o.cr m s q)).1:=by
  unfold o.jf;rw[if_neg (show ¬a.kind=5 by omega),if_neg (show ¬a.kind=1 by omega),if_neg (show ¬a.kind=2 by omega),if_pos lf]
 rw[done];unfold o.Act.enc;refine bn E.b0 ?_;refine aa ?_;intro w1 bR dt al av;replace b3:=b3.ext al;refine aa ?_;refine J_ (Bm cn c3 g c q p base m s _ a.value w1 b3 gb ax hIn (aG.ext al)) ?_;rintro _ aH ⟨rfl,ao⟩;replace b3:=b3.ext ao;replace av:=ao.obj av;obtain⟨n,ug⟩:∃n,n=(o.eval a.value (o.cr m s q)).1:=⟨_,rfl⟩;obtain⟨e,uc⟩:∃e,e=(o.eval a.value (o.cr m s q)).2:=⟨_,rfl⟩;rw[<-ug,<-uc];have aI:=al.trans ao;refine aa ?_;intro aP aj;replace b3:=b3.ext aj;replace av:=aj.obj av;have ba:=aI.trans aj;have xF:=b3;obtain⟨hold,xS,⟨zs,ak,h5⟩,rI,fB⟩:=b3;obtain⟨ff,d0,dZ,d1,eK,d2,e5,d3,fu,d4,cd,bw,bO,c1,bV,c2,b2,br,cj,bF,yd,xk,gR,iz,rfl,_,_,eF,eb,dG,fg,gq,af,h1,I,ab,a8,bE⟩:=h5.form;replace ak:=hold.obj ak;have au:=hIn.au;obtain⟨gF,Of⟩:=aV.loc lf;have IP:a.to.toNat<(m.procs[p]'(hIn.ar)).vars.length:=Of;obtain⟨fp,iG⟩:=o.rV au;have rT:=hIn.room;have mz:o.dW m<=64:=o.kt a1;have hlen:=ax.len;obtain⟨oz,rfl⟩:=dG.addr;replace dG:=dG.ext Flat.ext hold;clear eF eb fg gq af h1 I ab a8 bE h5;refine aa ?_;refine I_ (fun cC=>?_) (fun cC=>?_);rotate_left
 .refine aa ?_;exact j6.none (by rw[if_pos cC]) ba
 rw[if_neg (by omega)];refine aa ?_;refine J_ (HR cn c3 g c q base m s (o.dj m q+1+a.to.toNat) _ n aP xF a1 ax.len (by rw[iG];omega) (by omega)) ?_;rintro u aR vz;obtain⟨t,rfl⟩:=vz.Pl;refine aa ?_;exact vz.before ba
theorem agF{w0:A_}(cn c3 g c q p base:Nat)(m:o.Model)(s:C_ Int)(a:o.Act)(bM b7:B_)(w:A_)(b3:k1 w0 w cn c3 g c q base m s)(gb:(o.check m).cA=0)(ax:o.Fits m s)(hIn:o.fI m q p)
  (aV:o.nD (o.inner (m.procs[p]'(hIn.ar)) (o.ey m)) a)(lf:a.kind=2)(U:o.eV w bM a.index)(aG:o.eV w b7 a.value) :
  a7 Tryz.prog F.bR #[.agg (a.enc bM b7).toArray,.pointer (some ⟨cn,0,none⟩)] w fun u w'=>j6 base g (.slice (some ⟨g,0,none⟩) s.length c) (o.jf m s q a) u w w':=by
 obtain⟨cx,ci,rfl,_⟩:=U.form;obtain⟨uD,tO,rfl,_⟩:=aG.form;have a1:=o.ir gb;obtain⟨f6,f7,f8⟩:=o.s6 m;have done:o.jf m s q a=if (o.eval a.value (o.cr m s q)).2≠0 then none else o.BZ m s a (o.eval a.index (o.cr m s q)) (o.eval a.value (o.cr m s q)).1:=by
  unfold o.jf;rw[if_neg (show ¬a.kind=5 by omega),if_neg (show ¬a.kind=1 by omega),if_pos lf]
 rw[done];unfold o.Act.enc;refine bn E.bR ?_;refine aa ?_;intro w1 bR dt al av;replace b3:=b3.ext al;refine aa ?_;refine J_ (Bm cn c3 g c q p base m s _ a.index w1 b3 gb ax hIn (U.ext al)) ?_;rintro _ aH ⟨rfl,ao⟩;replace b3:=b3.ext ao;replace av:=ao.obj av;have aI:=al.trans ao;refine aa ?_;refine J_ (Bm cn c3 g c q p base m s _ a.value aH b3 gb ax hIn (aG.ext aI)) ?_;rintro _ aP ⟨rfl,aj⟩;replace b3:=b3.ext aj;replace av:=aj.obj av;have ba:=aI.trans aj;obtain⟨n,ug⟩:∃n,n=(o.eval a.value (o.cr m s q)).1:=⟨_,rfl⟩;obtain⟨e,uc⟩:∃e,e=(o.eval a.value (o.cr m s q)).2:=⟨_,rfl⟩;obtain⟨k,X0⟩:∃k,k=(o.eval a.index (o.cr m s q)).1:=⟨_,rfl⟩;obtain⟨f,XI⟩:∃f,f=(o.eval a.index (o.cr m s q)).2:=⟨_,rfl⟩;have p1:o.BZ m s a (o.eval a.index (o.cr m s q)) n=if f≠0\/k<1\/(o.qc m a.to.toNat:Int)<k then none else o.putAt m s (o.gG m a.to.toNat+k.toNat - 1) n:=by unfold o.BZ;rw[<-X0,<-XI]
 rw[<-ug,<-uc,p1,<-X0,<-XI];clear p1 done;have xF:=b3;obtain⟨hold,xS,⟨zs,ak,h5⟩,rI,fB⟩:=b3;obtain⟨ff,d0,dZ,d1,eK,d2,e5,d3,fu,d4,cd,bw,bO,c1,bV,c2,b2,br,cj,bF,yd,xk,gR,iz,rfl,_,_,eF,eb,dG,fg,gq,af,h1,I,ab,a8,bE⟩:=h5.form;replace ak:=hold.obj ak;obtain⟨gF,OV,XT⟩:=aV.item lf;have ll:a.to.toNat<m.vars.length:=OV;obtain⟨fp,iG⟩:=o.Ai ll;have aky:=o.tz ll;have eQ:=o.nR m;have ajk:=o.s7 ll;have dR:=o.sH m.vars[a.to.toNat] m.scalars;have mz:o.dW m<=64:=o.kt a1;have hlen:=ax.len;obtain⟨oz,rfl⟩:=eF.addr;obtain⟨yR,rfl⟩:=h1.addr;replace eF:=eF.ext Flat.ext hold;replace af:=af.ext hold;have eo:=((h1.at a.to.toNat ll).cells).ext hold;clear eb dG fg gq h1 I ab a8 bE h5;refine aa ?_;refine I_ (fun cC=>?_) (fun cC=>?_);rotate_left
 .refine aa ?_;intro aR aA;refine j6.none ?_ (ba.trans aA);by_cases h:e≠0
  .rw[if_pos h]
  .rw[if_neg h,if_pos (.inl cC)]
 refine aa ?_;refine I_ (fun cS=>?_) (fun cS=>?_);rotate_left
 .refine aa ?_;intro aR aA;exact j6.none (by rw[if_pos cS]) (ba.trans aA)
 rw[if_neg (show ¬e≠0 by omega)];refine aa ?_;refine I_ (fun eT=>?_) (fun eT=>?_)
 .refine aa ?_;intro aR aA;exact j6.none (by rw[if_pos (.inr (.inl eT))]) (ba.trans aA)
 refine aa ?_;refine K_ a.to.toNat (by omega) (by omega) ?_;refine aa ?_;refine P_ (.int .i64 (o.cells m.vars[a.to.toNat] m.scalars)) (fun w' e'=>A7 m.vars[a.to.toNat] _ m.scalars w' (af.ext e')) ?_;refine aa ?_;intro aR aA;refine I_ (fun hI=>?_) (fun hI=>?_)
 .refine aa ?_;exact j6.none (by rw[if_pos (.inr (.inr (by omega)))]) (ba.trans aA)
 rw[if_neg (by omega)];have zj:=xF.ext aA;replace av:=aA.obj av;replace ak:=aA.obj ak;replace rI:=aA.obj rI;have aaG:=eF.ext Flat.ext aA;clear eF af eo;refine aa ?_;intro bq aJ;replace zj:=zj.ext aJ;replace av:=aJ.obj av;replace ak:=aJ.obj ak;replace rI:=aJ.obj rI;replace aaG:=aaG.ext Flat.ext aJ;refine aa ?_;refine K_ a.to.toNat (by omega) (by omega) ?_;refine aa ?_;refine J_ (HR cn c3 g c q base m s (o.gG m a.to.toNat+k.toNat - 1) _ n bq zj a1 ax.len (by rw[iG];omega) (by omega)) ?_;rintro u bB tX;obtain⟨t,rfl⟩:=tX.Pl;refine aa ?_;exact tX.before ((ba.trans aA).trans aJ)
end Go.Proofs.R
end