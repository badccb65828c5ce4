/- Parts. -/
import Derived.Test.YtakmdjclehkglaaGreatDoorQapp
set_option linter.all false
set_option maxRecDepth 8000
set_option maxHeartbeats 16000000
namespace o
open Go
structure l5(m:Model)(ref:Int)(t:Bool):Prop where
 none:¬Told m ref->t=false
 there:∀q p k a b,fa m ref q p k->kB m ref a b->(t=true↔(bN m p k).to<=(bN m p k).from_\/∃x∈b,x∈s3 m)
def l5.no{m:Model}{ref:Int}(h:¬Told m ref):l5 m ref false:=⟨λ_=>rfl,λ_ _ _ _ _ bw=>absurd bw.told h⟩
theorem l5.of{m:Model}{ref:Int}{q p k:Nat}{a b:C_ Int}{t:Bool}(bw:fa m ref q p k)(bG:kB m ref a b)(h:t=true↔(bN m p k).to<=(bN m p k).from_\/∃x∈b,x∈s3 m):l5 m ref t :=
 ⟨λaw=>absurd bw.told aw,λeK gA k' cx fS qM ala=>by
  obtain⟨rfl,rfl,rfl⟩:=bw.one qM;obtain⟨rfl,rfl⟩:=bG.eq ala;exact h⟩
def afE{m:Model}{ref:Int}{q p k:Nat}{a b:C_ Int}(bw:fa m ref q p k)(bG:kB m ref a b):∀x∈b,0<=x/\x<di m:=λx af=>auL bw x (((bG.there q p k bw).2.mem x).1 af)
end o
namespace Go.Proofs.R
open Go Go.RowKit a8
def TT{m:o.Model}{b:C_ Int}(hk:(o.check m).cJ=0)(ak:∀x∈b,0<=x/\x<o.di m):b.any (pK (o.jC m))=true↔∃x∈b,x∈o.s3 m:=by
 rw[List.any_eq_true];have key:∀x∈b,(pK (o.jC m) x=true↔x∈o.s3 m):=λx af=>by
  obtain⟨ad,h1⟩:=ak x af;unfold pK o.jC;rw[if_pos hk,List.getElem?_map,List.getElem?_range Ad];simp only[Option.map_some,Option.getD_some,decide_eq_true_eq];rw[show((x.toNat:Nat):Int)=x from Ad]
 constructor
 .rintro⟨x,af,h⟩;exact⟨x,af,(key x af).1 h⟩
 .rintro⟨x,af,h⟩;exact⟨x,af,(key x af).2 h⟩
def aeH{m:o.Model}(hk:(o.check m).cJ=0):(o.jC m).length=o.di m:=by unfold o.jC;rw[if_pos hk];simp
def yt{s:ByteArray}{f t:Int}{a b:H_ Addr}{kQ ka c1 c2:Nat}{y:Bool}:∀x∈(#[.string s,.I f,.I t,.slice a kQ c1,.slice b ka c2,.bool y]:Array B_).toList,x.oneCell'=true:=by simp[Value.oneCell']
def aiE(cs:C_ B_)(m:o.Model)(ref:Int)(w:A_)(h:o.dj w cs m)(aG:m.cv)(aQ:gJ w) :
  Du F.lh #[.agg cs.toArray,.I ref] w λu w'=>(∃t,u = .bool t/\o.l5 m ref t)/\Ext w w':=by
 have b4:=h;obtain⟨b0,bz,bO,c1,bT,c2,bV,bu,b1,bB,rfl,_⟩:=h.form;refine bl E.lh ?_;refine J ?_;intro w1 bQ c7 ag ao;refine J ?_;refine J_ (zh _ m w1 (b4.ext ag) aG (aQ.ext ag)) ?_;rintro _ aA ⟨rfl,ai⟩;replace ao:=ai.obj ao;have aH:=ag.trans ai;refine J ?_;refine Y_ (v:=.I (o.check m).cJ) rfl ?_;refine J ?_;apply I_<;>intro g1;rotate_left
 .refine J ?_;exact⟨⟨false,aK,o.l5.no λh=>g1 h.1⟩,aH⟩
 have gQ:=o.hE g1;have hR:=o.qo gQ.lim;refine J ?_;refine J_ (zt _ m aA (b4.ext aH) gQ.lim) ?_;rintro vr aM ⟨fD,ah⟩;obtain⟨e9,mJ,rfl,_⟩:=fD.form;have jI:bm 2 (Flat o.Ref.enc) aM _ _:=aJ.e3 (enc:=o.Ref.enc) (λ_=>rfl) fD;replace ao:=ah.obj ao;have aR:=aH.trans ah;clear fD;refine J ?_;apply I_<;>intro g2
 .refine J ?_;exact⟨⟨false,aK,o.l5.no λh=>by have:=h.2.1;omega⟩,aR⟩
 refine J ?_;apply I_<;>intro g3
 .refine J ?_;exact⟨⟨false,aK,o.l5.no λh=>by have:=h.2.2;omega⟩,aR⟩
 obtain⟨q,p,k,bw⟩:=o.mI (m:=m) (ref:=ref) ⟨g1,Ad,Ad⟩;obtain⟨r,rfl⟩:=Nb (show 0<=ref by omega);have aS:r<(o.refs m).length:=Ad
 have fk:(o.refs m)[r].inst=(q:Int):=bw.at_.mX;have j7:(o.refs m)[r].cmd=(k:Int):=bw.at_.pI;obtain⟨l7,rfl⟩:=jI.addr;refine dS ?_;refine R_ [1,2] (λdC:Nat=>[(6,.pointer (some ⟨dC,0,none⟩))]) (λdC W=>(∃fA fL aN fs,W.heap[dC]? = some (.cells #[.string (o.bN m p k).name,.I (o.bN m p k).from_,.I (o.bN m p k).to,.slice fA (o.bN m p k).guard.length fL,.slice aN (o.bN m p k).bP.length fs,.bool (o.bN m p k).fair] T.q))/\Ext aM W) ?_ ?_
 .have sH:∀{W},Ext aM W->Du F.c #[.agg #[.slice b0 m.scalars.length bz,.slice bO m.vars.length c1,.slice bT m.ax.length c2,.slice bV m.procs.length bu,.slice b1 m.props.length bB]] W λv w'=>(∃b8 ci,v = .slice b8 (o.insts m).length ci/\ik w' v (o.insts m))/\Ext W w':=λ{W} he=>(xl _ m W (b4.ext (aR.trans he)) aG).mono λv w' ⟨aF,hn⟩=>by
   obtain⟨b8,ci,rfl,_⟩:=aF.form;exact⟨⟨b8,ci,rfl,aJ.e3 (enc:=o.cO.enc) (λ_=>rfl) aF⟩,hn⟩
  have dH:∀{W} {bK},Ext aM W->ik W bK (o.insts m)->Du F.s #[.agg #[.slice b0 m.scalars.length bz,.slice bO m.vars.length c1,.slice bT m.ax.length c2,.slice bV m.procs.length bu,.slice b1 m.props.length bB],bK,.agg ((o.refs m)[r]).enc.toArray] W λu w'=>(∃fA fL aN fs,u = .agg #[.string (o.bN m p k).name,.I (o.bN m p k).from_,.I (o.bN m p k).to,.slice fA (o.bN m p k).guard.length fL,.slice aN (o.bN m p k).bP.length fs,.bool (o.bN m p k).fair])/\Ext W w':=λ{W bK} he U=>(YA _ bK m r q p k W (b4.ext (aR.trans he)) U bw _ fk j7).mono λu w' ⟨⟨fi,va,hu,aw,aY⟩,hn⟩=>by
   obtain⟨fA,fL,rfl,_⟩:=aw.form;obtain⟨aN,fs,rfl,_⟩:=aY.form;exact⟨⟨fA,fL,aN,fs,hu⟩,hn⟩
  refine J ?_;intro aU aq;replace ao:=aq.obj ao;have alg:=jI.ext Flat.ext aq;refine J ?_;refine⟨?_,?_⟩
  .refine J_ (sH aq) ?_;rintro _ bh ⟨⟨b8,ci,rfl,aP⟩,av⟩;have bC:=aq.trans av;refine⟨av,?_⟩;refine J ?_;refine⟨?_,?_⟩
   .refine J_ (dH bC aP) ?_;rintro _ bq ⟨⟨fA,fL,aN,fs,rfl⟩,aD⟩;have b6:=bC.trans aD;refine J ?_;intro bH dC e5 bc bS;refine⟨(av.trans aD).trans bc,?_⟩;refine U_ bS rfl rfl yt λcB ja cD=>?_;have eN:=ja.ext bc e5;refine J ?_;exact⟨dC,⟨aK,trivial⟩,⟨_,_,_,_,cD⟩,b6.trans eN⟩
   .refine O_ ?_;intro bq dC e5 aD bS;have b6:=bC.trans aD;refine⟨av.trans aD,?_⟩;refine J ?_;refine J_ (dH b6 (aP.ext Flat.ext aD)) ?_;rintro _ bH ⟨⟨fA,fL,aN,fs,rfl⟩,bc⟩;refine J ?_;refine U_ (bc.obj bS) rfl rfl yt λcB ja cD=>?_;have eN:=ja.ext (aD.trans bc) e5;refine J ?_;exact⟨dC,⟨aK,trivial⟩,⟨_,_,_,_,cD⟩,bC.trans eN⟩
  .refine O_ ?_;intro bh dC e5 av bS;have bC:=aq.trans av;refine⟨av,?_⟩;refine J ?_;refine J_ (sH bC) ?_;rintro _ bq ⟨⟨b8,ci,rfl,aP⟩,aD⟩;have b6:=bC.trans aD;refine⟨av.trans aD,?_⟩;refine J ?_;refine J_ (dH b6 aP) ?_;rintro _ bH ⟨⟨fA,fL,aN,fs,rfl⟩,bc⟩;refine J ?_;refine U_ ((aD.trans bc).obj bS) rfl rfl yt λcB ja cD=>?_;have eN:=ja.ext ((av.trans aD).trans bc) e5;refine J ?_;exact⟨dC,⟨aK,trivial⟩,⟨_,_,_,_,cD⟩,aq.trans eN⟩
 rintro dC S aU ⟨⟨fA,fL,aN,fs,bS⟩,aq⟩;replace ao:=aq.obj ao;have bn:=aR.trans aq;refine J ?_;refine J_ (af5 _ m (r:Int) aU (b4.ext bn) aG (aQ.ext bn)) ?_;rintro _ bh ⟨⟨fq,ky,a,b,rfl,dd,hK,bG⟩,av⟩;have bC:=bn.trans av;replace ao:=av.obj ao;replace bS:=av.obj bS;have en:=o.afE bw bG;have hlen:=aeH g1;refine J ?_;refine J_ (as2 _ m bh (b4.ext bC) aG (aQ.ext bC)) ?_;rintro aur bq ⟨⟨b9,n,aF⟩,aD⟩;have b6:=bC.trans aD;replace bS:=aD.obj bS;have fin:∀(W:A_) (bL:Nat),Ext bq W->(0<b.length->yg W bL b9 (o.jC m))->Du F.h #[ky,.func (.func F.m) #[] #[.pointer (some ⟨bL,0,none⟩)]] W λbU w'=>bU = .bool (b.any (pK (o.jC m)))/\Ext W w':=λW bL he b5 =>
  asV ky b bL b9 _ W (hK.ext Flat.ext (aD.trans he)) b5 λx af=>⟨(en x af).1,by have:=en x af;omega⟩
 have jL:∃p,aur = .slice p n n/\(0<b.length->p=some ⟨b9,0,none⟩/\n=(o.jC m).length/\bq.heap[b9]? = some (.cells (mG (o.jC m)).toArray T.j)):=by
  rcases aF with ⟨aj,rfl,rfl⟩ | ⟨rfl,aw,_,kM⟩
  .refine⟨none,rfl,λak=>?_⟩;have h1:=en _ (ED ak);rw[aj] at hlen;simp at hlen;omega
  .exact⟨_,rfl,λ_=>⟨rfl,aw,kM⟩⟩
 obtain⟨aqN,rfl,RE⟩:=jL;refine J ?_;intro wn bL oR e8 eC;refine J ?_;intro bH dw kJ;have bc:Ext bq bH:=dw.ext e8 oR;clear eC;have cM:=b6.trans bc;replace bS:=bc.obj bS;have FC:0<b.length->yg bH bL b9 (o.jC m):=λak=>by
  obtain⟨rfl,rfl,kM⟩:=RE ak;exact⟨kJ,bc.obj kM⟩
 refine J ?_;apply I_<;>intro g5
 .refine J ?_;exact⟨⟨true,aK,o.l5.of bw bG ⟨λ_=>.inl g5,λ_=>rfl⟩⟩,cM⟩
 refine J ?_;refine J_ (fin bH bL bc FC) ?_;rintro _ cB ⟨rfl,bt⟩;refine J ?_;refine⟨⟨_,aK,o.l5.of bw bG ?_⟩,cM.trans bt⟩;rw[TT g1 en];exact⟨.inr,λh=>h.resolve_left Ad⟩
end Go.Proofs.R
namespace o
open Go
def mB(m:Model)(q l:Int)(i:Nat):Prop := ∃(eK p k:Nat),fa m i eK p k/\(eK:Int)=q/\(bN m p k).from_=l
def pj(m:Model)(q l:Int):Prop:=(check m).cJ=0/\∃(eK p:Nat) (h:fJ m eK p),(eK:Int)=q/\0<=l/\l<(m.procs[p]'(h.ar)).cm
def BU(m:Model)(L:C_ (C_ Int×C_ Int))(q l:Int):Prop :=
 ∀i,mB m q l i->∀j (az:j<(refs m).length),(refs m)[j].inst≠q->∀x y,L[i]? = some x->L[j]? = some y->¬nm x.1 x.2 y.1 y.2
structure kW(m:Model)(q l:Int)(t:Bool):Prop where
 off:¬pj m q l->t=false
 there:pj m q l->∀L,l6 m (refs m).length L->(t=true↔BU m L q l)
def kW.no{m:Model}{q l:Int}(h:¬pj m q l):kW m q l false:=⟨λ_=>rfl,λk=>absurd k h⟩
theorem kW.of{m:Model}{q l:Int}{t:Bool}{L:C_ (C_ Int×C_ Int)}(dd:pj m q l)(gL:l6 m (refs m).length L)(h:t=true↔BU m L q l):kW m q l t :=
 ⟨λk=>absurd dd k,λ_ nI Qq=>by rw[<-gL.eq Qq];exact h⟩
def Dx{m:Model}{q p:Nat}{l:Int}(hk:(check m).cJ=0)(aP:fJ m q p)(ad:0<=l)(h1:l<(m.procs[p]'aP.ar).cm):pj m q l:=⟨hk,q,p,aP,rfl,ad,h1⟩
theorem fJ.one{m:Model}{q p gA:Nat}(h:fJ m q p)(br:fJ m q gA):p=gA:=by
 have a:=h.eq;have b:=br.eq;omega
def pj.lt{m:Model}{q p:Nat}{l:Int}(h:pj m q l)(aP:fJ m q p):0<=l/\l<(m.procs[p]'aP.ar).cm:=by
 obtain⟨_,eK,gA,akS,e,ad,h1⟩:=h
 have:eK=q:=Ad
 subst this
 have:=aP.one akS
 subst this;exact⟨ad,h1⟩
theorem pj.aV{m:Model}{q l:Int}(h:pj m q l):0<=q/\q<(insts m).length/\0<=l:=by
 obtain⟨_,eK,gA,aP,e,ad,h1⟩:=h
 have:=aP.au
 omega
def PX{m:Model}{q l:Int}{i eK p k:Nat}(bw:fa m i eK p k):mB m q l i↔((eK:Int)=q/\(bN m p k).from_=l):=by
 constructor
 .rintro⟨a,b,c,h,h1,I⟩;obtain⟨rfl,rfl,rfl⟩:=bw.one h;exact⟨h1,I⟩
 .rintro⟨h1,I⟩;exact⟨eK,p,k,bw,h1,I⟩
def mB.lt{m:Model}{q l:Int}{i:Nat}(h:mB m q l i):i<(refs m).length:=by
 obtain⟨_,_,_,bw,_⟩:=h
 have:=bw.told.2.2
 omega
theorem TH:∀l:C_ Int,∃r,pk l r
 | []=>⟨[],List.Pairwise.nil,λ_=>Iff.rfl⟩
 | x :: l=>by
  obtain⟨r,aS⟩:=TH l;by_cases af:x∈r
  .exact⟨r,aS.lz,λy=>by
    rw[aS.mem,AJ4];exact⟨.inr,λh=>h.elim (λe=>e ▸ (aS.mem x).1 af) id⟩⟩
  .refine⟨r.filter (· < x)++x :: r.filter (x < ·),?_,λy=>?_⟩
   .refine List.pairwise_append.2 ⟨aS.lz.sublist List.filter_sublist,List.pairwise_cons.2 ⟨λy bE=>?_,aS.lz.sublist List.filter_sublist⟩,λy bE z bA=>?_⟩
    .simpa using(List.mem_filter.1 bE).2
    .have h1:y<x:=by simpa using(List.mem_filter.1 bE).2
     rcases List.mem_cons.1 bA with e | e
     .omega
     .have I:x<z:=by simpa using(List.mem_filter.1 e).2
      omega
   .rw[AG0,AJ4,AJ5,AJ5,AJ4,<-aS.mem y];simp only[decide_eq_true_eq];constructor
    .rintro(h | h | h)
     .exact .inr h.1
     .exact .inl h
     .exact .inr h.1
    .rintro(h | h)
     .exact .inr (.inl h)
     .have:y≠x:=λe=>af (e ▸ h)
      rcases Int.lt_or_lt_of_ne this with k | k
      .exact .inl ⟨h,k⟩
      .exact .inr (.inr ⟨h,k⟩)
def ad3(m:Model)(ref:Int):∃a b,kB m ref a b:=by
 by_cases aB:Told m ref
 .obtain⟨q,p,k,bw⟩:=mI aB;obtain⟨a,aY⟩:=TH (ql m q (bN m p k) (bN m p k).bP.length);obtain⟨b,ak⟩:=TH (kg m q (bN m p k) (bN m p k).bP.length);exact⟨a,b,kB.of bw aY ak⟩
 .exact⟨[],[],kB.nil aB⟩
theorem afn(m:Model):∀n,∃L,l6 m n L
 | 0=>⟨[],l6.nil m⟩
 | n+1=>by
  obtain⟨L,h⟩:=afn m n;obtain⟨a,b,bG⟩:=ad3 m n;exact⟨_,h.snoc bG⟩
noncomputable def GS(m:Model)(q l:Int):Bool := @decide (pj m q l/\∀L,l6 m (refs m).length L->BU m L q l) (Classical.propDecidable _)
def kW.is{m:Model}{q l:Int}{t:Bool}(h:kW m q l t):t=GS m q l:=by
 unfold GS;by_cases dd:pj m q l
 .obtain⟨L,gL⟩:=afn m (refs m).length;have h1:=h.there dd L gL;refine Bool.eq_iff_iff.2 (h1.trans ?_);rw[@decide_eq_true_iff _ (Classical.propDecidable _)];exact⟨λk=>⟨dd,λnI Qq=>gL.eq Qq ▸ k⟩,λk=>k.2 L gL⟩
 .rw[h.off dd];exact(@decide_eq_false _ (Classical.propDecidable _) λk=>dd k.1).symm
noncomputable def r8(m:Model)(ref:Int):Bool := @decide (∃q p k a b,fa m ref q p k/\kB m ref a b/\((bN m p k).to<=(bN m p k).from_\/∃x∈b,x∈s3 m)) (Classical.propDecidable _)
def l5.is{m:Model}{ref:Int}{t:Bool}(h:l5 m ref t):t=r8 m ref:=by
 unfold r8;refine Bool.eq_iff_iff.2 ?_;rw[@decide_eq_true_iff _ (Classical.propDecidable _)];constructor
 .intro e;have aB:Told m ref:=Classical.byContradiction λaw=>by rw[h.none aw] at e;cases e
  obtain⟨q,p,k,bw⟩:=mI aB;obtain⟨a,b,bG⟩:=ad3 m ref;exact⟨q,p,k,a,b,bw,bG,(h.there q p k a b bw bG).1 e⟩
 .rintro⟨q,p,k,a,b,bw,bG,hk⟩;exact(h.there q p k a b bw bG).2 hk
structure oC where
 cmd:Int
 k9:Int
 to:List Int
def zn(m:Model)(q:Nat):Nat:=match (insts m)[q]? with
 | some i=>i.proc.toNat
 | none=>0
def lU(m:Model)(s:C_ Int)(r:Nat):C_ oC:=match (refs m)[r]? with
 | none=>[]
 | some x=>match hJ m s x.inst.toNat (bN m (zn m x.inst.toNat) x.cmd.toNat) with
  | none=>[]
  | some t=>⟨r,0,t⟩ :: if ways (bN m (zn m x.inst.toNat) x.cmd.toNat) m.ax=2 then [⟨r,1,lost m s t (bN m (zn m x.inst.toNat) x.cmd.toNat)⟩] else []
def o4(m:Model)(s:C_ Int)(n:Nat):C_ oC:=(List.range n).flatMap (lU m s)
def jc(m:Model)(s:C_ Int):C_ oC:=match o4 m s (refs m).length with
 | []=>[⟨-1,0,s⟩]
 | l=>l
def ac1(m:Model)(s:C_ Int)(n:Nat):o4 m s (n+1)=o4 m s n++lU m s n:=by
 unfold o4;rw[AH0,AF8];simp
def apJ(m:Model)(s:C_ Int)(r:Nat):(lU m s r).length<=2:=by
 unfold lU;split
 .simp
 .split
  .simp
  .split<;>simp
theorem ac0(m:Model)(s:C_ Int):∀n,(o4 m s n).length<=2*n
 | 0=>by simp[o4]
 | n+1=>by
  rw[ac1,MD]
  have:=ac0 m s n
  have:=apJ m s n
  omega
theorem fa.lU{m:Model}{r q p k:Nat}(h:fa m r q p k)(s:C_ Int):lU m s r=match hJ m s q (bN m p k) with
  | none=>[]
  | some t=>⟨r,0,t⟩ :: if ways (bN m p k) m.ax=2 then [⟨r,1,lost m s t (bN m p k)⟩] else []:=by
 have h1:=h.U;have dd:=h.at_;simp only[Int.toNat_natCast] at h1 dd;have bF:(refs m)[r].inst.toNat=q:=by have:=dd.mX;omega
 have aH:(refs m)[r].cmd.toNat=k:=by have:=dd.pI;omega
 have aR:zn m q=p:=by
  unfold zn;rw[List.getElem?_eq_getElem dd.U]
  have:=dd.ip
  simp only;omega
 unfold o.lU;rw[List.getElem?_eq_getElem h1];simp only[bF,aH,aR]
def fa.off{m:Model}{r q p k:Nat}(h:fa m r q p k){s:C_ Int}(br:hJ m s q (bN m p k)=none):o.lU m s r=[]:=by rw[h.lU,br]
def fa.adm{m:Model}{r q p k:Nat}(h:fa m r q p k){s t:C_ Int}(br:hJ m s q (bN m p k)=some t)(hw:¬ways (bN m p k) m.ax=2):o.lU m s r=[⟨r,0,t⟩]:=by
 rw[h.lU,br];simp only[if_neg hw]
def fa.aqh{m:Model}{r q p k:Nat}(h:fa m r q p k){s t:C_ Int}(br:hJ m s q (bN m p k)=some t)(hw:ways (bN m p k) m.ax=2):o.lU m s r=[⟨r,0,t⟩,⟨r,1,lost m s t (bN m p k)⟩]:=by
 rw[h.lU,br];simp only[if_pos hw]
structure On(m:Model)(s:List Int)(x:oC)(q p k:Nat)(u:List Int):Prop where
 at_:fa m x.cmd q p k
 avs:hJ m s q (bN m p k)=some u
 axO:x.k9=0/\x.to=u\/x.k9=1/\ways (bN m p k) m.ax=2/\x.to=lost m s u (bN m p k)
theorem apI{m:Model}{s:C_ Int}{r:Nat}(hk:(check m).cJ=0)(aS:r<(refs m).length){x:oC}(af:x∈lU m s r):∃q p k u,On m s x q p k u/\x.cmd=r:=by
 obtain⟨q,p,k,bw⟩:=mI (m:=m) (ref:=r) ⟨hk,Ad,Ad⟩;cases h:hJ m s q (bN m p k) with
 | none=>rw[bw.off h] at af;cases af
 | some u =>
  by_cases hw:ways (bN m p k) m.ax=2
  .rw[bw.aqh h hw] at af;simp only[List.mem_cons,List.not_mem_nil,or_false] at af;rcases af with rfl | rfl
   .exact⟨q,p,k,u,⟨bw,h,.inl ⟨rfl,rfl⟩⟩,rfl⟩
   .exact⟨q,p,k,u,⟨bw,h,.inr ⟨rfl,hw,rfl⟩⟩,rfl⟩
  .rw[bw.adm h hw] at af;simp only[List.mem_cons,List.not_mem_nil,or_false] at af;subst af;exact⟨q,p,k,u,⟨bw,h,.inl ⟨rfl,rfl⟩⟩,rfl⟩
def apC{m:Model}{s:C_ Int}(hk:(check m).cJ=0){x:oC}(af:x∈jc m s):(x.cmd = -1/\x.k9=0/\x.to=s)\/∃q p k u,On m s x q p k u:=by
 have key:x∈o4 m s (refs m).length->∃q p k u,On m s x q p k u:=λh=>by
  unfold o4 at h;obtain⟨r,aS,af⟩:=List.mem_flatMap.1 h;obtain⟨q,p,k,u,h,_⟩:=apI hk (List.mem_range.1 aS) af;exact⟨q,p,k,u,h⟩
 unfold jc at af;split at af
 .simp only[List.mem_cons,List.not_mem_nil,or_false] at af;subst af;exact .inl ⟨rfl,rfl,rfl⟩
 .exact .inr (key af)
def aut{m:Model}{c:dI}(h:ways c m.ax=2):∃j:Nat,(comm c.bP).2=j/\j<m.ax.length:=by
 obtain⟨j,h1,I,_⟩:=auw (c:=c) (l:=m.ax) Ad;exact⟨j,h1,I⟩
def auu(c:dI)(l:C_ dZ):ways c l<=2:=by
 unfold ways;split
 .split
  .split<;>omega
  .omega
 .omega
def uC(m:Model)(s:C_ Int)(r:Nat):Prop := ∃q p k,fa m r q p k/\hJ m s q (bN m p k)≠none
def xv(m:Model)(s:C_ Int)(j:Nat):Int:=(s[cU m j]?).getD 0
structure mz(m:Model)(s:List Int)(j:Nat):Prop where
 loc:GS m j (xv m s j)=true
 E1:∀r,mB m j (xv m s j) r->r8 m r=false
 on:∃r,mB m j (xv m s j) r/\uC m s r
structure sj(m:Model)(s:List Int)(i:Int):Prop where
 bad:¬iN m s->i = -1
 none:iN m s->i<0->i = -1/\∀j,j<(insts m).length->¬mz m s j
 some:iN m s->0<=i->i.toNat<(insts m).length/\mz m s i.toNat/\∀j,j<i.toNat->¬mz m s j
def sj.eq{m:Model}{s:C_ Int}{i q4:Int}(h:sj m s i)(k:sj m s q4):i=q4:=by
 by_cases bG:iN m s
 .by_cases h1:i<0
  .obtain⟨bF,kQ⟩:=h.none bG h1;by_cases I:q4<0
   .rw[bF,(k.none bG I).1]
   .obtain⟨a,b,_⟩:=k.some bG Ad;exact absurd b (kQ _ a)
  .obtain⟨a,b,c⟩:=h.some bG Ad;by_cases I:q4<0
   .exact absurd b ((k.none bG I).2 _ a)
   .obtain⟨cx,fS,iQ⟩:=k.some bG Ad;rcases Nat.lt_trichotomy i.toNat q4.toNat with q | q | q
    .exact absurd b (iQ _ q)
    .omega
    .exact absurd fS (c _ q)
 .rw[h.bad bG,k.bad bG]
def CF(m:Model)(r:Nat):Int:=match (refs m)[r]? with
 | some x=>(bN m (zn m x.inst.toNat) x.cmd.toNat).from_
 | none=>0
def Dr(m:Model)(r:Nat):Int:=match (refs m)[r]? with
 | some x=>x.inst
 | none => -1
def kn(m:Model)(q l:Int)(r:Nat):Bool:=decide (Dr m r=q)&&decide (CF m r=l)
def fa.rel{m:Model}{r q p k:Nat}(h:fa m r q p k):Dr m r=q/\CF m r=(bN m p k).from_:=by
 have h1:=h.U;have dd:=h.at_;simp only[Int.toNat_natCast] at h1 dd;have bF:(refs m)[r].inst.toNat=q:=by have:=dd.mX;omega
 have aH:(refs m)[r].cmd.toNat=k:=by have:=dd.pI;omega
 have aR:zn m q=p:=by
  unfold zn;rw[List.getElem?_eq_getElem dd.U]
  have:=dd.ip
  simp only;omega
 unfold Dr CF;rw[List.getElem?_eq_getElem h1];simp only[bF,aH,aR,and_true];exact dd.mX
def CE{m:Model}{q l:Int}{r:Nat}(hk:(check m).cJ=0)(aS:r<(refs m).length):kn m q l r=true↔mB m q l r:=by
 obtain⟨eK,p,k,bw⟩:=mI (m:=m) (ref:=r) ⟨hk,Ad,Ad⟩;obtain⟨h1,I⟩:=bw.rel;rw[PX bw];unfold kn;rw[h1,I,AK6,decide_eq_true_eq,decide_eq_true_eq]
def vb(m:Model)(q l:Int)(n:Nat):C_ Int:=((List.range n).filter (kn m q l)).map λr:Nat=>(r:Int)
def Q4(m:Model)(q l:Int)(n:Nat):vb m q l (n+1)=vb m q l n++if kn m q l n then [(n:Int)] else []:=by
 unfold vb;rw[AH0,AK2,AF1];congr 1;cases h:kn m q l n<;>simp[h]
def aaJ(m:Model)(q l:Int)(n:Nat):(vb m q l n).length<=n:=by
 unfold vb;rw[AK0]
 have:=AK3 (kn m q l) (List.range n)
 rw[List.length_range] at this;exact this
def amz{m:Model}{q l:Int}{n:Nat}{x:Int}:x∈vb m q l n↔∃r:Nat,x=r/\r<n/\kn m q l r=true:=by
 unfold vb;rw[List.mem_map];constructor
 .rintro⟨r,h,rfl⟩;rw[AJ5,List.mem_range] at h;exact⟨r,rfl,h⟩
 .rintro⟨r,rfl,h1,I⟩;exact⟨r,by rw[AJ5,List.mem_range];exact⟨h1,I⟩,rfl⟩
structure H3(m:Model)(s:List Int)(q l:Int):Prop where
 loc:GS m q l=true
 E1:∀r,mB m q l r->r8 m r=false
 on:∃r,mB m q l r/\uC m s r
def YY{m:Model}{s:C_ Int}{j:Nat}:mz m s j↔H3 m s j (xv m s j):=⟨λh=>⟨h.loc,h.E1,h.on⟩,λh=>⟨h.loc,h.E1,h.on⟩⟩
def vE(m:Model)(i:Int)(x:oC):Bool:=decide (0<=x.cmd)&&decide (Dr m x.cmd.toNat=i)
def ra(m:Model)(s:C_ Int)(i:Int):C_ oC:=if i<0 then jc m s else (jc m s).filter (vE m i)
def apK{m:Model}{s:C_ Int}(hk:(check m).cJ=0){x:oC}(af:x∈jc m s):x.cmd = -1\/(0<=x.cmd/\x.cmd.toNat<(refs m).length):=by
 rcases apC hk af with ⟨h,_⟩ | ⟨q,p,k,u,h⟩
 .exact .inl h
 .exact .inr ⟨h.at_.aV,h.at_.U⟩
end o
namespace o
def aoq(s:C_ Int)(p:Nat)(x:Int)(xs:C_ Int)(h:p+(xs.length+1)<=s.length):jb (s.set p x) (p+1) xs=jb s p (x :: xs):=by
 have h1:p+1+xs.length<=(s.set p x).length:=by rw[XK];omega
 have I:p+(x :: xs).length<=s.length:=by simpa using h
 apply List.ext_getElem?;intro i;rw[A8 h1,A8 I];by_cases U:i=p
 .subst U;rw[if_neg Ad,if_pos ⟨Ad,CC⟩,List.getElem?_set_self Ad];simp
 .by_cases aS:p+1<=i/\i<p+1+xs.length
  .rw[if_pos aS,if_pos ⟨Ad,by simp;omega⟩,show i - p=(i - (p+1))+1 from Ad,List.getElem?_cons_succ]
  .rw[if_neg aS,if_neg (by simp;omega),List.getElem?_set_ne Ad]
def ab4(s:C_ Int)(p:Nat):jb s p []=s:=by simp[jb]
end o
namespace a8
open Go Go.RowKit
def adp{e:F_}{base:Nat}{w:A_}{l:C_ Int}{g n c k:Nat}{x:Int}(h:aJ bX e 1 base w (.slice (some ⟨g,0,none⟩) n c) l)(hk:k<l.length) :
  aJ bX e 1 base (w.setCell ⟨g,k,none⟩ (.I x)) (.slice (some ⟨g,0,none⟩) n c) (l.set k x)/\(∃hF,w.cell? ⟨g,k,none⟩=some hF)/\w.frozen? ⟨g,k,none⟩=false:=by
 rcases h.2 with ⟨aw,ad⟩ | ⟨aki,cap,cur,h1,I,ab,aC,a1,bJ,cr⟩
 .cases aw
 .injection h1 with bF aH aR
  injection bF with bF
  injection bF with bF
  subst bF aR;have cu:k<cur.size:=Ad
  have kZ:Addr.add ⟨g,0,none⟩ k=⟨g,k,none⟩:=by rw[add_eq,SO]
  have an:w.cell? (Addr.add ⟨g,0,none⟩ k)=some cur[k]:=fM ab (Array.getElem?_eq_getElem cu);rw[kZ] at an;have br:w.ownsRow base e 1 (.slice (some ⟨g,0,none⟩) l.length c) l.length (l.flatMap bX):=by unfold aJ at h;rw[aH] at h;exact h
  have aj:=World.ownsRow.stored br k (.I x);rw[PU] at aj;refine⟨?_,⟨_,an⟩,by simp[World.frozen?,ab]⟩;unfold aJ;rw[XK,aH];exact aj.1
theorem adq{e:F_}{base:Nat}{g n c p:Nat}:∀(xs:C_ Int) (i:Nat) (w:A_) (l:C_ Int),aJ bX e 1 base w (.slice (some ⟨g,0,none⟩) n c) l->p+i+xs.length<=l.length ->
  aJ bX e 1 base (iA w ⟨g,p,none⟩ (xs.flatMap bX) i) (.slice (some ⟨g,0,none⟩) n c) (o.jb l (p+i) xs)
 | [],i,w,l,h,_=>by rw[o.ab4];exact h
 | x :: xs,i,w,l,h,aE=>by
  have h6:p+i+(xs.length+1)<=l.length:=by simpa using aE
  have h1:=(adp (x:=x) h (k:=p+i) Ad).1;have I:=adq (p:=p) xs (i+1) _ _ h1 (by rw[XK];omega);rw[<-AI2,o.aoq _ _ _ _ h6] at I;show aJ bX e 1 base (iA (w.setCell (Addr.add ⟨g,p,none⟩ i) (.I x)) ⟨g,p,none⟩ (xs.flatMap bX) (i+1)) _ _;rw[add_eq];exact I
def _a{S:Fr}{w:A_}{bj:B_->Prop}{n cap g:Nat}{x y:G_}{k k':IntKind}{xs:C_ Int}{t}(l u:Nat)(aj:bm 1 (Flat bX) w (.slice (some ⟨g,0,none⟩) n cap) xs)(af:bp S x = .int k (l:Int))(bE:bp S y = .int k' (u:Int))(aE:l<=u)(hu:u<=xs.length)
  (hk:∀ae c,(0<u - l->ae=some ⟨g,l,none⟩)->bm 1 (Flat bX) w (.slice ae (u - l) c) ((xs.drop l).take (u - l))->bj (.slice ae (u - l) c)):th S 1 (.slice (some ⟨g,0,none⟩) n cap) (some x) (some y) none bj t:=by
 obtain⟨bF,aH,aR⟩:=aj.len;refine _B l u cap (by simp[eJ,af]) (by simp[eJ,bE]) (by simp[eJ]) ⟨aE,Ad,EC _⟩ CC ?_;refine hk _ _ (λad=>?_) (aj.sub l u aE hu);rw[if_neg Ad];simp[add_eq]
def AD8{S:Fr}{w:A_}{bj:B_->Prop}{n cap g:Nat}{x:G_}{k:IntKind}{xs:C_ Int}{t}(l:Nat)(aj:bm 1 (Flat bX) w (.slice (some ⟨g,0,none⟩) n cap) xs)(af:bp S x = .int k (l:Int))(aE:l<=xs.length)
  (hk:∀ae c,(0<n - l->ae=some ⟨g,l,none⟩)->bj (.slice ae (n - l) c)):th S 1 (.slice (some ⟨g,0,none⟩) n cap) (some x) none none bj t:=by
 obtain⟨bF,aH,aR⟩:=aj.len;refine _B l n cap (by simp[eJ,af]) (by simp[eJ]) (by simp[eJ]) ⟨Ad,Ad,EC _⟩ CC ?_;refine hk _ _ (λad=>?_);rw[if_neg Ad];simp[add_eq]
def _b{P:D_}{S:Fr}{w:A_}{e cF:F_}{base g n c p k EX m cs:Nat}{l xs:C_ Int}{x y:G_}{ae os:H_ Addr}{cL:B_->A_->Prop}{ty:F_}{t}(aQ:aJ bX e 1 base w (.slice (some ⟨g,0,none⟩) n c) l)(RW:bm 1 (Flat bX) w (.slice os m cs) xs)
  (af:bp S x = .slice ae k EX)(bE:bp S y = .slice os m cs)(bb:0<k->ae=some ⟨g,p,none⟩)(ar:p+k<=l.length)(hu:P.underlying cF=some (.slice e))(bA:(P.info? e).map (·.size)=some 1)
  (hk:∀u w1,du g w w1->aJ bX e 1 base w1 (.slice (some ⟨g,0,none⟩) n c) (o.jb l p (xs.take k))->cL u w1):uH P (.call ⟨.builtin .copy,#[x,y],#[cF,cF]⟩) ty S w cL t:=by
 obtain⟨inf,U,fl⟩:=Option.map_eq_some_iff.1 bA;obtain⟨bF,aH,aR⟩:=RW.len;subst bF;have abe:(xs.take k).length=min k xs.length:=Hs;have ami:∀a,os=some a->fc w a ((xs.take k).flatMap bX):=λa aY j v az=>by
  have ju:(List.map (Value.int .i64) (xs.take k))[j]? = some v:=by rw[<-az];congr 1;induction xs.take k with | nil=>rfl | cons q r fm=>simp[bX,fm]
  rw[List.getElem?_map] at ju;cases au:(xs.take k)[j]? with
  | none=>rw[au] at ju;cases ju
  | some q =>
   rw[au] at ju;have bn:v = .I q:=by simpa using ju.symm
   subst bn;obtain⟨cu,A0⟩:=List.getElem?_eq_some_iff.1 au;rw[abe] at cu;subst aY;have I:=RW.at j Ad;have ab:w.cell? ((a.add (j*1)).add 0)=some (.I xs[j]):=I 0 _ rfl;rw[add_zero,AG2] at ab;rw[ab]
   have:(xs.take k)[j]=xs[j]:=CC
   rw[this] at A0;rw[A0]
 have mf:((xs.take k).flatMap bX).length=min xs.length k:=by rw[yD (sz:=1) (λ_=>rfl),abe];omega
 have Q7:(Builtin.firstCells 1 (min xs.length k) (.slice os xs.length cs)).run P w = .ok ((xs.take k).flatMap bX).toArray w:=by
  cases os with
  | none =>
   have ad:xs=[]:=by
    cases tW:xs with
    | nil=>rfl
    | cons q r=>obtain⟨a,aY⟩:=RW.addr (by rw[tW];simp);cases aY
   subst ad;simp[Builtin.firstCells]
  | some a =>
   have h1:=run_loadCells_list (P:=P) w a _ (ami a rfl);rw[mf] at h1;simp only[Builtin.firstCells,Nat.mul_one];exact h1
 rcases Nat.eq_zero_or_pos k with ft | ft
 .subst ft;have bC:(xs.take 0).flatMap bX=[]:=rfl;rw[bC,Nat.min_zero] at Q7;refine _F (v:=goInt 0) (w':=w) ?_ (hk _ _ (du.refl _ _) (by rw[show xs.take 0=[] from rfl,o.ab4];exact aQ));cases ae<;>simp[execOp,resolve,invoke,builtin,af,bE,Builtin.copy_,run_underlying hu,Builtin.lenOf,qs U,fl,Q7,storeCells]
 .obtain rfl:=bb ft;have hS:=Hn P ⟨g,p,none⟩ ((xs.take k).flatMap bX) 0 w (λj az=>by
   rw[SO,add_eq];exact(adp (x:=0) aQ (k:=p+j) Ad).2) (λq au=>by
   obtain⟨z,_,sP⟩:=List.mem_flatMap.1 au;rw[List.mem_singleton.1 sP];rfl)
  refine _F (v:=goInt ((Nat.min xs.length k:Nat):Int)) (w':=iA w ⟨g,p,none⟩ ((xs.take k).flatMap bX) 0) ?_ (hk _ _ (du.iA _ w ⟨g,p,none⟩ 0) (adq _ 0 w l aQ Ad));simp[execOp,resolve,invoke,builtin,af,bE,Builtin.copy_,run_underlying hu,Builtin.lenOf,qs U,fl,Q7,hS]
def AD9{α:Type}{S:Fr}{w:A_}{bj:B_->Prop}{sz n cap:Nat}{R:A_->Addr->α->Prop}{aN:H_ Addr}{x y z:G_}{k k' k'':IntKind}{xs:C_ α}{t}(l u:Nat)(aj:bm sz R w (.slice aN n cap) xs)(af:bp S x = .int k (l:Int))(bE:bp S y = .int k' (u:Int))(bA:bp S z = .int k'' (u:Int))(aE:l<=u)(hu:u<=xs.length)
  (hk:∀ae,bm sz R w (.slice ae (u - l) (u - l)) ((xs.drop l).take (u - l))->bj (.slice ae (u - l) (u - l))):th S sz (.slice aN n cap) (some x) (some y) (some z) bj t:=by
 obtain⟨bF,aH,aR⟩:=aj.len;refine _B l u u (by simp[eJ,af]) (by simp[eJ,bE]) (by simp[eJ,bA]) ⟨aE,EC _,Ad⟩ CC ?_;refine hk _ ?_;have hlen:((xs.drop l).take (u - l)).length=u - l:=by rw[Hs,AF4];omega
 by_cases KI:u=l
 .subst KI;have ad:(xs.drop u).take (u - u)=[]:=by rw[Nat.sub_self];rfl
  rw[ad];rw[if_pos rfl,Nat.sub_self];exact⟨aN,0,rfl,EC _,AF6 _,λh=>absurd rfl h,λa _ i U=>absurd U (HI _)⟩
 .have h:=aj.sub l u aE hu;rw[if_neg Ad] at h;rw[if_neg KI];obtain⟨o',iQ,e,h1,I,ab,aC⟩:=h;injection e with f1 f2 f3
  subst f1;exact⟨_,_,by rw[hlen],by rw[hlen];exact EC _,Ad,ab,aC⟩
end a8
namespace o
theorem aov{l:C_ Int}(ad:0<l.length)(h1:0<=l[0])(I:l[0]<=(l.length:Int) - 1):jw l = !((l.drop (1+l[0].toNat)).any λn=>decide (n≠0)):=by
 cases l with
 | nil=>simp at ad
 | cons n r =>
  simp only[List.getElem_cons_zero,List.length_cons] at h1 I ⊢;rw[Nat.add_comm,List.drop_succ_cons];unfold jw;show(decide (0<=n/\n<=(r.length:Int))&&(r.drop n.toNat).all λx=>decide (x=0))=_;rw[decide_eq_true Ad,AJ2,List.not_any_eq_all_not];congr 1;funext x;by_cases h:x=0<;>simp[h]
theorem ab8{l:C_ Int}(h:∀ad:0<l.length,¬(0<=l[0]/\l[0]<=(l.length:Int) - 1)):jw l=false:=by
 cases au:jw l with
 | false=>rfl
 | true =>
  obtain⟨ad,h1,I,_⟩:=ze.1 au;exact absurd ⟨h1,I⟩ (h ad)
theorem aqS(n:Nat)(l:C_ Int)(h:1<=n):jb ((List.replicate n 0).set 0 (l.length:Int)) 1 (l.take (n - 1))=r3 n l:=by
 have hlen:1+(l.take (n - 1)).length<=((List.replicate n (0:Int)).set 0 (l.length:Int)).length:=by
  rw[XK,AF3,Hs];omega
 apply List.ext_getElem?;intro i;rw[A8 hlen];have rV:(l.take (n - 1)).length=min (n - 1) l.length:=Hs;cases i with
 | zero =>
  rw[if_neg Ad,List.getElem?_set_self (by rw[AF3];omega)];simp[r3]
 | succ i =>
  by_cases U:i+1<n
  .rw[adt U];by_cases kp:i<l.length
   .rw[if_pos Ad,show i+1 - 1=i from rfl,List.getElem?_take_of_lt Ad,List.getElem?_eq_getElem kp];simp[kp]
   .rw[if_neg Ad,List.getElem?_set_ne Ad,List.getElem?_replicate,if_pos U];simp[List.getD,List.getElem?_eq_none (show l.length<=i by omega)]
  .rw[if_neg Ad,List.getElem?_eq_none (by rw[XK,AF3];omega),List.getElem?_eq_none (by rw[Tf h];omega)]
end o
namespace Go.Proofs.R
open Go Go.RowKit a8
def apX(n aV U:Int)(w:A_):Du F.JP #[.I n,.I aV,.I U] w λv w'=>(∃t:Bool,v = .bool t/\(t=true↔aV<=n/\n<=U))/\Ext w w':=by
 refine bl E.JP ?_;refine J ?_;refine I_ (λg=>?_) (λg=>?_)
 .refine J ?_;exact⟨⟨_,rfl,by rw[decide_eq_true_eq];exact⟨λh=>⟨g,h⟩,λh=>h.2⟩⟩,Ext.refl _⟩
 .refine J ?_;exact⟨⟨false,rfl,by simp only[Bool.false_eq_true,false_iff];exact λh=>g h.1⟩,Ext.refl _⟩
def ahT(n:Int)(w:A_):Du F.am #[.I n] w λv w'=>v = .bool (decide (n≠0))/\Ext w w':=by
 refine bl E.am ?_;refine J ?_;refine⟨?_,Ext.refl _⟩
 first | trivial | (congr 1;simp)
def aib(v:B_)(l:C_ Int)(w:A_)(h:c9 w v l) :
  Du F.j #[v,.func (.func F.am) #[] #[]] w λbU w'=>bU = .I (mb (λn=>decide (n≠0)) l 0)/\Ext w w':=by
 obtain⟨bO,c1,rfl,bx⟩:=h.form;refine vW E.j ?_;refine oI ?_;refine J ?_;refine L_ 8 l.length [0,1,7] (λ_:Unit=>[]) () (λk _ w'=>Ext w w'/\mb (λn:Int=>decide (n≠0)) l 0=mb (λn:Int=>decide (n≠0)) (l.drop k) k) a6 a6 ⟨Ext.refl _,CC⟩ ?_;rintro k _ S aA hk ⟨ai,aP⟩;have I:=h.ext Flat.ext ai;refine J ?_;apply I_<;>intro g1
 .have a7:k<l.length:=Ad
  obtain⟨a,rfl⟩:=h.addr;rw[PR a7] at aP;refine J ?_;refine V_ (first:=[]) (cap:=[]) Ci (ahT l[k] aA) ?_;rintro _ aM ⟨rfl,ah⟩;by_cases aj:l[k]≠0
  .rw[if_pos (by simpa using aj)] at aP;rw[decide_eq_true aj];refine J ?_;exact⟨by rw[aP],ai.trans ah⟩
  .rw[if_neg (by simpa using aj)] at aP;rw[decide_eq_false aj];refine J ?_;exact⟨a7,aK,(),trivial,ai.trans ah,aP⟩
 .refine J ?_;exact⟨by rw[aP,AE9 Ad];rfl,ai⟩
def ahx(v:B_)(l:C_ Int)(w:A_)(h:c9 w v l) :
  Du F.h #[v,.func (.func F.am) #[] #[]] w λbU w'=>bU = .bool (l.any λn=>decide (n≠0))/\Ext w w':=by
 refine vW E.h ?_;refine oI ?_;refine J ?_;refine J_ (aib v l w h) ?_;rintro _ aA ⟨rfl,ai⟩;refine J ?_;refine⟨?_,ai⟩;congr 1;exact Bool.eq_iff_iff.2 (by rw[decide_eq_true_eq];exact Jr)
theorem Yd(v:B_)(l:C_ Int)(w:A_)(h:c9 w v l)(aE:l.length<=100000):Du F.gt #[v] w λu w'=>u = .bool (o.jw l)/\Ext w w':=by
 obtain⟨ei,eW,rfl,e6⟩:=h.form;refine bl E.gt ?_;refine J ?_;apply I_<;>intro g1
 .refine J ?_;exact⟨by rw[o.ab8 λad=>by omega],Ext.refl _⟩
 have ad:0<l.length:=Ad
 obtain⟨a,rfl⟩:=h.addr ad;refine J ?_
 try (refine K_ 0 rfl Ad ?_;refine J ?_)
 refine J_ (apX _ _ _ w) ?_;rintro _ w1 ⟨⟨t,rfl,aB⟩,ag⟩;cases t with
 | false =>
  refine J ?_;exact⟨by rw[o.ab8 λ_ h=>by have:=aB.2 h;cases this],ag⟩
 | true =>
 have au:=aB.1 rfl;have fl:=h.ext Flat.ext ag;refine J ?_
 try (refine K_ 0 rfl Ad ?_;refine J ?_)
 refine _0 (k:=.i64) (1+l[0].toNat) fl (by simp[dc,bD];omega) Ad λae c ar=>?_;refine J ?_;refine J_ (ahx _ (l.drop (1+l[0].toNat)) w1 (by have:=ar.len.1;exact ar)) ?_;rintro _ aA ⟨rfl,ai⟩;refine J ?_;exact⟨by rw[o.aov ad au.1 au.2],ag.trans ai⟩
def Ye(v:B_)(l:C_ Int)(w:A_)(h:c9 w v l)(aE:l.length<=100000) :
  Du F.JO #[v] w λu w'=>iE w.heap.size w' u (o.jx l)/\Ext w w':=by
 obtain⟨ei,eW,rfl,e6⟩:=h.form;refine bl E.JO ?_;refine J ?_;refine J_ (Yd _ l w h aE) ?_;rintro _ w1 ⟨rfl,ag⟩;by_cases au:o.jw l=true;rotate_left
 .have AZ:o.jw l=false:=by simpa using au
  rw[AZ];refine J ?_;exact⟨by rw[o.aca au];exact aJ.nil _ _ _ _ _,ag⟩
 rw[au];obtain⟨ad,h1,I,ab⟩:=o.ze.1 au;obtain⟨a,rfl⟩:=h.addr ad;have fl:=h.ext Flat.ext ag;refine J ?_
 try (refine K_ 0 rfl Ad ?_;refine J ?_)
 refine _x l[0].toNat Ad Ad ?_;intro aA bQ c7 ai ao;have ed:iE w.heap.size aA (.slice (some ⟨bQ,0,none⟩) l[0].toNat l[0].toNat) (List.replicate l[0].toNat 0):=aJ.ss _ ao (by have:=ag.size;omega) (GK _) (λ_=>rfl) CC (by rw[AF3];unfold maxLen;omega);refine J ?_;intro aM ah;have gN:=fl.ext Flat.ext (ai.trans ah);have eT:=ed.ext ah;refine J ?_
 try (refine K_ 0 rfl Ad ?_;refine J ?_)
 try (refine K_ 0 rfl Ad ?_;refine J ?_)
 refine AD9 (k:=.i64) (k':=.i64) (k'':=.i64) 1 (1+l[0].toNat) gN (by simp[oO]) (by simp[dc,bD];omega) (by simp[dc,bD];omega) Ad Ad λae ar=>?_;rw[show 1+l[0].toNat - 1=l[0].toNat from Ad] at ar ⊢;refine J ?_;refine _b (p:=0) eT ar (by simp only[dc,bD];rfl) (by simp only[dc,bD];rfl) (λ_=>rfl) (by rw[AF3];omega) Ci Ci λu aU dQ dD=>?_;have aR:=(ag.trans ai).trans ah;refine J ?_;refine⟨?_,dQ.ext aR (by have:=ag.size;omega)⟩;have kp:=o.aoy au ad;rw[<-o.SC au ad,MC Ad] at dD
 have:o.jb (List.replicate l[0].toNat 0) 0 (o.jx l)=o.jx l:=by
  unfold o.jb;rw[AH6,AF9,AE9 (by rw[AF3];omega),SN]
 rw[this] at dD;exact dD
def Yc(n:Nat)(v:B_)(l:C_ Int)(w:A_)(h:c9 w v l)(aw:1<=n/\n<=100000) :
  Du F.JN #[.I n,v] w λu w'=>iE w.heap.size w' u (o.r3 n l)/\Ext w w':=by
 obtain⟨ei,eW,rfl,e6⟩:=h.form;refine bl E.JN ?_;refine J ?_;refine _x n Ad Ad ?_;intro aA bQ c7 ai ao;have ed:iE w.heap.size aA (.slice (some ⟨bQ,0,none⟩) n n) (List.replicate n 0):=aJ.ss _ ao Ad (GK _) (λ_=>rfl) CC (by rw[AF3];unfold maxLen;omega);have et:=h.ext Flat.ext ai;clear ao;refine J ?_
 try (refine K_ 0 rfl Ad ?_;refine J ?_)
 refine _z (k:=0) ed (by rw[AF3];omega) λaM fE eT=>?_;have aR:Ext w aM:=fE.ext ai c7;have gN:=h.ext Flat.ext aR;refine J ?_;refine AD8 (k:=.i64) 1 (kR eT) (by simp[oO]) (by rw[XK,AF3];omega) λae c ar=>?_;refine J ?_;refine _b (p:=1) eT gN (by simp only[dc,bD];rfl) (by simp only[dc,bD];rfl) ar (by rw[XK,AF3];omega) Ci Ci λu aU dQ dD=>?_;rw[o.aqS n l aw.1] at dD;refine J ?_;exact⟨dD,dQ.ext aR c7⟩
def ahV(v:B_)(l:C_ Int)(w:A_)(h:c9 w v l)(aE:l.length<=100000) :
  Du F.JQ #[v] w λu w'=>((o.qv l=none/\u = .tuple #[.slice none 0 0,.I 0,.bool false])\/(∃r x ae c,o.qv l=some (r,x)/\u = .tuple #[.slice ae r.length c,.I x,.bool true]/\iE w.heap.size w' (.slice ae r.length c) r))/\Ext w w':=by
 obtain⟨ei,eW,rfl,e6⟩:=h.form;refine bl E.JQ ?_;refine J ?_;refine J_ (Ye _ l w h aE) ?_;rintro u w1 ⟨kL,ag⟩;have fj:=kR kL;obtain⟨b8,ci,rfl,_⟩:=fj.form;refine J ?_;apply I_<;>intro g1
 .have U:o.jx l=[]:=AF7 Ad;refine J ?_;exact⟨.inl ⟨by unfold o.qv;rw[U],aK⟩,ag⟩
 have kp:=o.KT l;obtain⟨x,r,U⟩:∃x r,o.jx l=x :: r:=by
  cases an:o.jx l with
  | nil=>rw[an] at g1;simp at g1
  | cons x r=>exact⟨x,r,rfl⟩
 obtain⟨gp,rfl⟩:=fj.addr;refine J ?_;intro aA ai;have CU:=fj.ext Flat.ext ai;have et:=h.ext Flat.ext (ag.trans ai);refine J ?_;refine _0 (k:=.i64) 1 CU rfl Ad λae c ar=>?_;have F0:(o.jx l).drop 1=r:=by rw[U];rfl
 have za:(o.jx l)[0]' Ad=x:=by simp[U]
 rw[F0] at ar;refine J ?_
 try (refine K_ 0 rfl Ad ?_;refine J ?_)
 refine J_ (Yc l.length _ r aA (by have:=ar.len.1;exact ar) Ad) ?_;rintro u aM ⟨eT,ah⟩;obtain⟨Tb,Pr,rfl,_⟩:=(kR eT).form;refine⟨ah,?_⟩;refine J ?_;exact⟨.inr ⟨o.r3 l.length r,x,Tb,Pr,by unfold o.qv;rw[U],by rw[za],aJ.low (ag.trans ai).size eT⟩,(ag.trans ai).trans ah⟩
def ahU(v:B_)(l:C_ Int)(x:Int)(w:A_)(h:c9 w v l)(aE:l.length<=100000) :
  Du F.gs #[v,.I x] w λu w'=>((o.nC l x=none/\u = .tuple #[.slice none 0 0,.bool false])\/(∃r ae c,o.nC l x=some r/\u = .tuple #[.slice ae r.length c,.bool true]/\iE w.heap.size w' (.slice ae r.length c) r))/\Ext w w':=by
 obtain⟨ei,eW,rfl,e6⟩:=h.form;refine bl E.gs ?_;refine J ?_;refine J_ (Yd _ l w h aE) ?_;rintro _ w1 ⟨rfl,ag⟩;by_cases au:o.jw l=true;rotate_left
 .have AZ:o.jw l=false:=by simpa using au
  rw[AZ];refine J ?_;exact⟨.inl ⟨by unfold o.nC;rw[if_neg (λe=>au e.1)],aK⟩,ag⟩
 rw[au];obtain⟨ad,h1,I,ab⟩:=o.ze.1 au;obtain⟨a,rfl⟩:=h.addr ad;have fl:=h.ext Flat.ext ag;have bb:l.headD 0=l[0]:=by cases l with | nil=>simp at ad | cons n r=>rfl
 refine J ?_;apply I_<;>intro g1
 .refine J ?_;exact⟨.inl ⟨by unfold o.nC;rw[if_neg (λe=>e.2 (by rw[bb];omega))],aK⟩,ag⟩
 refine J ?_;refine J_ (Ye _ l w1 fl aE) ?_;rintro u aA ⟨ed,ai⟩;obtain⟨b8,ci,rfl,_⟩:=(kR ed).form;have kp:=o.KT l;refine J ?_;intro aM bW eX ah ba;refine J ?_;refine S_ (y:=x) (ed.ext ah) ba rfl (λ_=>rfl) hA Ad (by unfold maxLen;omega) (by have:=ai.size;have:=ah.size;omega) λaN c d aU dD n4=>?_;have bn:Ext w1 aU:=(ai.trans ah).grown n4 λi U=>(ed.lt i U).1;refine J ?_;refine J_ (Yc l.length _ _ aU (kR dD) Ad) ?_;rintro u bh ⟨dM,av⟩;obtain⟨Tb,Pr,rfl,_⟩:=(kR dM).form;refine J ?_;exact⟨.inr ⟨_,Tb,Pr,by unfold o.nC;rw[if_pos ⟨au,by rw[bb];omega⟩],rfl,aJ.low (ag.trans bn).size dM⟩,(ag.trans bn).trans av⟩
def pY(w:A_)(b:Nat)(m:o.Model):Prop := ∃zs,w.heap[b]? = some (.cells zs.toArray T.gI)/\pZ w zs m
theorem pY.ext{w w':A_}{b:Nat}{m:o.Model}(he:Ext w w')(h:pY w b m):pY w' b m:=let ⟨zs,h1,I⟩:=h; ⟨zs,he.obj h1,I.ext he⟩
def aj9(cs:C_ B_)(m:o.Model)(w:A_)(h:o.dj w cs m)(aG:m.cv)(aQ:gJ w) :
  Du F.d2 #[.agg cs.toArray] w λu w'=>((¬(o.check m).cJ=0/\u = .tuple #[.pointer none,.bool false])\/((o.check m).cJ=0/\∃b,u = .tuple #[.pointer (some ⟨b,0,none⟩),.bool true]/\w.heap.size<=b/\pY w' b m))/\Ext w w':=by
 have b4:=h;obtain⟨b0,bz,bO,c1,bT,c2,bV,bu,b1,bB,rfl,_⟩:=h.form;refine bl E.d2 ?_;refine J ?_;intro w1 bx cN ag al;refine J ?_;refine J_ (zh _ m w1 (b4.ext ag) aG (aQ.ext ag)) ?_;rintro _ aA ⟨rfl,ai⟩;replace al:=ai.obj al;have aH:=ag.trans ai;refine J ?_;refine Y_ (v:=.I (o.check m).cJ) rfl ?_;refine J ?_;refine I_ (λhk=>?_) (λhk=>?_);rotate_left
 .refine J ?_;exact⟨.inl ⟨hk,aK⟩,aH⟩
 have AQ:o.lay m=o.layout m:=o.zg hk;refine J ?_;intro aM ah;replace al:=ah.obj al;have aR:=aH.trans ah;refine J ?_;refine J_ (GR _ m aM (b4.ext aR) aG (aQ.ext aR)) ?_;rintro _ aU ⟨⟨ys,rfl,Au⟩,aq⟩;rw[AQ] at Au;have bn:=aR.trans aq;refine⟨aq,?_⟩;refine J ?_;refine J_ (xl _ m aU (b4.ext bn) aG) ?_;rintro bK bh ⟨amL,av⟩;have bC:=bn.trans av;refine⟨aq.trans av,?_⟩;refine J ?_;refine J_ (zt _ m bh (b4.ext bC) (o.hE hk).lim) ?_;rintro vr bq ⟨y5,aD⟩;have b6:=bC.trans aD;refine⟨(aq.trans av).trans aD,?_⟩;have aaQ:=amL.ext aD;have CS:=Au.here.ext (av.trans aD);obtain⟨eH,d0,dK,d1,eg,d2,eD,d3,eU,d4,rfl,_⟩:=CS.form;obtain⟨b8,ci,rfl,_⟩:=(aJ.e3 (enc:=o.cO.enc) (λ_=>rfl) aaQ).form;obtain⟨e9,gY,rfl,_⟩:=(aJ.e3 (enc:=o.Ref.enc) (λ_=>rfl) y5).form;refine J ?_;intro bH h2 gZ bc bZ;have cM:=b6.trans bc;refine J ?_;exact⟨.inr ⟨hk,h2,aK,by have:=b6.size;omega,_,bZ,_,_,_,_,rfl,b4.ext cM,CS.ext bc,(aJ.e3 (enc:=o.cO.enc) (λ_=>rfl) (aaQ.ext bc)),(aJ.e3 (enc:=o.Ref.enc) (λ_=>rfl) (y5.ext bc))⟩,cM⟩
def Zc(b:Nat)(m:o.Model)(ref:Int)(q p k:Nat)(w:A_)(h:pY w b m)(bw:o.fa m ref q p k) :
  Du F.n #[.pointer (some ⟨b,0,none⟩),.I ref] w λu w'=>(∃fA fL aN fs,u = .agg ((o.bN m p k).enc (.slice fA (o.bN m p k).guard.length fL) (.slice aN (o.bN m p k).bP.length fs)).toArray/\o.eS w (.slice fA (o.bN m p k).guard.length fL) (o.bN m p k).guard/\o.mv w (.slice aN (o.bN m p k).bP.length fs) (o.bN m p k).bP)/\Ext w w':=by
 obtain⟨zs,ak,h⟩:=h;obtain⟨eH,d0,dK,d1,eg,d2,eD,d3,eU,d4,b0,bz,bO,c1,bT,c2,bV,bu,b1,bB,b8,ci,e9,gY,rfl,_,_,_,_,_,_,_,_,_,_,ab,aP,bG⟩:=h.form;have au:=bw.at_.U;have ar:=bw.at_.ar;have hp:=bw.at_.hk;have j5:=bw.at_.ip;obtain⟨r,rfl⟩:=Nb bw.aV;have aS:r<(o.refs m).length:=bw.U;have fk:(o.refs m)[r].inst=(q:Int):=bw.at_.mX;have j7:(o.refs m)[r].cmd=(k:Int):=bw.at_.pI;obtain⟨l7,rfl⟩:=bG.addr;obtain⟨gp,rfl⟩:=aP.addr;obtain⟨a3,rfl⟩:=ab.addr;obtain⟨kr,bY,dV,c3,eQ,er⟩:=ab.at p ar;obtain⟨vC,uQ,rfl,vy⟩:=er.form;obtain⟨ac,rfl⟩:=er.addr;obtain⟨eC,fi,va,e2,gi,fb⟩:=er.at k hp;obtain⟨fA,fL,rfl,_⟩:=gi.form;obtain⟨oq,nP,rfl,_⟩:=fb.form;unfold o.dt.enc at c3;unfold o.dI.enc at e2;refine bl E.n ?_;refine J ?_;intro w1 bQ c7 ag ao;replace ak:=ag.obj ak;have Qh:=bG.ext Flat.ext ag;refine J ?_;intro aA c6 fT ai bo;have pt:(o.refs m)[r].enc=[.I q,.I k]:=by unfold o.Ref.enc;rw[fk,j7]
 rw[pt] at bo;have z4:=cq ao;replace ao:=ai.obj ao;replace ak:=ai.obj ak;have aH:=ag.trans ai;have As:=aP.ext Flat.ext aH;have Dk:=c3.ext aH;have FV:=e2.ext aH;clear Qh;refine J ?_;intro aM ah;replace ao:=ah.obj ao;replace bo:=ah.obj bo;replace ak:=ah.obj ak;replace As:=As.ext Flat.ext ah;replace Dk:=Dk.ext ah;replace FV:=FV.ext ah;refine J ?_;refine K_ p (by rw[j5]) ar ?_;refine J ?_;intro aU dQ bI;refine J ?_;have gR:=o.sv ar hp;exact⟨⟨fA,fL,oq,nP,by rw[gR];rfl,by rw[gR];exact gi,by rw[gR];exact fb⟩,dQ.ext (aH.trans ah) Ad⟩
def PN(b:Nat)(m:o.Model)(c:Nat)(w:A_)(h:pY w b m)(aL:o.ey m)(an:c<m.ax.length) :
  Du F.jn #[.pointer (some ⟨b,0,none⟩),.I c] w λu w'=>u = .tuple #[.I (o.b7 m c),.I (o.b7 m c+(1+o.gF m c):Nat)]/\Ext w w':=by
 obtain⟨zs,ak,h⟩:=h;obtain⟨eH,d0,dK,d1,eg,d2,eD,d3,eU,d4,b0,bz,bO,c1,bT,c2,bV,bu,b1,bB,b8,ci,e9,gY,rfl,_,_,dB,cP,cA,eI,fp,ad,h1,I,ab,aP,bG⟩:=h.form;obtain⟨iV,eB⟩:=o.p1 an;have hL:=(aL.chan _ (ED an)).cap;have eC:=o.oL an;have sO:=o.oK an;have j4:o.di m<=64:=o.iG aL;obtain⟨db,rfl⟩:=cP.addr;obtain⟨nM,rfl⟩:=I.addr;have dH:=(I.at c an).cells;refine bl E.jn ?_;refine J ?_;intro w1 ag;refine J ?_;refine⟨?_,ag⟩;rw[eB,show(((o.b7 m c+(1+o.gF m c):Nat)):Int)=(o.b7 m c:Int)+1+m.ax[c].cap from Ad]
end Go.Proofs.R
namespace o
def ao2(m:Model):(layout m).ax.length=m.ax.length:=by simp[layout,Be,dG,ux]
end o
namespace Go.Proofs.R
open Go Go.RowKit a8
theorem zJ.ext{w w':A_}{cs:C_ B_}{l:C_ Int}(he:Ext w w')(h:zJ w cs l):zJ w' cs l:=let ⟨v,h1,I⟩:=h; ⟨v,h1,I.ext Flat.ext he⟩
def ajV(cz dh q p:Nat)(v:B_)(m:o.Model)(s:C_ Int)(w:A_)(bR:w.heap[cz]? = some (.cells #[.pointer (some ⟨dh,0,none⟩),.I q,v] T.pq))(fg:pY w dh m)(ft:(o.check m).cJ=0)(aj:c9 w v s)(ay:o.Fits m s)(hIn:o.fJ m q p) :
  Du F.f7 #[.pointer (some ⟨cz,0,none⟩)] w λu w'=>(∃es,u = .agg es.toArray/\N2 w' es (o.cW m s q))/\Ext w w':=by
 obtain⟨zs,ak,iu⟩:=fg;obtain⟨eH,d0,dK,d1,eg,d2,eD,d3,eU,d4,b0,bz,bO,c1,bT,c2,bV,bu,b1,bB,b8,ci,e9,gY,rfl,_,_,dB,cP,cA,_,_,ad,h1,I,ab,aP,bG⟩:=iu.form;obtain⟨ei,eW,rfl,e6⟩:=aj.form;have aL:=o.hE ft;have hlen:=ay.len;have j4:o.di m<=64:=o.iG aL;have gf:=aL.gf;have awp:(o.layout m).ax.length=m.ax.length:=o.ao2 m;have kp:(o.insts m).length<=30:=by have:=o.vo m;have:=aL.procs;omega
 clear iu bG;refine bl E.f7 ?_;refine J ?_;intro w1 bQ c7 ag ao;refine J ?_;intro aA fz alB ai dT;have ayp:=cq ao;have UH:=cq dT;have z12:=ai.size;have Fv:∀{W},Mod (λi=>i=fz) aA W->Ext w W:=λh=>ag.trans (h.ext ai λi U e=>Ad);have ZC:∀{W},Mod (λi=>i=fz) aA W->W.heap[bQ]? = _:=λh=>(h.ext ai λi U e=>Ad).obj ao;have KQ:∀{W},Ext w W->W.heap[cz]? = _:=λe=>e.obj bR;have Dq:∀{W},Ext w W->W.heap[dh]? = _:=λe=>e.obj ak;have aH:=ag.trans ai;replace bR:=aH.obj bR;replace ak:=aH.obj ak;clear ao;refine J ?_;refine L_ 24 m.vars.length [0,2,3,22,23] (λ_:fy=>[]) (none,0,0) (λk v W=>(Mod (λi=>i=fz) aA W/\W.heap[fz]? = some (.cells #[.slice v.1 v.2.1 v.2.2,.slice none 0 0,.slice none 0 0,.slice none 0 0,.I 0] T.v))/\∃cn:C_ (fC 1),cn.length=k/\pV T.b 1 aA.heap.size W (.slice v.1 v.2.1 v.2.2) cn/\∀i (h1:i<cn.length) (I:i<(o.cW m s q).vars.length),zJ w cn[i].1 (o.cW m s q).vars[i]) a6 a6 ⟨⟨Mod.refl _ _,dT⟩,[],rfl,aJ.nil _ _ _ _ _,λi h=>absurd h (HI _)⟩ ?_;clear dT bR ak;rintro k v S bq hk ⟨⟨iX,dT⟩,cn,nx,dn,Fs⟩;have gV:=Fv iX;have bR:=KQ gV;have ak:=Dq gV;refine J ?_;apply I_<;>intro g1
 .have cb:k<m.vars.length:=Ad
  obtain⟨a,rfl⟩:=h1.addr;have dL:=o.su m.vars[k] m.scalars;have n3:=o.sb cb;have eC:=o.nq m;obtain⟨dP,gk⟩:=o.ri cb;have dH:=((h1.at k cb).cells).ext gV;refine J ?_;intro wn rD wT e8 amd;refine J ?_;intro bH dw h4;have bc:Ext bq bH:=dw.ext e8 wT;replace h4:bH.heap[rD]? = some (.cells m.vars[k].enc.toArray T.l):=h4;replace bR:=bc.obj bR;replace ak:=bc.obj ak;replace dT:=bc.obj dT;have dU:=dn.ext bc;have fZ:=gV.trans bc;have hb:Mod (λi=>i=fz) aA bH:=iX.trans bc.mod;clear dw e8 amd dH dn;obtain⟨a0,rfl⟩:=dB.addr;have MW:=dB.ext Flat.ext fZ;refine J ?_;intro cB bt;replace dT:=bt.obj dT;replace bR:=bt.obj bR;replace ak:=bt.obj ak;replace h4:=bt.obj h4;have gw:=dU.ext bt;have hG:=fZ.trans bt;have iY:Mod (λi=>i=fz) aA cB:=hb.trans bt.mod;have Dp:=aj.ext Flat.ext hG;clear MW dU;refine J ?_;refine J_ (Cl m.vars[k] _ m.scalars cB (ad.ext hG)) ?_;rintro _ cG ⟨rfl,b2⟩;refine⟨b2,?_⟩;refine J ?_;refine _W (k:=.i64) (k':=.i64) (o.fY m k) (o.fY m k+(o.cells m.vars[k] m.scalars).toNat) aj (by simp[dc,bD,gk]) (by simp[dc,bD,gk];omega) Ad Ad λae c ar=>?_;rw[show o.fY m k+(o.cells m.vars[k] m.scalars).toNat - o.fY m k=(o.cells m.vars[k] m.scalars).toNat from Ad] at ar ⊢;have xh:=o.T5 (s:=s) (inst:=q) cb;refine J ?_;intro fB l8 wU ek iU;refine⟨b2.trans ek,?_⟩;have NR:=b2.size;have ayf:=ek.size;have PB:Ext cB fB:=b2.trans ek;have oX:=gw.ext PB;have z58:=iY.size;refine S_ (enc:=lL) (y:=(⟨[.slice ae (o.cells m.vars[k] m.scalars).toNat c],rfl,by simp[Value.oneCell']⟩:fC 1)) oX iU rfl lM Ai Ad (by unfold maxLen;omega) Ad λaN n iQ hx aS vd=>?_;have aai:=oX.box vd (PB.obj dT) By;have rW:=(iY.trans PB.mod).own vd λi U=>(oX.lt i U).1;clear dT oX gw iU h4 bR ak;refine J ?_;intro kx ks gr;refine J ?_;refine⟨cb,aK,(aN,n,iQ),trivial,⟨rW.trans (ks.mod rfl),gr⟩,_,by simp[nx],aS.wr ks UH,λi h1 I=>?_⟩;by_cases U:i<cn.length
  .rw[AI4 U];exact Fs i U I
  .have e:i=cn.length:=by simp at h1;omega
   subst e;rw[AI5 (EC _)];obtain⟨_,an6⟩:=List.getElem?_eq_some_iff.1 xh;subst nx;rw[an6];exact⟨.slice ae _ c,CC,ar⟩
 have mg:m.vars.length=k:=Ad
 subst mg;obtain⟨va,om,fs⟩:=v;have ax9:=cq dT;have z26:=iX.size;have nu:∀{W},Mod (λi=>i<aA.heap.size) bq W->Ext w W->yb W (.slice va om fs) (o.cW m s q).vars:=λ{W} h he =>
  bm.G6 (by rw[nx,o.Ni]) (aJ.jN lM (aJ.mod dn h λi U a=>by have:=(dn.lt i U).1;omega)) λi h1 I=>(Fs i h1 I).ext he
 clear dn Fs nx;have ZU:∀{W},Mod (λi=>i=fz) bq W->Mod (λi=>i=fz) aA W:=λh=>iX.trans h;refine J ?_;clear bR ak;refine L_ 73 m.ax.length [0,2,3,71,72] (λ_:fy=>[]) (none,0,0) (λk v W=>(Mod (λi=>i=fz) bq W/\W.heap[fz]? = some (.cells #[.slice va om fs,.slice v.1 v.2.1 v.2.2,.slice none 0 0,.slice none 0 0,.I 0] T.v))/\aJ bX T.a 1 bq.heap.size W (.slice v.1 v.2.1 v.2.2) (((o.cW m s q).lens).take k)) a6 a6 ⟨⟨Mod.refl _ _,dT⟩,by simpa using aJ.nil _ _ _ _ _⟩ ?_;clear dT;rintro k v S bH hk ⟨⟨hb,dT⟩,dU⟩;have fZ:=Fv (ZU hb);have bR:=KQ fZ;have ak:=Dq fZ;refine J ?_;apply I_<;>intro g1
 .have cb:k<m.ax.length:=Ad
  have n3:=o.wv cb;have eC:=o.nq m;obtain⟨dP,eB⟩:=o.p1 cb;obtain⟨db,rfl⟩:=cP.addr;obtain⟨agO,rfl⟩:=aj.addr;have kq:=aj.ext Flat.ext fZ;have zq:=cP.ext Flat.ext fZ;refine J ?_;intro cB bt;replace dT:=bt.obj dT;replace bR:=bt.obj bR;replace ak:=bt.obj ak;have gw:=dU.ext bt;have iY:Mod (λi=>i=fz) bq cB:=hb.trans bt.mod;have Dp:=kq.ext Flat.ext bt;clear kq dU zq;refine J ?_;refine K_ (o.b7 m k) (by rw[eB]) Ad ?_;refine J ?_;intro cG b9 lN b2 cE;refine⟨b2,?_⟩;have gu:o.b7 m k<s.length:=Ad
  have xh:=o.ae1 (inst:=q) cb gu;have amW:(((o.cW m s q).lens).take k).length<=12:=by rw[Hs,o.Nh];omega
  have fu:=gw.ext b2;have UF:=iY.size;have NR:=b2.size;refine S_ (y:=s[o.b7 m k]) fu cE rfl (λ_=>rfl) hA Ad (by unfold maxLen;omega) Ad λaN n c ew oc mO=>?_;have al4:=fu.box mO (b2.obj dT) By;have pB:=(iY.trans b2.mod).own mO λi U=>(fu.lt i U).1;clear dT fu gw cE bR ak;refine J ?_;intro fB hT iU;refine J ?_;refine⟨cb,aK,(aN,n,c),trivial,⟨pB.trans (hT.mod rfl),iU⟩,?_⟩;rw[AJ3,xh];exact oc.mod (hT.mod (A:=λi=>i=fz) rfl) λi U e=>by have:=(oc.lt i U).1;omega
 have rU:m.ax.length=k:=Ad
 rw[MC (by rw[o.Nh];omega)] at dU;have FA:eL bq (λw=>c9 w (.slice v.1 v.2.1 v.2.2) (o.cW m s q).lens) bH:=aJ.new (λ_=>rfl) dU;obtain⟨iJ,mn,uP⟩:=v;have ayb:=cq dT;have z67:=hb.size;have ak2:∀{W},Mod (λi=>i=fz) bH W->Mod (λi=>i=fz) aA W:=λh=>ZU (hb.trans h);clear dU;refine J ?_;clear bR ak;refine L_ 99 m.procs.length [0,2,3,97,98] (λ_:fy=>[]) (none,0,0) (λk v W=>(Mod (λi=>i=fz) bH W/\W.heap[fz]? = some (.cells #[.slice va om fs,.slice iJ mn uP,.slice none 0 0,.slice v.1 v.2.1 v.2.2,.I 0] T.v))/\∃bs:C_ Nat,bs.length=k/\ox m bH.heap.size bs (λp=>o.kE m s p (m.procs[p]?.map (·.cm) |>.getD 0) 0) (.slice v.1 v.2.1 v.2.2) W) a6 a6 ⟨⟨Mod.refl _ _,dT⟩,[],rfl,⟨aJ.nil _ _ _ _ _,(λb h=>nomatch h),List.nodup_nil,(λp h=>nomatch h)⟩⟩ ?_;clear dT;rintro k v S cB hk ⟨⟨iY,dT⟩,bs,FM,wP⟩;have hG:=Fv (ak2 iY);have bR:=KQ hG;have ak:=Dq hG;refine J ?_;apply I_<;>intro g1
 .have cb:k<m.procs.length:=Ad
  obtain⟨a,rfl⟩:=ab.addr;obtain⟨kr,bY,dV,c3,eQ,er⟩:=ab.at k cb;obtain⟨DH,Cr,rfl,acU⟩:=eQ.form;obtain⟨adl,Ya,rfl,acG⟩:=er.form;have c8:=(aL.proc _ (ED cb)).cm;replace c3:=c3.ext hG;refine J ?_;intro cG uO FJ b2 p7;replace dT:=b2.obj dT;have yE:=wP.ext b2;have mh:Mod (λi=>i=fz) bH cG:=iY.trans b2.mod;clear c3 wP bR ak;refine J ?_;intro ew cj;replace dT:=cj.obj dT;replace p7:=cj.obj p7;have CM:=yE.ext cj;have pB:Mod (λi=>i=fz) bH ew:=mh.trans cj.mod;refine J ?_;refine _x m.procs[k].cm.toNat Ad Ad ?_;intro fB l8 wU ek iU;refine⟨ek,?_⟩;refine J ?_;intro hx Ce tF dW h5;refine⟨ek.trans dW,?_⟩;have ps:=ek.trans dW;have Fq:=CM.ext ps;have amJ:=o.yT (m:=m) (bs:=bs) Ad;have avC:=aL.procs;have ayc:=pB.size;have ax6:=ps.size;refine S_ (y:=(l8,m.procs[k].cm.toNat)) Fq.row h5 rfl (λ_=>rfl) aiZ Ad (by unfold maxLen;omega) Ad λaN n c kx AW Q8=>?_;have av3:=Fq.row.box Q8 (ps.obj dT) By;have tQ:=(pB.trans ps.mod).own Q8 λi U=>(Fq.row.lt i U).1;have akL:ox m bH.heap.size (bs++[l8]) _ (.slice aN n c) kx:=Fq.snoc Ad (by subst FM;exact AW) Q8 Ad (λp ar e=>by have:=cq (CM.cy p ar);omega) (by
   subst FM;rw[o.XP];simp only[List.getElem?_eq_getElem cb,Option.map_some,Option.getD_some];exact dW.obj iU)
  clear dT Fq CM yE h5;refine J ?_;intro s6 y9 p7;refine J ?_;exact⟨cb,aK,(aN,n,c),trivial,⟨tQ.trans (y9.mod rfl),p7⟩,bs++[l8],by simp[FM],akL.mod (y9.mod (A:=λi=>i=fz) rfl) λi e=>Ad⟩
 have vf:m.procs.length=k:=Ad
 subst vf;obtain⟨NC,S2,EX⟩:=v;have ayd:=cq dT;have z78:=iY.size;have wQ:∀{W},Mod (λi=>i∈bs) cB W->Ext w W:=λh=>h.ext hG λi U e=>by have:=wP.low i e;have:=ag.size;omega
 have akQ:¬fz∈bs:=λh=>by have:=wP.low _ h;omega
 have aa1:∀{W},Mod (λi=>i∈bs) cB W->W.heap[fz]? = _:=λh=>h.obj akQ dT;refine J ?_;refine L_ 120 (o.insts m).length [0,2,3,118,119] (λ_:Unit=>[]) () (λk _ W=>Mod (λi=>i∈bs) cB W/\ox m bH.heap.size bs (λp=>o.kE m s p (m.procs[p]?.map (·.cm) |>.getD 0) k) (.slice NC S2 EX) W) a6 a6 ⟨Mod.refl _ _,wP⟩ ?_;clear wP dT bR ak;rintro k _ S cG hk ⟨mh,yE⟩;have fw:=wQ mh;have bR:=KQ fw;have ak:=Dq fw;have dT:=aa1 mh;refine J ?_;apply I_<;>intro g1
 .have cb:k<(o.insts m).length:=Ad
  have JX:=aP.ext Flat.ext fw;obtain⟨gp,rfl⟩:=aP.addr;have qe:=o.q5 _ (ED cb);obtain⟨eK,au,A0,qQ⟩:=o.A6 qe;have C9:(o.insts m)[k]?.map (·.proc)=some (eK:Int):=by rw[List.getElem?_eq_getElem cb,AG3,A0]
  obtain⟨d,Gu,amq⟩:=ay.loc cb au qQ;obtain⟨jL,Gv⟩:=List.getElem?_eq_some_iff.1 Gu;obtain⟨dP,gk⟩:=o.oe cb;obtain⟨nO,rfl⟩:=aj.addr;obtain⟨a2,rfl⟩:=cA.addr;have c8:=(aL.proc _ (ED au)).cm;refine J ?_;intro wn OT Z6 e8 ame;refine J ?_;intro ew pF oS;have cj:Ext cG ew:=pF.ext e8 Z6;replace oS:ew.heap[OT]? = some (.cells #[.I eK,.I (o.insts m)[k].elem] T.d):=by rw[<-A0];exact oS
  replace dT:=cj.obj dT;replace bR:=cj.obj bR;replace ak:=cj.obj ak;have CM:=yE.ext cj;have pB:Mod (λi=>i∈bs) cB ew:=mh.trans cj.mod;clear pF e8 ame JX yE;refine J ?_;intro fB ek;replace dT:=ek.obj dT;replace ak:=ek.obj ak;replace bR:=ek.obj bR;replace oS:=ek.obj oS;have P6:=CM.ext ek;have Dh:Mod (λi=>i∈bs) cB fB:=pB.trans ek.mod;have abz:=aj.ext Flat.ext ((fw.trans cj).trans ek);have axJ:=cA.ext Flat.ext ((fw.trans cj).trans ek);clear CM;have amJ:=o.yT (m:=m) (bs:=bs) Ad;have kM:=aJ.jN (enc:=o.Aj) (sz:=1) (λ_=>rfl) P6.row;obtain⟨nL,rfl⟩:∃a,NC=some a:=kM.addr;have kK:=kM.len.1;obtain⟨awd,aaP⟩:=List.getElem?_eq_some_iff.1 (o.F4 (m:=m) (bs:=bs) (k:=eK) Ad au);have hP:d<m.procs[eK].cm.toNat:=Ad
  have ZK:(o.qV m bs)[eK].1=bs[eK]:=by rw[aaP]
  have Qb:(o.qV m bs)[eK].2=m.procs[eK].cm.toNat:=by rw[aaP]
  have hblk:=P6.cy eK Ad;simp only[List.getElem?_eq_getElem au,Option.map_some,Option.getD_some] at hblk;rw[<-ZK] at hblk;have hR:=o.wk m s eK m.procs[eK].cm k;have RP:=o.EG (m:=m) (s:=s) (p:=eK) (k:=k) hP;have dL:=o.OR m s eK d k;have awx:c9 fB (.slice (some ⟨(o.qV m bs)[eK].1,0,none⟩) (o.qV m bs)[eK].2 (o.qV m bs)[eK].2) (o.kE m s eK m.procs[eK].cm k):=S6 hblk (by rw[Qb,hR]) (by rw[hR];unfold maxLen;omega);have F0:d<(o.kE m s eK m.procs[eK].cm k).length:=Ad
  obtain⟨_,RQ⟩:=List.getElem?_eq_some_iff.1 RP;refine J ?_;refine K_ (o.cU m k) (by rw[gk]) (by rw[hlen];omega) ?_;refine J ?_;refine K_ d Gv (by rw[Qb];exact hP) ?_;refine J ?_;refine K_ d Gv (by rw[Qb];exact hP) ?_;refine J ?_;refine _G hblk (by rw[List.size_toArray,ab5];omega) rfl λhx lS h5=>?_;rw[ab6 (AG2 _),RQ,<-o.XO C9 Gu hP] at h5;rw[ZK] at lS h5;refine J ?_;refine⟨cb,aK,(),trivial,Dh.trans (lS.mod (ED _)),P6.step (q:=eK) Ad lS (by simp only[List.getElem?_eq_getElem au,Option.map_some,Option.getD_some];exact h5) λp ar KB=>?_⟩;have abm:p<m.procs.length:=Ad
  simp only[List.getElem?_eq_getElem abm,Option.map_some,Option.getD_some];exact o.XN (by rw[C9];intro e;have:=Option.some.inj e;omega)
 have lP:(o.insts m).length=k:=Ad
 subst lP;have abc:Mod (λi=>i=fz) bH cG:=iY.comp mh (λi _ e=>e) λi U e=>by have:=yE.low i e;omega
 have Rr:Mod (λi=>i=fz) bq cG:=hb.trans abc;have am6:Mod (λi=>i=fz) aA cG:=iX.trans Rr;have sF:=ZC am6;have ak5:eL bq (λw=>c9 w (.slice iJ mn uP) (o.cW m s q).lens) cG:=FA.move abc (λi _ e=>Ad) λi _ e=>e;have dd:∀{W},Mod (λi=>i<bq.heap.size) cG W->yb W (.slice NC S2 EX) (o.cW m s q).at_:=λ{W} fg=>(yE.mod fg λi e=>Ad).apY FM (o.T4 m s q) (λp ar=>by
   simp only[List.getElem?_eq_getElem ar,Option.map_some,Option.getD_some];exact⟨o.wk _ _ _ _ _,by have:=(aL.proc _ (ED ar)).cm;omega⟩) λp ar=>by
   simp only[List.getElem?_eq_getElem ar,Option.map_some,Option.getD_some];exact o.ae0 ar
 have z9:=Rr.size;clear FA yE ZC aa1;have au:=hIn.au;have n3:=o.Su au;obtain⟨dP,gk⟩:=o.oe au;obtain⟨a2,rfl⟩:=cA.addr;have Tw:=cA.ext Flat.ext fw;obtain⟨gp,rfl⟩:=aP.addr;have JX:=aP.ext Flat.ext fw;have qe:=o.q5 _ (ED au);obtain⟨gA,ar,hd,qQ⟩:=o.A6 qe;have J5:(o.ml m (o.insts m)[q]).length=1+m.procs[gA].vars.length:=by rw[qQ,o.Bn]
 obtain⟨a,rfl⟩:=ab.addr;obtain⟨kr,bY,dV,c3,eQ,er⟩:=ab.at gA ar;obtain⟨DH,Cr,rfl,acU⟩:=eQ.form;obtain⟨adl,Ya,rfl,acG⟩:=er.form;refine J ?_;intro ew cj;replace dT:=cj.obj dT;replace ak:=cj.obj ak;replace bR:=cj.obj bR;replace sF:=cj.obj sF;have Tv:=Tw.ext Flat.ext cj;have akT:=JX.ext Flat.ext cj;clear Tw JX;refine J ?_;intro fB XQ alz ek iU;refine⟨ek,?_⟩;refine J ?_;intro hx lS h5;have dW:Ext ew hx:=lS.ext ek alz;replace h5:hx.heap[XQ]? = some (.cells #[.I gA,.I (o.insts m)[q].elem] T.d):=by rw[<-hd];exact h5
 replace dT:=dW.obj dT;replace bR:=dW.obj bR;replace ak:=dW.obj ak;replace sF:=dW.obj sF;have rW:Mod (λi=>i=fz) cG hx:=cj.mod.trans dW.mod;have ayg:=rW.size;have my:Ext w hx:=fw.trans (cj.trans dW);have arC:=cA.ext Flat.ext my;clear iU lS akT Tv;refine J ?_;intro kx gv;replace dT:=gv.obj dT;replace bR:=gv.obj bR;replace ak:=gv.obj ak;replace sF:=gv.obj sF;replace h5:=gv.obj h5;have tQ:Mod (λi=>i=fz) cG kx:=rW.trans gv.mod;have oy:Ext w kx:=my.trans gv;have awy:=aj.ext Flat.ext oy;clear arC;replace c3:=c3.ext oy;unfold o.dt.enc at c3;refine J ?_;intro s6 n0;replace dT:=n0.obj dT;replace bR:=n0.obj bR;replace ak:=n0.obj ak;replace sF:=n0.obj sF;replace h5:=n0.obj h5;have Ku:Mod (λi=>i=fz) cG s6:=tQ.trans n0.mod;have zF:Ext w s6:=oy.trans n0;have awz:=aj.ext Flat.ext zF;replace c3:=c3.ext n0;refine J ?_;refine _W (k:=.i64) (k':=.i64) (o.cU m q+1) (o.cU m q+1+m.procs[gA].vars.length) aj (by simp[dc,bD,gk]) (by simp[dc,bD,gk]) Ad Ad λae c Gp=>?_;rw[show o.cU m q+1+m.procs[gA].vars.length - (o.cU m q+1)=m.procs[gA].vars.length from Ad] at Gp ⊢;refine J ?_;intro Us KK AA;have n17:XQ≠fz:=by have:=cj.size;omega
 replace h5:=KK.obj h5 n17;replace sF:=KK.obj sF Ad;have am5:Mod (λi=>i=fz) cG Us:=Ku.trans (KK.mod rfl);have afS:Ext w Us:=KK.ext zF Ad;refine J ?_;intro aft Sd oS;have aa8:Mod (λi=>i=fz) cG aft:=am5.trans (Sd.mod rfl);have afT:Ext w aft:=Sd.ext afS Ad;replace sF:=Sd.obj sF Ad;refine J ?_;intro Ut Se QB;have NZ:Ext w Ut:=Se.ext afT Ad;have abd:Mod (λi=>i<bq.heap.size) cG Ut:=(aa8.BI λi e=>Ad).trans (Se.mod Ad);have am7:Mod (λi=>i<aA.heap.size) bq cG:=Rr.BI λi e=>Ad
 have am8:Mod (λi=>i<aA.heap.size) cG Ut:=(aa8.BI λi e=>Ad).trans (Se.mod Ad);refine J ?_;obtain⟨ej,bF⟩:=o.Hw s au (n:=m.procs[gA].vars.length) Ad;refine⟨⟨_,rfl,_,_,_,_,by rw[bF];rfl,nu (am7.trans am8) NZ,ak5 _ abd,?_,dd abd⟩,NZ⟩;rw[ej];exact Gp.ext Flat.ext NZ
structure lF(w0 w:World)(cz dh g c q base:Nat)(m:o.Model)(s:List Int):Prop where
 hF:Ext w0 w
 low:w0.heap.size<=base
 D9:pY w0 dh m
 box:w.heap[cz]? = some (.cells #[.pointer (some ⟨dh,0,none⟩),.int .i64 q,.slice (some ⟨g,0,none⟩) s.length c] T.pq)
 own:iE base w (.slice (some ⟨g,0,none⟩) s.length c) s
theorem lF.ext{w0 w w':A_}{cz dh g c q base:Nat}{m:o.Model}{s:C_ Int}(he:Ext w w')(h:lF w0 w cz dh g c q base m s):lF w0 w' cz dh g c q base m s :=
 ⟨h.hF.trans he,h.low,h.D9,he.obj h.box,h.own.ext he⟩
def lF.EK{w0 w:A_}{cz dh g c q base:Nat}{m:o.Model}{s:C_ Int}(h:lF w0 w cz dh g c q base m s):base<=g/\g<w.heap.size:=aJ.lt h.own g rfl
def lF.ne{w0 w:A_}{cz dh g c q base:Nat}{m:o.Model}{s:C_ Int}(h:lF w0 w cz dh g c q base m s):cz≠g:=λe=>by
 obtain⟨cur,h1⟩:=aJ.cy h.own g rfl;have I:=h.box;rw[e,h1] at I;injection I with I
 injection I with _ I
 revert I;decide
def lF.mod{w0 w w':A_}{cz dh g c q base:Nat}{m:o.Model}{s t:C_ Int}(h:lF w0 w cz dh g c q base m s)(hm:Mod (λi=>i=g) w w')(aQ:iE base w' (.slice (some ⟨g,0,none⟩) s.length c) t)(aE:t.length=s.length):lF w0 w' cz dh g c q base m t :=
 ⟨hm.ext h.hF λi U e=>by have:=h.low;have:=h.EK;omega,h.low,h.D9,by rw[aE];exact hm.obj h.ne h.box,by rw[aE];exact aQ⟩
def lF.Bj{w0 w:A_}{cz dh g c q base:Nat}{m:o.Model}{s:C_ Int}(h:lF w0 w cz dh g c q base m s):c9 w (.slice (some ⟨g,0,none⟩) s.length c) s:=kR h.own
def kD(base g:Nat)(v:B_)(ae:H_ (C_ Int))(u:B_)(w w':A_):Prop :=
 ((∃t,ae=some t/\u = .bool true/\iE base w' v t)\/(ae=none/\u = .bool false))/\Mod (λi=>i=g) w w'
def kD.before{base g:Nat}{v:B_}{ae:H_ (C_ Int)}{u:B_}{w w1 w':A_}(h:kD base g v ae u w1 w')(he:Ext w w1):kD base g v ae u w w':=⟨h.1,he.mod.trans h.2⟩
theorem kD.none{base g:Nat}{v:B_}{ae:H_ (C_ Int)}{w w':A_}(aQ:ae=Option.none)(he:Ext w w'):kD base g v ae (.bool false) w w':=⟨.inr ⟨aQ,rfl⟩,he.mod⟩
def kD.SA{base g:Nat}{v:B_}{ae:H_ (C_ Int)}{u:B_}{w w':A_}(h:kD base g v ae u w w'):∃t:Bool,u = .bool t:=by
 rcases h.1 with ⟨_,_,e,_⟩ | ⟨_,e⟩
 .exact⟨_,e⟩
 .exact⟨_,e⟩
def CH{w0:A_}(cz dh g c q p base:Nat)(m:o.Model)(s:C_ Int)(gP:B_)(e:C_ o.Node)(w:A_)(bR:lF w0 w cz dh g c q base m s)(ft:(o.check m).cJ=0)(ay:o.Fits m s)(hIn:o.fJ m q p)(he:o.eS w gP e) :
  Du F.cM #[.pointer (some ⟨cz,0,none⟩),gP] w λu w'=>u = .tuple #[.I (o.eval e (o.cW m s q)).1,.bool (decide ((o.eval e (o.cW m s q)).2=0))]/\Ext w w':=by
 obtain⟨Te,ez,rfl,xw⟩:=he.form;refine bl E.cM ?_;refine J ?_;refine J_ (ajV cz dh q p _ m s w bR.box (bR.D9.ext bR.hF) ft bR.Bj ay hIn) ?_;rintro _ w1 ⟨⟨es,rfl,de⟩,ag⟩;refine J ?_;refine J_ (ajg _ e _ (o.cW m s q) w1 (he.ext ag) (PE de (o.PF (o.hE ft) ay hIn.au))) ?_;rintro _ aA ⟨rfl,ai⟩;refine J ?_;exact⟨aK,ag.trans ai⟩
def Ju{w0:A_}(cz dh g c q base:Nat)(m:o.Model)(s:C_ Int)(k:Nat)(x n:Int)(w:A_)(bR:lF w0 w cz dh g c q base m s)(aL:o.ey m)(aE:s.length=o.di m)(af:x=k)(hk:k<o.di m) :
  Du F.JM #[.pointer (some ⟨cz,0,none⟩),.I x,.I n] w λu w'=>kD base g (.slice (some ⟨g,0,none⟩) s.length c) (o.putAt m s k n) u w w':=by
 subst af;have yN:=bR;obtain⟨hold,AR,⟨zs,ak,iu⟩,sD,gx⟩:=bR;obtain⟨eH,d0,dK,d1,eg,d2,eD,d3,eU,d4,b0,bz,bO,c1,bT,c2,bV,bu,b1,bB,b8,ci,e9,gY,rfl,_,_,dB,cP,cA,eI,fp,ad,h1,I,ab,aP,bG⟩:=iu.form;replace ak:=hold.obj ak;replace eI:=eI.ext Flat.ext hold;replace fp:=fp.ext Flat.ext hold;obtain⟨dL,qP⟩:=o.XV hk;have f2:=o.K4 m;have f3:=o.K2 m;have nx:(o.cp m).length=o.di m:=rfl;have dR:(o.layout m).aV[k]' Ad=(o.cp m)[k].aV:=o.K3 _ dL;have ee:(o.layout m).U[k]' Ad=(o.cp m)[k].U:=o.K1 _ dL;have j4:o.di m<=64:=o.iG aL;obtain⟨a3,rfl⟩:=eI.addr;obtain⟨a4,rfl⟩:=fp.addr;clear dB cP cA ad h1 I ab aP bG iu;refine bl E.JM ?_;refine J ?_;apply I_<;>intro g1
 .refine J ?_;exact kD.none (by unfold o.putAt;rw[qP,if_pos (.inl (by simp only;omega))]) (Ext.refl _)
 refine J ?_;apply I_<;>intro g2
 .refine J ?_;exact kD.none (by unfold o.putAt;rw[qP,if_pos (.inr (by simp only;omega))]) (Ext.refl _)
 refine J ?_;refine _z (k:=k) gx Ad λw1 ix kL=>?_;refine J ?_;exact⟨.inl ⟨_,by unfold o.putAt;rw[qP,if_neg (by simp only;omega)],aK,kL⟩,ix.mod rfl⟩
def akh{w0:A_}(cz dh g c q p base:Nat)(m:o.Model)(s:C_ Int)(a:o.Act)(bK bY:B_)(w:A_)(bR:lF w0 w cz dh g c q base m s)(ft:(o.check m).cJ=0)(ay:o.Fits m s)(hIn:o.fJ m q p)
  (aY:o.nG (o.inner (m.procs[p]'(hIn.ar)) (o.ev m)) a)(lP:a.kind=1)(U:o.eS w bK a.index)(aF:o.eS w bY a.value) :
  Du F.p0 #[.agg (a.enc bK bY).toArray,.pointer (some ⟨cz,0,none⟩)] w λu w'=>kD base g (.slice (some ⟨g,0,none⟩) s.length c) (o.h0 m s q a) u w w':=by
 obtain⟨b8,ci,rfl,_⟩:=U.form;obtain⟨Bm,Ae,rfl,_⟩:=aF.form;have aL:=o.hE ft;obtain⟨f6,f7,f8⟩:=o.pH m;have done:o.h0 m s q a=if (o.eval a.value (o.cW m s q)).2≠0 then none else o.putAt m s (o.fY m a.to.toNat) (o.eval a.value (o.cW m s q)).1:=by
  unfold o.h0;rw[if_neg Ad,if_pos lP]
 rw[done];unfold o.Act.enc;refine bl E.p0 ?_;refine J ?_;intro w1 bQ c7 ag ao;replace bR:=bR.ext ag;refine J ?_;refine J_ (CH cz dh g c q p base m s _ a.value w1 bR ft ay hIn (aF.ext ag)) ?_;rintro _ aA ⟨rfl,ai⟩;replace bR:=bR.ext ai;replace ao:=ai.obj ao;obtain⟨n,pC⟩:∃n,n=(o.eval a.value (o.cW m s q)).1:=⟨_,rfl⟩;obtain⟨e,oU⟩:∃e,e=(o.eval a.value (o.cW m s q)).2:=⟨_,rfl⟩;rw[<-pC,<-oU];have aH:=ag.trans ai;refine J ?_;intro aM ah;replace bR:=bR.ext ah;replace ao:=ah.obj ao;have aR:=aH.trans ah;have yN:=bR;obtain⟨hold,AR,⟨zs,ak,iu⟩,sD,gx⟩:=bR;obtain⟨eH,d0,dK,d1,eg,d2,eD,d3,eU,d4,b0,bz,bO,c1,bT,c2,bV,bu,b1,bB,zm,yr,e9,gY,rfl,_,_,dB,cP,cA,eI,fp,ad,h1,I,ab,aP,bG⟩:=iu.form;replace ak:=hold.obj ak;obtain⟨fh,bU,dO,iw⟩:=aY.set lP;have hq:a.to.toNat<m.vars.length:=(List.getElem?_eq_some_iff.1 dO).1;obtain⟨dP,gk⟩:=o.ri hq;have R6:=o.sb hq;have eC:=o.nq m;have dL:=o.su m.vars[a.to.toNat] m.scalars;have Ro:=o.q8 hq;have al9:o.cells m.vars[a.to.toNat] m.scalars=1:=by
  have GB:m.vars[a.to.toNat]=bU:=(List.getElem?_eq_some_iff.1 dO).2;rw[GB];unfold o.cells;rw[if_pos iw]
 obtain⟨pq,rfl⟩:=dB.addr;replace dB:=dB.ext Flat.ext hold;clear cP cA eI fp ad h1 I ab aP bG iu;refine J ?_;refine I_ (λcK=>?_) (λcK=>?_);rotate_left
 .refine J ?_;exact kD.none (by rw[if_pos cK]) aR
 rw[if_neg Ad];refine J ?_;refine K_ a.to.toNat Ad Ad ?_;refine J ?_;refine J_ (Ju cz dh g c q base m s (o.fY m a.to.toNat) _ n aM yN aL ay.len (by rw[gk]) Ad) ?_;rintro u aU qO;obtain⟨t,rfl⟩:=qO.SA;refine J ?_;exact qO.before aR
def aka{w0:A_}(cz dh g c q p base:Nat)(m:o.Model)(s:C_ Int)(a:o.Act)(bK bY:B_)(w:A_)(bR:lF w0 w cz dh g c q base m s)(ft:(o.check m).cJ=0)(ay:o.Fits m s)(hIn:o.fJ m q p)
  (aY:o.nG (o.inner (m.procs[p]'(hIn.ar)) (o.ev m)) a)(lP:a.kind=3)(U:o.eS w bK a.index)(aF:o.eS w bY a.value) :
  Du F.EU #[.agg (a.enc bK bY).toArray,.pointer (some ⟨cz,0,none⟩)] w λu w'=>kD base g (.slice (some ⟨g,0,none⟩) s.length c) (o.h0 m s q a) u w w':=by
 obtain⟨b8,ci,rfl,_⟩:=U.form;obtain⟨Bm,Ae,rfl,_⟩:=aF.form;have aL:=o.hE ft;obtain⟨f6,f7,f8⟩:=o.pH m;have done:o.h0 m s q a=if (o.eval a.value (o.cW m s q)).2≠0 then none else o.putAt m s (o.cU m q+1+a.to.toNat) (o.eval a.value (o.cW m s q)).1:=by
  unfold o.h0;rw[if_neg (show ¬a.kind=5 by omega),if_neg (show ¬a.kind=1 by omega),if_neg (show ¬a.kind=2 by omega),if_pos lP]
 rw[done];unfold o.Act.enc;refine bl E.EU ?_;refine J ?_;intro w1 bQ c7 ag ao;replace bR:=bR.ext ag;refine J ?_;refine J_ (CH cz dh g c q p base m s _ a.value w1 bR ft ay hIn (aF.ext ag)) ?_;rintro _ aA ⟨rfl,ai⟩;replace bR:=bR.ext ai;replace ao:=ai.obj ao;obtain⟨n,pC⟩:∃n,n=(o.eval a.value (o.cW m s q)).1:=⟨_,rfl⟩;obtain⟨e,oU⟩:∃e,e=(o.eval a.value (o.cW m s q)).2:=⟨_,rfl⟩;rw[<-pC,<-oU];have aH:=ag.trans ai;refine J ?_;intro aM ah;replace bR:=bR.ext ah;replace ao:=ah.obj ao;have aR:=aH.trans ah;have yN:=bR;obtain⟨hold,AR,⟨zs,ak,iu⟩,sD,gx⟩:=bR;obtain⟨eH,d0,dK,d1,eg,d2,eD,d3,eU,d4,b0,bz,bO,c1,bT,c2,bV,bu,b1,bB,zm,yr,e9,gY,rfl,_,_,dB,cP,cA,eI,fp,ad,h1,I,ab,aP,bG⟩:=iu.form;replace ak:=hold.obj ak;have au:=hIn.au;obtain⟨fh,Gj⟩:=aY.loc lP;have Gi:a.to.toNat<(m.procs[p]'(hIn.ar)).vars.length:=Gj;obtain⟨dP,gk⟩:=o.oe au;have sO:=hIn.room;have j4:o.di m<=64:=o.iG aL;have hlen:=ay.len;obtain⟨pq,rfl⟩:=cA.addr;replace cA:=cA.ext Flat.ext hold;clear dB cP eI fp ad h1 I ab aP bG iu;refine J ?_;refine I_ (λcK=>?_) (λcK=>?_);rotate_left
 .refine J ?_;exact kD.none (by rw[if_pos cK]) aR
 rw[if_neg Ad];refine J ?_;refine J_ (Ju cz dh g c q base m s (o.cU m q+1+a.to.toNat) _ n aM yN aL ay.len (by rw[gk];omega) Ad) ?_;rintro u aU qO;obtain⟨t,rfl⟩:=qO.SA;refine J ?_;exact qO.before aR
def aj1{w0:A_}(cz dh g c q p base:Nat)(m:o.Model)(s:C_ Int)(a:o.Act)(bK bY:B_)(w:A_)(bR:lF w0 w cz dh g c q base m s)(ft:(o.check m).cJ=0)(ay:o.Fits m s)(hIn:o.fJ m q p)
  (aY:o.nG (o.inner (m.procs[p]'(hIn.ar)) (o.ev m)) a)(lP:a.kind=2)(U:o.eS w bK a.index)(aF:o.eS w bY a.value) :
  Du F.cT #[.agg (a.enc bK bY).toArray,.pointer (some ⟨cz,0,none⟩)] w λu w'=>kD base g (.slice (some ⟨g,0,none⟩) s.length c) (o.h0 m s q a) u w w':=by
 obtain⟨b8,ci,rfl,_⟩:=U.form;obtain⟨Bm,Ae,rfl,_⟩:=aF.form;have aL:=o.hE ft;obtain⟨f6,f7,f8⟩:=o.pH m;have done:o.h0 m s q a=if (o.eval a.value (o.cW m s q)).2≠0 then none else o.xm m s a (o.eval a.index (o.cW m s q)) (o.eval a.value (o.cW m s q)).1:=by
  unfold o.h0;rw[if_neg (show ¬a.kind=5 by omega),if_neg (show ¬a.kind=1 by omega),if_pos lP]
 rw[done];unfold o.Act.enc;refine bl E.cT ?_;refine J ?_;intro w1 bQ c7 ag ao;replace bR:=bR.ext ag;refine J ?_;refine J_ (CH cz dh g c q p base m s _ a.index w1 bR ft ay hIn (U.ext ag)) ?_;rintro _ aA ⟨rfl,ai⟩;replace bR:=bR.ext ai;replace ao:=ai.obj ao;have aH:=ag.trans ai;refine J ?_;refine J_ (CH cz dh g c q p base m s _ a.value aA bR ft ay hIn (aF.ext aH)) ?_;rintro _ aM ⟨rfl,ah⟩;replace bR:=bR.ext ah;replace ao:=ah.obj ao;have aR:=aH.trans ah;obtain⟨n,pC⟩:∃n,n=(o.eval a.value (o.cW m s q)).1:=⟨_,rfl⟩;obtain⟨e,oU⟩:∃e,e=(o.eval a.value (o.cW m s q)).2:=⟨_,rfl⟩;obtain⟨k,Ge⟩:∃k,k=(o.eval a.index (o.cW m s q)).1:=⟨_,rfl⟩;obtain⟨f,F7⟩:∃f,f=(o.eval a.index (o.cW m s q)).2:=⟨_,rfl⟩;have oV:o.xm m s a (o.eval a.index (o.cW m s q)) n=if f≠0\/k<1\/(o.lu m a.to.toNat:Int)<k then none else o.putAt m s (o.fY m a.to.toNat+k.toNat - 1) n:=by unfold o.xm;rw[<-Ge,<-F7]
 rw[<-pC,<-oU,oV,<-Ge,<-F7];clear oV done;have yN:=bR;obtain⟨hold,AR,⟨zs,ak,iu⟩,sD,gx⟩:=bR;obtain⟨eH,d0,dK,d1,eg,d2,eD,d3,eU,d4,b0,bz,bO,c1,bT,c2,bV,bu,b1,bB,zm,yr,e9,gY,rfl,_,_,dB,cP,cA,eI,fp,ad,h1,I,ab,aP,bG⟩:=iu.form;replace ak:=hold.obj ak;obtain⟨fh,GA,AL⟩:=aY.item lP;have hq:a.to.toNat<m.vars.length:=GA;obtain⟨dP,gk⟩:=o.ri hq;have R6:=o.sb hq;have eC:=o.nq m;have Ro:=o.q8 hq;have dL:=o.su m.vars[a.to.toNat] m.scalars;have j4:o.di m<=64:=o.iG aL;have hlen:=ay.len;obtain⟨pq,rfl⟩:=dB.addr;obtain⟨nO,rfl⟩:=h1.addr;replace dB:=dB.ext Flat.ext hold;replace ad:=ad.ext hold;have dH:=((h1.at a.to.toNat hq).cells).ext hold;clear cP cA eI fp h1 I ab aP bG iu;refine J ?_;refine I_ (λcK=>?_) (λcK=>?_);rotate_left
 .refine J ?_;intro aU aq;refine kD.none ?_ (aR.trans aq);by_cases h:e≠0
  .rw[if_pos h]
  .rw[if_neg h,if_pos (.inl cK)]
 refine J ?_;refine I_ (λcV=>?_) (λcV=>?_);rotate_left
 .refine J ?_;intro aU aq;exact kD.none (by rw[if_pos cV]) (aR.trans aq)
 rw[if_neg (show ¬e≠0 by omega)];refine J ?_;refine I_ (λfo=>?_) (λfo=>?_)
 .refine J ?_;intro aU aq;exact kD.none (by rw[if_pos (.inr (.inl fo))]) (aR.trans aq)
 refine J ?_;refine K_ a.to.toNat Ad Ad ?_;refine J ?_;refine P_ (.I (o.cells m.vars[a.to.toNat] m.scalars)) (λw' e'=>Cl m.vars[a.to.toNat] _ m.scalars w' (ad.ext e')) ?_;refine J ?_;intro aU aq;refine I_ (λhC=>?_) (λhC=>?_)
 .refine J ?_;exact kD.none (by rw[if_pos (.inr (.inr Ad))]) (aR.trans aq)
 rw[if_neg Ad];have Ax:=yN.ext aq;replace ao:=aq.obj ao;replace ak:=aq.obj ak;replace sD:=aq.obj sD;have DJ:=dB.ext Flat.ext aq;clear dB ad dH;refine J ?_;intro bh av;replace Ax:=Ax.ext av;replace ao:=av.obj ao;replace ak:=av.obj ak;replace sD:=av.obj sD;replace DJ:=DJ.ext Flat.ext av;refine J ?_;refine K_ a.to.toNat Ad Ad ?_;refine J ?_;refine J_ (Ju cz dh g c q base m s (o.fY m a.to.toNat+k.toNat - 1) _ n bh Ax aL ay.len (by rw[gk];omega) Ad) ?_;rintro u bq sC;obtain⟨t,rfl⟩:=sC.SA;refine J ?_;exact sC.before ((aR.trans aq).trans av)
end Go.Proofs.R
namespace o
def Pa(m:Model)(s:C_ Int)(c:Nat):(s.drop (b7 m c)).take (b7 m c+(1+gF m c) - b7 m c)=chanOf m s c:=by
 unfold chanOf;rw[show b7 m c+(1+gF m c) - b7 m c=1+gF m c from Ad]
end o
namespace Go.Proofs.R
open Go Go.RowKit a8
def akc{w0:A_}(cz dh g c q p base:Nat)(m:o.Model)(s:C_ Int)(a:o.Act)(bK bY:B_)(w:A_)(bR:lF w0 w cz dh g c q base m s)(ft:(o.check m).cJ=0)(ay:o.Fits m s)(hIn:o.fJ m q p)
  (aY:o.nG (o.inner (m.procs[p]'(hIn.ar)) (o.ev m)) a)(lP:a.kind=5)(U:o.eS w bK a.index)(aF:o.eS w bY a.value) :
  Du F.EW #[.agg (a.enc bK bY).toArray,.pointer (some ⟨cz,0,none⟩)] w λu w'=>kD base g (.slice (some ⟨g,0,none⟩) s.length c) (o.h0 m s q a) u w w':=by
 obtain⟨b8,ci,rfl,_⟩:=U.form;obtain⟨Bm,Ae,rfl,_⟩:=aF.form;have aL:=o.hE ft;obtain⟨f6,f7,f8⟩:=o.pH m;have done:o.h0 m s q a=o.zr m s q a:=by unfold o.h0;rw[if_pos lP]
 rw[done];unfold o.zr;clear done;obtain⟨fh,dO⟩:=aY.chan (.inr lP);have dE:a.to.toNat<m.ax.length:=dO;have gG:a.to=(a.to.toNat:Nat):=Ad
 have dL:(o.chanOf m s a.to.toNat).length=1+o.gF m a.to.toNat:=o.wz (by rw[ay.len];exact o.oK dE);have aby:=o.oK dE;obtain⟨eu,Gj⟩:=aY.recv lP;have Gi:a.loc.toNat<(m.procs[p]'(hIn.ar)).vars.length:=Gj;have anO:=hIn.room;have hlen:=ay.len;have j4:o.di m<=64:=o.iG aL;have au:=hIn.au;obtain⟨dP,gk⟩:=o.oe au;unfold o.Act.enc;rw[gG,AH1];have C6:=bR.EK;refine bl E.EW ?_;refine J ?_;intro w1 bQ c7 ag ao;replace bR:=bR.ext ag;have p6:=bR.box;refine J ?_;refine P_ (.tuple #[.I (o.b7 m a.to.toNat),.I (o.b7 m a.to.toNat+(1+o.gF m a.to.toNat):Nat)]) (λw' e=>PN dh m a.to.toNat w' (bR.D9.ext (bR.hF.trans e)) aL dE) ?_;refine J ?_;intro aA ai;replace bR:=bR.ext ai;replace ao:=ai.obj ao;replace p6:=bR.box;have aH:=ag.trans ai;refine J ?_;refine _a (k:=.i64) (k':=.i64) (o.b7 m a.to.toNat) (o.b7 m a.to.toNat+(1+o.gF m a.to.toNat)) bR.Bj (by simp[dc,bD]) (by simp[dc,bD]) Ad Ad λbO c1 _ y3=>?_;rw[o.Pa] at y3;refine J ?_;refine J_ (ahV _ _ aA y3 Ad) ?_;rintro _ aM ⟨alm,ah⟩;replace bR:=bR.ext ah;replace ao:=ah.obj ao;replace p6:=bR.box;have aR:=aH.trans ah;have aG:=bR.EK;rcases alm with ⟨eG,rfl⟩ | ⟨r,x,ae,gY,iZ,rfl,w9⟩
 .rw[eG];refine J ?_;refine _a (k:=.i64) (k':=.i64) (o.b7 m a.to.toNat) (o.b7 m a.to.toNat+(1+o.gF m a.to.toNat)) bR.Bj (by simp[dc,bD]) (by simp[dc,bD]) Ad Ad λbT c2 hN _=>?_;refine J ?_;refine _b (p:=o.b7 m a.to.toNat) (xs:=[]) bR.own bm.nil (by simp only[dc,bD];rfl) (by simp only[dc,bD];rfl) hN Ad Ci Ci λu aU dQ dD=>?_;refine J ?_;intro bh av;refine J ?_;have hm:Mod (λi=>i=g) w bh:=((Ext.mod (A:=λi=>i=g) aR).trans (dQ.mod rfl)).trans av.mod;exact⟨.inr ⟨rfl,aK⟩,hm⟩
 .rw[iZ];have hR:=o.Nr iZ;rw[dL] at hR;refine J ?_;refine _a (k:=.i64) (k':=.i64) (o.b7 m a.to.toNat) (o.b7 m a.to.toNat+(1+o.gF m a.to.toNat)) bR.Bj (by simp[dc,bD]) (by simp[dc,bD]) Ad Ad λbT c2 hN _=>?_;refine J ?_;refine _b (p:=o.b7 m a.to.toNat) bR.own (kR w9) (by simp only[dc,bD];rfl) (by simp only[dc,bD];rfl) hN Ad Ci Ci λu aU dQ dD=>?_;rw[MC Ad] at dD;have kp:(o.jb s (o.b7 m a.to.toNat) r).length=s.length:=o.GJ Ad;replace bR:=bR.mod (dQ.mod rfl) dD kp;have bo:=dQ.obj ao Ad;have j6:Mod (λi=>i=g) w aU:=aR.mod.trans (dQ.mod rfl);clear p6 y3 ao;refine J ?_;intro bh av;replace bR:=bR.ext av;replace bo:=av.obj bo;have yN:=bR;obtain⟨hold,AR,⟨zs,ak,iu⟩,sD,gx⟩:=bR;obtain⟨eH,d0,dK,d1,eg,d2,eD,d3,eU,d4,b0,bz,bO,c1,ap3,ahj,bV,bu,b1,bB,zm,yr,e9,mJ,rfl,_,_,dB,cP,cA,eI,fp,ad,h1,I,ab,aP,bG⟩:=iu.form;replace ak:=hold.obj ak;obtain⟨pq,rfl⟩:=cA.addr;replace cA:=cA.ext Flat.ext hold;rw[kp] at sD;clear dB cP eI fp ad h1 I ab aP bG iu;refine J ?_;rw[gk];refine J ?_;refine J_ (Ju cz dh g c q base m _ (o.cU m q+1+a.loc.toNat) _ x bh yN aL Ad Ad Ad) ?_;rintro u bq ⟨sC,iX⟩;rw[kp] at sC;have hm:Mod (λi=>i=g) w bq:=(j6.trans av.mod).trans iX;rcases sC with ⟨t,h1,rfl,I⟩ | ⟨h1,rfl⟩
  .refine J ?_;exact⟨.inl ⟨t,h1,aK,I⟩,hm⟩
  .refine J ?_;exact⟨.inr ⟨h1,aK⟩,hm⟩
def akg{w0:A_}(cz dh g c q p base:Nat)(m:o.Model)(s:C_ Int)(a:o.Act)(bK bY:B_)(w:A_)(bR:lF w0 w cz dh g c q base m s)(ft:(o.check m).cJ=0)(ay:o.Fits m s)(hIn:o.fJ m q p)
  (aY:o.nG (o.inner (m.procs[p]'(hIn.ar)) (o.ev m)) a)(lP:a.kind=4)(U:o.eS w bK a.index)(aF:o.eS w bY a.value) :
  Du F.wo #[.agg (a.enc bK bY).toArray,.pointer (some ⟨cz,0,none⟩)] w λu w'=>kD base g (.slice (some ⟨g,0,none⟩) s.length c) (o.h0 m s q a) u w w':=by
 obtain⟨b8,ci,rfl,_⟩:=U.form;obtain⟨Bm,Ae,rfl,_⟩:=aF.form;have aL:=o.hE ft;obtain⟨f6,f7,f8⟩:=o.pH m;have done:o.h0 m s q a=if (o.eval a.value (o.cW m s q)).2≠0 then none else o.vJ m s a.to.toNat (o.eval a.value (o.cW m s q)).1:=by
  unfold o.h0;rw[if_neg (show ¬a.kind=5 by omega),if_neg (show ¬a.kind=1 by omega),if_neg (show ¬a.kind=2 by omega),if_neg (show ¬a.kind=3 by omega)]
 rw[done];clear done;obtain⟨fh,dO⟩:=aY.chan (.inl lP);have dE:a.to.toNat<m.ax.length:=dO;have gG:a.to=(a.to.toNat:Nat):=Ad
 have dL:(o.chanOf m s a.to.toNat).length=1+o.gF m a.to.toNat:=o.wz (by rw[ay.len];exact o.oK dE);have aby:=o.oK dE;have hlen:=ay.len;have j4:o.di m<=64:=o.iG aL;unfold o.Act.enc;rw[gG,AH1];have C6:=bR.EK;refine bl E.wo ?_;refine J ?_;intro w1 bQ c7 ag ao;replace bR:=bR.ext ag;refine J ?_;refine J_ (CH cz dh g c q p base m s _ a.value w1 bR ft ay hIn (aF.ext ag)) ?_;rintro _ aA ⟨rfl,ai⟩;replace bR:=bR.ext ai;replace ao:=ai.obj ao;have aH:=ag.trans ai;obtain⟨n,pC⟩:∃n,n=(o.eval a.value (o.cW m s q)).1:=⟨_,rfl⟩;obtain⟨e,oU⟩:∃e,e=(o.eval a.value (o.cW m s q)).2:=⟨_,rfl⟩;rw[<-pC,<-oU];refine J ?_;intro aM ah;replace bR:=bR.ext ah;replace ao:=ah.obj ao;have aR:=aH.trans ah;obtain⟨zs,rN,iu⟩:=bR.D9;obtain⟨eH,d0,dK,d1,eg,d2,eD,d3,eU,d4,b0,bz,bO,c1,ap3,ahj,bV,bu,b1,bB,zm,yr,e9,mJ,rfl,_,_,dB,cP,cA,eI,fp,ad,h1,I,ab,aP,bG⟩:=iu.form;obtain⟨nM,rfl⟩:=I.addr;have ak:=bR.hF.obj rN;have p6:=bR.box;have dH:=((I.at a.to.toNat dE).cells).ext bR.hF;have JZ:=ad.ext bR.hF;clear dB cP cA eI fp ad h1 I ab aP bG rN iu;refine J ?_;intro aU h2 gZ aq bZ;refine⟨aq,?_⟩;refine U_ bZ rfl rfl (by simp[Value.oneCell',o.dZ.enc]) λbh eY bI=>?_;have av:Ext aM bh:=eY.ext aq gZ;replace bR:=bR.ext av;replace ak:=av.obj ak;replace p6:=bR.box;replace ao:=av.obj ao;replace JZ:=JZ.ext av;have bC:=aR.trans av;clear bZ eY dH;obtain⟨aV,hQ⟩:∃aV,aV=(o.e1 m.ax[a.to.toNat].scalar m.ax[a.to.toNat].aV m.ax[a.to.toNat].U m.scalars).aV:=⟨_,rfl⟩;obtain⟨cw,tP⟩:∃U,U=(o.e1 m.ax[a.to.toNat].scalar m.ax[a.to.toNat].aV m.ax[a.to.toNat].U m.scalars).U:=⟨_,rfl⟩;have wX:o.vJ m s a.to.toNat n=if n<aV\/cw<n then none else (o.nC (o.chanOf m s a.to.toNat) n).map (o.jb s (o.b7 m a.to.toNat)):=by
  unfold o.vJ o.wx;rw[List.getElem?_eq_getElem dE,hQ,tP]
 rw[wX];clear wX;refine J ?_;refine P_ (.tuple #[.I aV,.I cw]) (λw' e'=>by
  rw[hQ,tP,show o.e1 m.ax[a.to.toNat].scalar m.ax[a.to.toNat].aV m.ax[a.to.toNat].U m.scalars=_ from o.z1 ⟨⟨#[]⟩,m.ax[a.to.toNat].scalar,0,m.ax[a.to.toNat].aV,m.ax[a.to.toNat].U,0⟩ m.scalars];exact IB ⟨⟨#[]⟩,m.ax[a.to.toNat].scalar,0,m.ax[a.to.toNat].aV,m.ax[a.to.toNat].U,0⟩ _ m.scalars w' (JZ.ext e')) ?_
 refine J ?_;intro bq aD;replace bR:=bR.ext aD;replace ak:=aD.obj ak;replace p6:=bR.box;replace ao:=aD.obj ao;have b6:=bC.trans aD;clear bI JZ;refine J ?_;refine I_ (λcK=>?_) (λcK=>?_);rotate_left
 .refine J ?_;exact kD.none (by rw[if_pos cK]) b6
 rw[if_neg (show ¬e≠0 by omega)];refine J ?_;refine I_ (λcV=>?_) (λcV=>?_)
 .refine J ?_;exact kD.none (by rw[if_pos (.inl cV)]) b6
 refine J ?_;refine I_ (λfo=>?_) (λfo=>?_)
 .refine J ?_;exact kD.none (by rw[if_pos (.inr Ad)]) b6
 rw[if_neg Ad];refine J ?_;refine P_ (.tuple #[.I (o.b7 m a.to.toNat),.I (o.b7 m a.to.toNat+(1+o.gF m a.to.toNat):Nat)]) (λw' e'=>PN dh m a.to.toNat w' (bR.D9.ext (bR.hF.trans e')) aL dE) ?_;refine J ?_;intro bH bc;replace bR:=bR.ext bc;replace p6:=bR.box;have cM:=b6.trans bc;clear ak ao;refine J ?_;refine _a (k:=.i64) (k':=.i64) (o.b7 m a.to.toNat) (o.b7 m a.to.toNat+(1+o.gF m a.to.toNat)) bR.Bj (by simp[dc,bD]) (by simp[dc,bD]) Ad Ad λbO c1 _ y3=>?_;rw[o.Pa] at y3;refine J ?_;refine J_ (ahU _ _ n bH y3 Ad) ?_;rintro _ cB ⟨ak9,bt⟩;replace bR:=bR.ext bt;replace p6:=bR.box;have eN:=cM.trans bt;rcases ak9 with ⟨eG,rfl⟩ | ⟨r,ae,gY,iZ,rfl,w9⟩
 .rw[eG];refine J ?_;refine _a (k:=.i64) (k':=.i64) (o.b7 m a.to.toNat) (o.b7 m a.to.toNat+(1+o.gF m a.to.toNat)) bR.Bj (by simp[dc,bD]) (by simp[dc,bD]) Ad Ad λbT c2 hN _=>?_;refine J ?_;refine _b (p:=o.b7 m a.to.toNat) (xs:=[]) bR.own bm.nil (by simp only[dc,bD];rfl) (by simp only[dc,bD];rfl) hN Ad Ci Ci λu cG gy fu=>?_;refine J ?_;exact⟨.inr ⟨rfl,aK⟩,(Ext.mod (A:=λi=>i=g) eN).trans (gy.mod rfl)⟩
 .rw[iZ];have hR:=o.MU iZ;rw[dL] at hR;refine J ?_;refine _a (k:=.i64) (k':=.i64) (o.b7 m a.to.toNat) (o.b7 m a.to.toNat+(1+o.gF m a.to.toNat)) bR.Bj (by simp[dc,bD]) (by simp[dc,bD]) Ad Ad λbT c2 hN _=>?_;refine J ?_;refine _b (p:=o.b7 m a.to.toNat) bR.own (kR w9) (by simp only[dc,bD];rfl) (by simp only[dc,bD];rfl) hN Ad Ci Ci λu cG gy fu=>?_;rw[MC Ad] at fu;refine J ?_;exact⟨.inl ⟨_,rfl,aK,fu⟩,(Ext.mod (A:=λi=>i=g) eN).trans (gy.mod rfl)⟩
end Go.Proofs.R
namespace a8
open Go Go.RowKit
def _r{P:D_}{ty:F_}{v:B_}{m:String}{f:E_}{r:B_}{args:C_ B_}{w:A_}{R:B_->A_->Prop}{cL:B_->A_->Prop}{t}(ay:okF P f=true)(hm:∀w',(method (P.types.size+Made.depth) ty v m).run P w' = .ok (f,r) w')
  (h:aX P f (r :: args).toArray w R)(hk:∀v w',R v w'->cL v w'):BN P (.iface ty v) m args w cL t:=by unfold BN;exact ahs ay hm h hk
def aJ.ap9{α:Type}{enc:α->C_ B_}{e:F_}{sz base:Nat}{w:A_}{v:B_}{cn:C_ (fC sz)}{xs:C_ α}(h:pV e sz base w v cn)(aE:cn.length=xs.length)(he:∀i (h1:i<cn.length) (I:i<xs.length),cn[i].1=enc xs[i]):aJ enc e sz base w v xs:=by
 have hm:cn.map lL=xs.map enc:=AK8 (by simp[aE]) λi h1 I=>by
  rw[List.getElem_map,List.getElem_map];exact he i (by simpa using h1) (by simpa using I)
 have:cn.flatMap lL=xs.flatMap enc:=by rw[List.flatMap_def,List.flatMap_def,hm]
 unfold aJ at *;rw[<-this,<-aE];exact h
end a8
namespace Go.Proofs.R
open Go Go.RowKit a8
def Sv(v:B_)(xs:C_ Int)(w:A_)(h:c9 w v xs)(ak:o.ep xs.length 8) :
  Du F.JR #[v] w λbU w'=>iE w.heap.size w' bU xs/\Ext w w' :=
 (Yh lR E.JR Ci v xs w h (by unfold o.ep at ak;omega)).mono λbU w' ⟨⟨cn,aE,aQ,an⟩,he⟩=>⟨aJ.ap9 aQ aE λi h1 I=>an i h1 I,he⟩
def qK(k:Int):F_:=if k=1 then T.yk else if k=2 then T.a0 else if k=3 then T.db else if k=4 then T.a2 else T.a3
def H2(w:A_)(cs:C_ B_)(x:o.Act):Prop := ∃bK bY,cs=[.iface (qK x.kind) (.agg (x.enc bK bY).toArray)]/\o.eS w bK x.index/\o.eS w bY x.value
def ajU{w0:A_}(v:B_)(xs:C_ o.Act)(w:A_)(h:o.mv w0 v xs)(de:Ext w0 w)(hk:∀x∈xs,1<=x.kind/\x.kind<=5)(ak:xs.length<=100000) :
  Du F.eN #[v] w λu w'=>(∃cn:C_ (fC 1),cn.length=xs.length/\pV T.yj 1 w.heap.size w' u cn/\∀i (h1:i<cn.length) (I:i<xs.length),H2 w0 cn[i].1 xs[i])/\Ext w w':=by
 obtain⟨ei,eW,rfl,e6⟩:=h.form;refine bl E.eN ?_;refine J ?_;refine L_ 8 xs.length [6,7] (λv:fy=>[(3,.slice v.1 v.2.1 v.2.2)]) (none,0,0) (λk v W=>Ext w W/\∃cn:C_ (fC 1),cn.length=k/\pV T.yj 1 w.heap.size W (.slice v.1 v.2.1 v.2.2) cn/\∀i (h1:i<cn.length) (I:i<xs.length),H2 w0 cn[i].1 xs[i]) a6 a6 ⟨Ext.refl _,[],rfl,aJ.nil _ _ _ _ _,λi h=>absurd h (HI _)⟩ ?_;rintro k pb S aA hp ⟨ai,cn,nx,ed,gq⟩;refine J ?_;apply I_<;>intro g1;rotate_left
 .have gS:xs.length=k:=Ad
  refine J ?_;exact⟨⟨cn,Ad,ed,gq⟩,ai⟩
 have a7:k<xs.length:=Ad
 obtain⟨a,rfl⟩:=h.addr;obtain⟨bK,bY,nv,ob,qd⟩:=h.at k a7;obtain⟨cK,vt⟩:=hk _ (ED a7);obtain⟨x,af⟩:∃x,x=xs[k]:=⟨_,rfl⟩;rw[<-af] at nv ob qd cK vt;obtain⟨b8,ci,rfl,_⟩:=ob.form;obtain⟨Bm,Ae,rfl,_⟩:=qd.form;replace nv:=nv.ext (de.trans ai);unfold o.Act.enc at nv;refine J ?_;intro aM dF jt ah bI;have eT:=ed.ext ah;have aR:=ai.trans ah;clear nv;have step:∀(y:fC 1),H2 w0 y.1 xs[k]->∀i (h1:i<(cn++[y]).length) (I:i<xs.length),H2 w0 ((cn++[y])[i]).1 xs[i]:=λy bE i h1 I=>by
  by_cases U:i<cn.length
  .rw[AI4 U];exact gq i U I
  .have e:i=cn.length:=by simp at h1;omega
   subst e;subst nx;rw[AI5 (EC _)];simpa using bE
 have afO:=aR.size;refine J ?_;apply I_<;>intro g2;rotate_left;refine J ?_;apply I_<;>intro g3;rotate_left;refine J ?_;apply I_<;>intro g4;rotate_left;refine J ?_;apply I_<;>intro g5;rotate_left
 all_goals
  refine J ?_;intro aU c6 fT aq bo;refine J ?_;refine S_ (enc:=lL) (y:=(⟨[.iface _ (.agg (x.enc (.slice b8 x.index.length ci) (.slice Bm x.value.length Ae)).toArray)],rfl,by simp[Value.oneCell']⟩:fC 1)) (eT.ext aq) bo rfl lM Ai Ad (by unfold maxLen;omega) (by have:=aq.size;omega) λaN n c bh dM mP=>?_;refine J ?_;exact⟨a7,aK,(aN,n,c),⟨rfl,trivial⟩,(aR.trans aq).grown mP λi U=>(eT.lt i U).1,_,by simp[nx],dM,step _ ⟨_,_,by rw[<-af];unfold qK; (repeat' split)<;>first | rfl | omega,by rw[<-af];exact ob,by rw[<-af];exact qd⟩⟩
end Go.Proofs.R