/- Parts. -/
import Derived.Test.YtakmdjclehkglaaGreatDoorQawr
import Derived.SizedLaws
import Derived.Test.YtakmdjclehkglaaGreatDoorRows
import Derived.JoinedCond
set_option linter.all false
set_option maxRecDepth 8000
set_option maxHeartbeats 32000000
section
namespace a7
open Go Go.RowKit
instance avn:Rel (Flat (j2 (sz:=3))) (fun _ cs x=>cs=j2 x) 3 where
 out h:=⟨_,h,rfl⟩
 om h k:=by subst k;exact h
 len h:=by rw[h];exact j3 _
 one h:=by rw[h];exact tf _
 ext _ h:=h
theorem XZ:∀(l:C_ (e8 3)) (i:Nat) (h:i<l.length) (j:Nat),j<3->(l.flatMap j2)[3*i+j]? = l[i].1[j]?
 | x :: l,0,h,j,aC=>by
  have:=j3 x
  rw[AH5,Nat.mul_zero,AE9,List.getElem?_append_left Aw];rfl
 | x :: l,i+1,h,j,aC=>by
  have:=j3 x
  have fb:=XZ l i (by simpa using h) j aC;rw[AH5,List.getElem?_append_right Aw,this,show 3*(i+1)+j - 3=3*i+j from Aw,fb];rfl
end a7
namespace Go.Proofs.R
open Go Go.RowKit a7
theorem an8{w:A_}{base:Nat}{v:B_}{l:C_ (e8 3)}(h:pj T.j 3 base w v l)(az:l≠[]):∃b c,v = .slice (some ⟨b,0,none⟩) l.length c/\base<=b/\im w b l/\l.length<=c/\c<=maxLen:=by
 rcases h.2 with ⟨_,ad⟩ | ⟨g,cap,cur,h1,I,ab,aE,aY,bz,b0⟩
 .exact absurd (AG1 ad) az
 .refine⟨g,cap,h1,I,⟨cur,ab,Aw,fun i U j aC=>?_⟩,aE,aY⟩;have get:∀j,j<3*l.length->cur[j]? = (l.flatMap j2)[j]? := fun j aC=>by
   rw[<-b0,List.getElem?_take_of_lt Aw,Array.getElem?_toList]
  rw[get _ Aw];exact XZ l i U j aC
theorem im.jg{w:A_}{b c:Nat}{l:C_ (e8 3)}(h:im w b l)(ai:l.length<=c)(hm:c<=maxLen):bg 3 (Flat j2) w (.slice (some ⟨b,0,none⟩) l.length c) l :=
 ⟨_,_,rfl,ai,hm,fun _=>rfl,fun a aU i U=>by
  injection aU with aU;subst aU
  have:=h.at_ U
  rw[show(⟨b,3*i,none⟩:Addr)=Addr.add ⟨b,0,none⟩ (i*3) from by rw[add_eq,AE9,AI2]] at this;exact this⟩
theorem ag7(b c nj s5:Nat)(l:C_ (e8 3))(p:e8 3->Bool)(w:A_)(h:im w b l)(ai:l.length<=c)(hm:c<=maxLen)
  (aq:∀x∈l,∀w',Mod (fun i=>i=b) w w'->Dz F.b #[.agg x.1.toArray,.pointer (some ⟨nj,0,none⟩),.pointer (some ⟨s5,0,none⟩)] w' fun v bM=>v = .bool (p x)/\Ext w' bM) :
  Dz F.f #[.slice (some ⟨b,0,none⟩) l.length c,.func (.func F.b) #[] #[.pointer (some ⟨nj,0,none⟩),.pointer (some ⟨s5,0,none⟩)]] w fun v w'=>v = .slice (some ⟨b,0,none⟩) (l.filter fun x => !p x).length c/\im w' b (l.filter fun x => !p x)/\Mod (fun i=>i=b) w w':=by
 have als:=hm;unfold maxLen at hm;refine vr E.f ?_;refine nV ?_;refine J ?_;refine J_ (Rb lz E.gd _ l w (h.jg ai als) F.b Cq [] [_,_] p ?_) ?_
 .rintro i U iU w' e rfl;exact aq _ (Gy U) w' e.mod
 rintro _ w1 ⟨rfl,ah⟩;rcases XR (p:=p) l 0 with ⟨av,ao⟩ | ⟨k,hk,av,alS,ao⟩
 .rw[av];refine J ?_;exact⟨by rw[ao],by rw[ao];exact h.ext ah,ah.mod⟩
 rw[av,AE9];refine J ?_;have ri:=h.ext ah;refine _P [0,1] (fun x:Nat×Nat×C_ (e8 3)=>[(5,.I x.1),(6,.I x.2.1)]) (k,k+1,l) (fun x W=>x.2.1<=l.length/\x.1<x.2.1/\x.2.2.length=l.length/\im W b x.2.2/\Mod (fun i=>i=b) w W/\x.2.2.take x.1=(l.take x.2.1).filter (fun x => !p x)/\∀j,x.1<=j->x.2.2[j]? = l[j]?) (fun x=>l.length - x.2.1) a8 ⟨by simp only;omega,Nat.lt_succ_self _,rfl,ri,ah.mod,ao.symm,fun _ _=>rfl⟩ ?_;rintro⟨i,j,R⟩ Hb aK ⟨jP,hJ,Ad,uV,yx,ru,uW⟩;dsimp only at jP hJ Ad uV yx ru uW ⊢;clear ri ao av alS;refine J ?_;apply I_<;>intro g3;rotate_left
 .have P8:j=l.length:=Aw
  rw[P8,AF1] at ru;have oh:(l.filter fun x => !p x).length=i:=by rw[<-ru,LQ];omega
  refine J ?_;refine _B i l.length c (by simp[et,c0,bL]) (by simp[et]) (by simp[et]) ⟨Aw,ai,Gf _⟩ Bh ?_;rw[if_neg (show ¬c=i by omega),AG6];refine J ?_;refine AE1 (k:=i) uV (by simp only[c0,bL];rfl) Aw (fun _=>by rw[add_eq,AE9,AI2]) fun v aR jM nC=>?_;rw[ru] at nC;refine J ?_;refine _B 0 i c (by simp[et]) (by simp[et,c0,bL]) (by simp[et]) ⟨Aw,Aw,Gf _⟩ Bh ?_;rw[if_neg (show ¬c=0 by omega),AG6];refine J ?_;exact⟨by rw[oh,add_eq];rfl,nC,yx.trans jM⟩
 have kK:j<l.length:=Aw
 have ni:(Addr.add ⟨b,0,none⟩ (j*3))=⟨b,3*j,none⟩:=by
  rw[add_eq,AE9,AI2]
 have jW:R[j]' Aw=l[j]:=by
  have:=uW j Aw
  rw[List.getElem?_eq_getElem Aw,List.getElem?_eq_getElem Aw] at this;injection this
 obtain⟨x,af⟩:∃x,x=l[j]:=⟨_,rfl⟩;have uQ:x∈l:=by rw[af];exact Gy _
 have d1:e7 aK (Addr.add ⟨b,0,none⟩ (j*3)) x.1:=by
  rw[ni,af,<-jW];exact uV.at_ _
 have re:=aiv (q:=fun x => !p x) kK;rw[<-ru,<-af] at re;obtain⟨kh,jX,rK,bK⟩:∃kh jX rK,x.1=[kh,jX,rK]:=by
  have:=x.2.1
  match x.1,this with
  | [kh,jX,rK],_=>exact⟨kh,jX,rK,rfl⟩
 rw[bK] at d1;have RQ:∀u∈(#[kh,jX,rK]:Array B_).toList,u.oneCell'=true:=by have:=x.2.2;rw[bK] at this;exact this
 have next:∀{W},im W b R->Mod (fun i=>i=b) w W->p x=true->(im W b R/\Mod (fun i=>i=b) w W/\R.take i=(l.take (j+1)).filter (fun x => !p x)/\∀t,i<=t->R[t]? = l[t]?):=fun cZ a2 a3=>⟨cZ,a2,by rw[re,a3];simp,uW⟩
 have FO:∀{W},im W b (R.set i x)->Mod (fun i=>i=b) w W->p x=false->(im W b (R.set i x)/\Mod (fun i=>i=b) w W/\(R.set i x).take (i+1)=(l.take (j+1)).filter (fun x => !p x)/\∀t,i+1<=t->(R.set i x)[t]? = l[t]?):=fun cZ a2 a3=>⟨cZ,a2,by
  rw[re,a3,L1 (by rw[AE8];omega),AK2,List.take_set_of_le (Gf _)];simp,fun t aA=>by
  rw[List.getElem?_set_ne Aw];exact uW t Aw⟩
 clear re ru jW;replace next:=i_ @next trivial
 replace FO:=i_ @FO trivial;replace aq:=i_ aq trivial;refine J ?_;intro aR iC ia aw cf;have am4:=uV.ext aw;have m4:=yx.trans aw.mod;have qj:=aq.1 x uQ aR m4;rw[bK] at qj;have qj:Dz F.b #[.agg #[kh,jX,rK],.pointer (some ⟨nj,0,none⟩),.pointer (some ⟨s5,0,none⟩)] aR fun v bM=>v = .bool (p x)/\Ext aR bM:=qj;clear d1 aq;refine J ?_;refine V_ (first:=[]) (cap:=[.pointer (some ⟨nj,0,none⟩),.pointer (some ⟨s5,0,none⟩)]) Cq qj ?_;clear qj;rintro _ bo ⟨rfl,aF⟩;have I8:=aF.obj cf;have aaT:=am4.ext aF;have m5:=m4.trans aF.mod;clear cf;cases Z6:p x with
 | true =>
  have ax:=next.1 aaT m5 Z6
  clear next FO
  refine J ?_;exact⟨(i,j+1,R),⟨aL,aL,trivial⟩,⟨by simp only;omega,by simp only;omega,Ad,ax⟩,by simp only;omega⟩
 | false =>
  refine J ?_;refine AE0 (x:=x) (i:=i) aaT (by rw[bK]) (by rw[add_eq,AE9,AI2]) Aw fun bt gP alu=>?_;have ax:=FO.1 alu (m5.trans (gP.mod rfl)) Z6;clear next FO
  refine J ?_;exact⟨(i+1,j+1,R.set i x),⟨aL,aL,trivial⟩,⟨by simp only;omega,by simp only;omega,by rw[AE8];exact Ad,ax⟩,by simp only;omega⟩
theorem p1.ext{w w':A_}{v:B_}{l:C_ o.jk}(he:Ext w w')(h:p1 w v l):p1 w' v l:=bg.ext (R:=yZ) (fun _ _ _ _ he h=>yZ.ext he h) he h
end Go.Proofs.R
end
section
namespace a7
open Go Go.RowKit
theorem XO{α β:Type}{R:α->β->Prop}{f:α->Bool}{g:β->Bool}:∀(l:C_ α) (r:C_ β),l.length=r.length->(∀i (h1:i<l.length) (I:i<r.length),R l[i] r[i]/\f l[i]=g r[i])->(l.filter f).length=(r.filter g).length/\∀i (h1:i<(l.filter f).length) (I:i<(r.filter g).length),R (l.filter f)[i] (r.filter g)[i]
 | [],[],_,_=>⟨rfl,fun i h=>by cases h⟩
 | x :: l,[],h,_=>by simp at h
 | [],y :: r,h,_=>by simp at h
 | x :: l,y :: r,h,bD=>by
  obtain⟨ad,h1⟩:=bD 0 Bh Bh;obtain⟨cq,cB⟩:=XO l r (by simpa using h) fun i a b=>bD (i+1) (by simpa using a) (by simpa using b);simp only[List.getElem_cons_zero] at ad h1;by_cases aH:g y=true
  .have av:=h1.trans aH;simp only[List.filter_cons_of_pos av,List.filter_cons_of_pos aH];refine⟨by simp[cq],fun i a b=>?_⟩;cases i with
   | zero=>exact ad
   | succ i=>exact cB i (by simpa using a) (by simpa using b)
  .have av:¬f x=true:=fun e=>aH (h1.symm.trans e);simp only[List.filter_cons_of_neg av,List.filter_cons_of_neg aH];exact⟨cq,cB⟩
end a7
namespace Go.Proofs.R
open Go Go.RowKit a7
theorem afg(x:o.jk)(jV ho:B_)(m:o.Model)(i:Int)(iC ee:Nat)(w:A_)(j6:sP w ho (o.refs m))(hlen:(o.refs m).length<2147483648)(af:x.cmd = -1\/(0<=x.cmd/\x.cmd.toNat<(o.refs m).length))(fI:dc w jV x.to)
  (cf:w.heap[iC]? = some (.cells #[ho] T.g))(b1:w.heap[ee]? = some (.cells #[.I i] T.a)) :
  Dz F.b #[.agg #[.I x.cmd,.I x.way,jV],.pointer (some ⟨iC,0,none⟩),.pointer (some ⟨ee,0,none⟩)] w fun u w'=>u = .bool (!o.sy m i x)/\Ext w w':=by
 obtain⟨fm,gd,rfl,_⟩:=j6.form;obtain⟨ep,fp,rfl,_⟩:=fI.form;refine bl E.b ?_;rcases af with af | ⟨oj,ft⟩
 .have aq:o.sy m i x=false:=by unfold o.sy;rw[decide_eq_false Aw];rfl
  rw[aq,af];refine J ?_;intro w1 bR e9 ah bh;refine J ?_;intro aB aj;refine J ?_;exact⟨aL,ah.trans aj⟩
 .obtain⟨k,hk⟩:∃k:Nat,x.cmd=k:=⟨x.cmd.toNat,Aw⟩;have oh:k<(o.refs m).length:=Aw
  obtain⟨jI,rfl⟩:=j6.addr;have aq:o.sy m i x=decide ((o.refs m)[k].inst=i):=by
   unfold o.sy o.Aa;rw[decide_eq_true oj,AJ3,hk,AF4,List.getElem?_eq_getElem oh]
  rw[aq,hk];clear aq hk oj ft;refine J ?_;intro w1 bR e9 ah bh;replace cf:=ah.obj cf;replace b1:=ah.obj b1;replace j6:=j6.ext Flat.ext ah;refine J ?_;intro aB aj;exact⟨aL,ah.trans aj⟩
theorem ag6(ae:H_ Addr)(c nj s5:Nat)(w:A_)(h:bg 3 (Flat j2) w (.slice ae 0 c) ([]:C_ (e8 3))) :
  Dz F.f #[.slice ae 0 c,.func (.func F.b) #[] #[.pointer (some ⟨nj,0,none⟩),.pointer (some ⟨s5,0,none⟩)]] w fun v w'=>v = .slice ae 0 c/\Ext w w':=by
 refine vr E.f ?_;refine nV ?_;refine J ?_;refine J_ (Rb lz E.gd _ ([]:C_ (e8 3)) w h F.b Cq [] [_,_] (fun _=>true) ?_) ?_
 .rintro i U;cases U
 rintro _ w1 ⟨rfl,ah⟩;rw[show lR (fun _=>true) ([]:C_ (e8 3)) 0 = -1 from rfl];refine J ?_;exact⟨aL,ah⟩
def uw(m:o.Model)(i:Int)(c:e8 3):Bool:=match c.1 with
 | .int _ n :: _ => !(decide (0<=n)&&decide (o.Aa m n.toNat=i))
 | _=>false
theorem Nj(cs:C_ B_)(v:B_)(m:o.Model)(s:C_ Int)(w:A_)(h:o.dU w cs m)(aH:m.cA)(aJ:gF w)(ak:dc w v s) :
  Dz F.nX #[.agg cs.toArray,v] w fun u w'=>((o.hB m s/\∃i,o.sM m s i/\p1 w' u (o.lf m s i))\/(¬o.hB m s/\u = .slice none 0 0))/\Ext w w':=by
 have cX:=h;obtain⟨bW,bu,bI,c1,bO,c2,bQ,bp,bZ,bB,rfl,_⟩:=h.form;obtain⟨os,r2,rfl,_⟩:=ak.form;refine bl E.nX ?_;refine J ?_;intro w1 bP db ah au;refine J ?_;refine J_ (aik _ _ m s w1 (cX.ext ah) aH (aJ.ext ah) (ak.ext Flat.ext ah)) ?_;rintro u aB ⟨hO,aj⟩;replace au:=aj.obj au;have e2:=ah.trans aj;rcases hO with ⟨bD,pE⟩ | ⟨bD,rfl⟩
 rotate_left
 .refine J ?_;refine J_ (Hg _ _ m s aB (cX.ext e2) aH (aJ.ext e2) (ak.ext Flat.ext e2)) ?_;rintro _ aK ⟨⟨i,rfl,lS⟩,ag⟩;obtain rfl:=lS.bad bD;refine J ?_;intro wn ee gf fr eE;refine J ?_;intro aR dq b1;have aw:=dq.ext fr gf;clear eE;refine J ?_;exact⟨.inr ⟨bD,aL⟩,(e2.trans ag).trans aw⟩
 obtain⟨An,n1,rfl,_⟩:=pE.form;have lu:=o.iu bD.1;have aae:=o.tU lu.lim;refine J ?_;refine J_ (Hg _ _ m s aB (cX.ext e2) aH (aJ.ext e2) (ak.ext Flat.ext e2)) ?_;rintro _ aK ⟨⟨i,rfl,lS⟩,ag⟩;replace au:=ag.obj au;have a1:=e2.trans ag;refine J ?_;intro wn ee gf fr eE;refine J ?_;intro aR dq b1;have aw:=dq.ext fr gf;replace b1:aR.heap[ee]? = some (.cells #[.I i] T.a):=b1;clear eE;replace au:=aw.obj au;have bC:=a1.trans aw;have Qg:=(pE.ext ag).ext aw;have b4:=i_ pE.lt trivial;have z24:aB.heap.size<=aR.heap.size:=Ru ag.size aw.size;clear pE;refine J ?_;refine I_ (fun U=>?_) (fun U=>?_)
 .refine J ?_;exact⟨.inl ⟨bD,i,lS,by unfold o.lf;rw[if_pos U];exact Qg.jg⟩,bC⟩
 refine J ?_;refine J_ (yL _ m aR (cX.ext bC) lu.lim) ?_;rintro ho bo ⟨iZ,aF⟩;have j6:=aP.hA (enc:=o.Ref.enc) (fun _=>rfl) iZ;obtain⟨fm,gd,rfl,_⟩:=j6.form;replace b1:=aF.obj b1;have bF:=bC.trans aF;refine J ?_;intro wn iC ia fr eE;refine J ?_;intro bt gP cf;have aI:=gP.ext fr ia;replace cf:bt.heap[iC]? = some (.cells #[.slice fm (o.refs m).length gd] T.g):=cf;clear eE;replace b1:=aI.obj b1;replace j6:=j6.ext Flat.ext aI;have cg:=bF.trans aI;have Fj:=i_ (aP.ext aI iZ) trivial;have Jw:=(Qg.ext aF).ext aI;obtain⟨cd,az,c9,fS⟩:=Jw.ex;clear Qg iZ au;refine J ?_;have QD:∀t (h1:t<cd.length) (I:t<(o.gh m s).length),∃jV,cd[t].1=[.I (o.gh m s)[t].cmd,.I (o.gh m s)[t].way,jV]:=fun t h1 I=>by
  obtain⟨jV,ab,_⟩:=(fS t h1 I).here;exact⟨jV,ab⟩
 have Jg:∀t (h1:t<cd.length) (I:t<(o.gh m s).length),(!uw m i cd[t])=o.sy m i (o.gh m s)[t]:=fun t h1 I=>by
  obtain⟨jV,ab⟩:=QD t h1 I;unfold uw;rw[ab];simp only[Bool.not_not];rfl
 by_cases ad:cd=[]
 .subst ad;have ET:(o.gh m s).length=0:=by rw[<-az];rfl
  have zU:o.gh m s=[]:=AG1 ET;have wA:o.lf m s i=o.gh m s:=by unfold o.lf;rw[if_neg U,zU];rfl
  have kb:bg 3 (Flat j2) bt (.slice An 0 n1) ([]:C_ (e8 3)):=by have:=aP.jg j3 c9;rw[ET] at this;exact this
  have qj:Dz F.f #[.slice An (o.gh m s).length n1,.func (.func F.b) #[] #[.pointer (some ⟨iC,0,none⟩),.pointer (some ⟨ee,0,none⟩)]] bt fun v w'=>v = .slice An (o.gh m s).length n1/\Ext bt w':=by rw[ET];exact ag6 An n1 iC ee bt kb
  refine J_ qj ?_;rintro _ bG ⟨rfl,bm⟩;have tn:p1 bG (.slice An (o.gh m s).length n1) (o.lf m s i):=by rw[wA];exact(Jw.ext bm).jg
  have dI:=cg.trans bm;clear qj kb Jw c9 fS QD Jg;refine J ?_;exact⟨.inl ⟨bD,i,lS,tn⟩,dI⟩
 .obtain⟨b,c,aD,auo,lX,dv,nw⟩:=an8 c9 ad;injection aD with hg fa amm
  subst hg amm;have db:b<aR.heap.size:=AH7 (b4.1 b rfl).2 z24;have n7:iC≠b:=fun e=>by
   obtain⟨cur,cO,_⟩:=lX.ex;rw[<-e,cf] at cO;injection cO with cO
   injection cO with _ cO
   exact absurd cO BJ
  have n6:ee≠b:=fun e=>by
   obtain⟨cur,cO,_⟩:=lX.ex;rw[<-e,b1] at cO;injection cO with cO
   injection cO with _ cO
   exact absurd cO BJ
  have O3:∀t (h1:t<cd.length) (I:t<(o.gh m s).length) w',Mod (fun k=>k=b) bt w'->ug w' cd[t].1 (o.gh m s)[t]:=fun t h1 I w' hm=>(gS.mono (fS t h1 I) fun k _ hk=>.inl (by rw[hk];rfl)) w' hm;have aq:∀x∈cd,∀w',Mod (fun k=>k=b) bt w'->Dz F.b #[.agg x.1.toArray,.pointer (some ⟨iC,0,none⟩),.pointer (some ⟨ee,0,none⟩)] w' fun v bM=>v = .bool (uw m i x)/\Ext w' bM:=fun x af w' hm=>by
   obtain⟨t,h1,rfl⟩:=List.mem_iff_getElem.1 af;have I:t<(o.gh m s).length:=Aw
   obtain⟨jV,ai,fI⟩:=O3 t h1 I w' hm;have ajH:sP w' (.slice fm (o.refs m).length gd) (o.refs m):=aP.hA (enc:=o.Ref.enc) (fun _=>rfl) (aP.mod Fj.1 hm fun k hk e=>by have e':k=b:=e;have:=(aP.lt Fj.1 k hk).1;omega);have a6:=Jg t h1 I;have hc:uw m i cd[t] = !o.sy m i (o.gh m s)[t]:=by rw[<-a6,Bool.not_not]
   rw[ai,hc];exact afg _ jV _ m i iC ee w' ajH Aw (o.aof bD.1 (Gy I)) fI (hm.obj n7 cf) (hm.obj n6 b1)
  have qj:Dz F.f #[.slice (some ⟨b,0,none⟩) (o.gh m s).length n1,.func (.func F.b) #[] #[.pointer (some ⟨iC,0,none⟩),.pointer (some ⟨ee,0,none⟩)]] bt fun v w'=>v = .slice (some ⟨b,0,none⟩) (cd.filter fun x => !uw m i x).length n1/\im w' b (cd.filter fun x => !uw m i x)/\Mod (fun k=>k=b) bt w':=by rw[<-az];exact ag7 b n1 iC ee cd (uw m i) bt lX dv nw aq
  refine J_ qj ?_;rintro _ bG ⟨rfl,al8,ib⟩;obtain⟨f1,f2⟩:=XO (R:=fun(c:e8 3) x=>ug bG c.1 x) (f:=fun x => !uw m i x) (g:=o.sy m i) cd (o.gh m s) az fun t h1 I=>⟨O3 t h1 I bG ib,Jg t h1 I⟩;have wA:o.lf m s i=(o.gh m s).filter (o.sy m i):=by unfold o.lf;rw[if_neg U]
  have lv:(cd.filter fun x => !uw m i x).length<=n1:=Ru (AK6 _ _) dv;have tn:p1 bG (.slice (some ⟨b,0,none⟩) (cd.filter fun x => !uw m i x).length n1) (o.lf m s i):=by rw[wA];exact bg.FQ f1 (al8.jg lv nw) f2
  have dI:Ext w bG:=ib.ext cg fun k hk e=>by have:=(b4.1 b rfl).1;have:=ah.size;omega
  clear qj aq O3 Jw c9 fS QD Jg;refine J ?_;exact⟨.inl ⟨bD,i,lS,tn⟩,dI⟩
theorem aqd(v v2:B_)(l:C_ Int)(w:A_)(az:dc w v l)(hm:dc w v2 l):Dz F.J8 #[v,v2] w fun u w'=>u = .bool true/\Ext w w':=by
 obtain⟨aO,fz,rfl,_⟩:=az.form;obtain⟨yE,xT,rfl,_⟩:=hm.form;refine bl E.J8 ?_;refine J ?_;refine _P [0,1] (fun k:Nat=>[(5,.I k)]) 0 (fun k W=>k<=l.length/\Ext w W) (fun k=>l.length - k) a8 ⟨AG0 _,Ext.refl _⟩ ?_;rintro k S w1 ⟨hk,ah⟩;have oV:=az.ext Flat.ext ah;have ri:=hm.ext Flat.ext ah;refine J ?_;apply I_<;>intro g1;rotate_left
 .refine J ?_;exact⟨aL,ah⟩
 have cI:k<l.length:=Aw
 obtain⟨a,rfl⟩:=az.addr;obtain⟨a2,rfl⟩:=hm.addr;clear az hm;refine J ?_;intro aB aj;refine J ?_;exact⟨k+1,⟨aL,trivial⟩,⟨Aw,ah.trans aj⟩,Aw⟩
def aeH(w:A_):Prop := ∀w',Ext w w'->Dz F.FK #[] w' fun u bM=>u = .bool true/\Ext w' bM
end Go.Proofs.R
end
section
namespace o
open Go
def Ib:C_ Node:=[⟨1,1⟩]
def vR:Act:=⟨3,0,0,[],Ib⟩
def r6:dr:=⟨⟨#[117,112]⟩,0,1,[],[vR],false⟩
def vQ:Var:=⟨⟨#[97]⟩,0,0,0,1,0⟩
def BF:dw:=⟨⟨#[80]⟩,0,2,[vQ],[r6]⟩
def BG:dw:=⟨⟨#[81]⟩,0,2,[vQ],[r6]⟩
def ef:Model:=⟨[],[],[],[BF,BG],[]⟩
theorem x5:(check ef).cC=0:=by decide +kernel
theorem D2:insts ef=[⟨0,0⟩,⟨1,0⟩]:=by decide +kernel
theorem uy:refs ef=[⟨0,0⟩,⟨1,0⟩]:=by decide +kernel
theorem BE:ez ef 0 0 0 0:=⟨x5,BJ,by rw[uy];decide,by
 have e:∀h,(refs ef)[(0:Int).toNat]'h=⟨0,0⟩:=fun h=>by simp[uy]
 rw[e];exact⟨by rw[D2];decide,rfl,by simp[D2],BJ,rfl,BJ⟩⟩
theorem Ia:ez ef 1 1 1 0:=⟨x5,BJ,by rw[uy];decide,by
 have e:∀h,(refs ef)[(1:Int).toNat]'h=⟨1,0⟩:=fun h=>by simp[uy]
 rw[e];exact⟨by rw[D2];decide,rfl,by simp[D2],BJ,rfl,BJ⟩⟩
theorem ahW:ow ef 0 (bx ef 0 0) (bx ef 0 0).bE.length=[0]:=by decide +kernel
theorem ah0:l6 ef 0 (bx ef 0 0) (bx ef 0 0).bE.length=[0,1]:=by decide +kernel
theorem ahX:ow ef 1 (bx ef 1 0) (bx ef 1 0).bE.length=[2]:=by decide +kernel
theorem ah1:l6 ef 1 (bx ef 1 0) (bx ef 1 0).bE.length=[2,3]:=by decide +kernel
theorem ahY:vb ef=[]:=by decide +kernel
theorem ahZ{L:C_ (C_ Int×C_ Int)}(h:ng ef (refs ef).length L):L=[([0],[0,1]),([2],[2,3])]:=by
 have az:=h.len;rw[uy] at az
 match L,az with
 | [x,y],_ =>
  obtain⟨h1,I⟩:=(h.is 0 Bh).there _ _ _ BE;obtain⟨ab,aE⟩:=(h.is 1 Bh).there _ _ _ Ia;rw[ahW] at h1;rw[ah0] at I;rw[ahX] at ab;rw[ah1] at aE;have e1:=CF _ [0] h1.mZ BJ h1.mem;have e2:=CF _ [0,1] I.mZ BJ I.mem;have a1:=CF _ [2] ab.mZ BJ ab.mem;have bC:=CF _ [2,3] aE.mZ BJ aE.mem;simp only[List.getElem_cons_zero,List.getElem_cons_succ] at e1 e2 a1 bC;obtain⟨jW,kQ⟩:=x;obtain⟨kh,jX⟩:=y;simp only at e1 e2 a1 bC;subst e1 e2 a1 bC;rfl
theorem OA:fo ef 0 0:=BE.inst
theorem ahP:fo ef 1 1:=Ia.inst
theorem ahR{q:Nat}(ao:q<2){t:Bool}{L:C_ (C_ Int×C_ Int)}(ju:ng ef (refs ef).length L)(h:oK ef q 0 t):t=true:=by
 have c4:pg ef q 0:=by
  match q,ao with
  | 0,_=>exact FC x5 OA BJ BJ
  | 1,_=>exact FC x5 ahP BJ BJ
 have cM:=ahZ ju;refine(h.there c4 L ju).2 ?_;intro i U j aC b8 x y af bK;subst cM;have mm:j<2:=by rw[uy] at aC;exact aC
 obtain⟨ei,p,k,bq,e1,_⟩:=U;have qt:i<2:=by have:=bq.told.2.2;rw[uy] at this;simp at this;omega
 have gm:=bq.at_.ox;simp only[uy] at b8 gm
 match i,qt,j,mm with
 | 0,_,0,_=>simp at b8 gm;omega
 | 1,_,1,_=>simp at b8 gm;omega
 | 0,_,1,_ =>
  simp only[List.getElem?_cons_zero,List.getElem?_cons_succ,Option.some.injEq] at af bK;subst af bK;decide
 | 1,_,0,_ =>
  simp only[List.getElem?_cons_zero,List.getElem?_cons_succ,Option.some.injEq] at af bK;subst af bK;decide
theorem ah4:vR.cA:=by
 exact⟨o3 (by simp[vR]),o3 (by simp[vR]),o3 (by simp[vR]),by simp[vR,ea],by simp[vR,Ib,ea]⟩
theorem ah2:r6.cA:=by
 refine⟨o3 (by simp[r6]),o3 (by simp[r6]),by simp[r6,ea],by simp[r6,ea],?_⟩;intro b an;simp[r6] at an;subst an;exact ah4
theorem ahO:ef.cA:=by
 refine⟨by simp[ef,ea],by simp[ef,ea],by simp[ef,ea],by simp[ef,ea],by simp[ef,ea],by simp[ef],by simp[ef],by simp[ef],?_,by simp[ef]⟩;have aD:∀a∈[vQ],a.cA:=by
  intro a aU;simp at aU;subst aU;exact⟨o3 (by simp[vQ]),o3 (by simp[vQ]),o3 (by simp[vQ]),o3 (by simp[vQ]),o3 (by simp[vQ])⟩
 have ai:∀c∈[r6],c.cA:=by
  intro c ai;simp at ai;subst ai;exact ah2
 intro a aU;simp[ef] at aU;rcases aU with rfl | rfl
 .exact⟨o3 (by simp[BF]),o3 (by simp[BF]),by simp[BF,ea],by simp[BF,ea],aD,ai⟩
 .exact⟨o3 (by simp[BG]),o3 (by simp[BG]),by simp[BG,ea],by simp[BG,ea],aD,ai⟩
theorem ahS:(gh ef [1,1,1,1]).length=1:=by decide +kernel
theorem ahQ:(bU ef).map (fun c=>(c.aQ,c.U))=[(0,1),(0,1),(0,1),(0,1)]:=by decide +kernel
theorem XC{x:Int}(ad:0<=x)(h1:x<=1):Fits ef [x,x,x,x]:=by
 refine⟨by have:c6 ef=4:=(by decide +kernel);rw[this];rfl,fun i h=>absurd h (LC _),fun i h bk=>?_⟩;have e:=congrArg (fun l=>l[i]?) ahQ;simp only[List.getElem?_map,List.getElem?_eq_getElem bk,Option.map_some] at e
 match i,h,bk,e with
 | 0,_,_,e=>simp at e;simp[e.1,e.2];omega
 | 1,_,_,e=>simp at e;simp[e.1,e.2];omega
 | 2,_,_,e=>simp at e;simp[e.1,e.2];omega
 | 3,_,_,e=>simp at e;simp[e.1,e.2];omega
 | n+4,h,_,_=>simp at h;omega
theorem XF:hB ef [0,0,0,0]:=⟨x5,XC BJ BJ⟩
theorem XG:hB ef [1,1,1,1]:=⟨x5,XC BJ BJ⟩
theorem ahN:qL ef [0,0,0,0] 0:=by
 have az:u2 ef [0,0,0,0] 0=0:=by decide +kernel
 refine⟨?_,fun r aG=>?_,0,?_,?_⟩
 .rw[az];unfold Ct;refine(@decide_eq_true_iff _ (Classical.propDecidable _)).2 ⟨FC x5 OA BJ BJ,fun L ju=>?_⟩;have c4:pg ef ((0:Nat):Int) 0:=FC x5 OA BJ BJ
  have:=ahR (q:=0) BJ ju (oK.of (t := @decide (AW ef L ((0:Nat):Int) 0) (Classical.propDecidable _)) c4 ju (@decide_eq_true_iff _ (Classical.propDecidable _)))
  exact @of_decide_eq_true _ (Classical.propDecidable _) this
 .obtain⟨q,p,k,bq,_⟩:=aG;have I:=bq.told.2.2;rw[uy] at I;unfold xc;refine(@decide_eq_false_iff_not _ (Classical.propDecidable _)).2 ?_;rintro⟨ei,eX,k',a,b,q6,bD,hk | ⟨x,_,hk⟩⟩
  .have:r=0\/r=1:=by simp at I;omega
   rcases this with rfl | rfl
   .obtain⟨rfl,rfl,rfl⟩:=q6.one BE
    revert hk
    decide
   .obtain⟨rfl,rfl,rfl⟩:=q6.one Ia
    revert hk
    decide
  .rw[ahY] at hk;cases hk
 .rw[az];exact⟨0,0,0,BE,rfl,rfl⟩
 .exact⟨0,0,0,BE,by decide +kernel⟩
theorem XE{i:Int}(h:sM ef [0,0,0,0] i):i=0:=by
 have k:sM ef [0,0,0,0] 0:=⟨fun ax=>absurd XF ax,fun _ h=>absurd h BJ,fun _ _=>⟨by rw[D2];decide,ahN,fun j aC=>absurd aC (LC _)⟩⟩;exact h.eq k
theorem XD:(lf ef [0,0,0,0] 0).map (·.cmd)=[0]:=by decide +kernel
theorem ahU:fA ef [1,1,1,1] 0 (bx ef 0 0)=none:=by decide +kernel
theorem ahV:fA ef [1,1,1,1] 1 (bx ef 1 0)=none:=by decide +kernel
theorem ahT{i:Int}(h:sM ef [1,1,1,1] i):(lf ef [1,1,1,1] i).length=1:=by
 by_cases U:i<0
 .unfold lf;rw[if_pos U];exact ahS
 .obtain⟨_,dI,_⟩:=h.some XG Aw;obtain⟨r,_,q,p,k,bq,ax⟩:=dI.on;have I:=bq.told.2.2;rw[uy] at I
  have:r=0\/r=1:=by simp at I;omega
  rcases this with rfl | rfl
  .obtain⟨rfl,rfl,rfl⟩:=bq.one BE;exact absurd ahU ax
  .obtain⟨rfl,rfl,rfl⟩:=bq.one Ia;exact absurd ahV ax
end o
end
section
namespace Go.Proofs.R
open Go Go.RowKit a7
theorem anM(w:A_)(aJ:gF w):Dz F.FK #[] w fun v w'=>v = .bool true/\Ext w w':=by
 refine bl E.FK ?_;refine J ?_;intro w1 iC ia ah al;refine J ?_;intro aB j0 lT aj au;refine J ?_;intro aK pt BV ag bh;refine J ?_;intro aR s3 BW aw bf;refine J ?_;intro bo bP db aF bY;replace bY:bo.heap[bP]? = some (.cells #[.string ⟨#[80]⟩,.I 0,.I 2,.slice (some ⟨pt,0,none⟩) 1 1,.slice (some ⟨s3,0,none⟩) 1 1] T.k):=bY;refine J ?_;intro bt bR e9 aI b1;replace b1:bt.heap[bR]? = some (.cells #[.string ⟨#[80]⟩,.I 0,.I 2,.slice (some ⟨pt,0,none⟩) 1 1,.slice (some ⟨s3,0,none⟩) 1 1] T.k):=b1;have ake:=aI.obj bY;refine J ?_;intro bG dy cf;replace cf:bG.heap[bR]? = some (.cells #[.string ⟨#[81]⟩,.I 0,.I 2,.slice (some ⟨pt,0,none⟩) 1 1,.slice (some ⟨s3,0,none⟩) 1 1] T.k):=cf;have bm:Ext bo bG:=dy.ext aI e9;have akf:=bm.obj bY;clear b1 ake;refine J ?_;intro cQ Wq auf bA cn;refine J ?_;intro cS cx e3 bT dp;replace dp:cS.heap[cx]? = some (.cells #[.slice none 0 0,.slice none 0 0,.slice none 0 0,.slice (some ⟨Wq,0,none⟩) 2 2,.slice none 0 0] T.f):=dp;have Dd:=(bm.trans bA).trans bT;have gR:=(((ah.trans aj).trans ag).trans aw).trans (aF.trans Dd);have wK:=(((aj.trans ag).trans aw).trans (aF.trans Dd)).obj al;have Fx:=((ag.trans aw).trans (aF.trans Dd)).obj au;have Fw:=(aw.trans (aF.trans Dd)).obj bh;have aaV:=(aF.trans Dd).obj bf;have aaW:=bT.obj cn;have Rk:o.hR cS (.slice (some ⟨pt,0,none⟩) 1 1) [o.vQ]:=o.hR.cm Fw rfl BJ (by intro x af;simp only[List.mem_singleton] at af;subst af;decide);have aaZ:o.eL cS (.slice (some ⟨iC,0,none⟩) 1 1) o.Ib:=bg.cm (enc:=o.Node.enc) (fun _=>rfl) wK rfl BJ fun a x af ai=>⟨ai,o.ah3 x (by simp[o.Ib] at af;subst af;simp)⟩;have aaY:o.lK cS (.slice (some ⟨j0,0,none⟩) 1 1) [o.vR]:=bg.NG [⟨o.vR.enc (.slice none 0 0) (.slice (some ⟨iC,0,none⟩) 1 1),rfl,by simp[o.Act.enc,Value.oneCell']⟩] Fx rfl rfl rfl BJ (by
  intro i h1 I
  have:i=0:=by simp at h1;omega
  subst this;exact⟨_,_,rfl,bg.nil,aaZ⟩)
 have Rj:o.rO cS (.slice (some ⟨s3,0,none⟩) 1 1) [o.r6]:=bg.NG [⟨o.r6.enc (.slice none 0 0) (.slice (some ⟨j0,0,none⟩) 1 1),rfl,by simp[o.dr.enc,Value.oneCell']⟩] aaV rfl rfl rfl BJ (by
  intro i h1 I
  have:i=0:=by simp at h1;omega
  subst this;exact⟨(show o.jB o.r6.name by decide),_,_,rfl,bg.nil,aaY⟩)
 have aa0:o.qQ cS (.slice (some ⟨Wq,0,none⟩) 2 2) o.ef.procs:=bg.NG [⟨o.BF.enc (.slice (some ⟨pt,0,none⟩) 1 1) (.slice (some ⟨s3,0,none⟩) 1 1),rfl,by simp[o.dw.enc,Value.oneCell']⟩,⟨o.BG.enc (.slice (some ⟨pt,0,none⟩) 1 1) (.slice (some ⟨s3,0,none⟩) 1 1),rfl,by simp[o.dw.enc,Value.oneCell']⟩] aaW rfl rfl rfl BJ (by
  intro i h1 I
  match i,h1 with
  | 0,_=>exact⟨(show o.jB ⟨#[80]⟩ by decide),_,_,rfl,Rk,Rj⟩
  | 1,_=>exact⟨(show o.jB ⟨#[81]⟩ by decide),_,_,rfl,Rk,Rj⟩
  | n+2,h1=>simp at h1;omega)
 have aS:o.dU cS _ o.ef:=⟨_,_,_,_,_,rfl,bg.nil,bg.nil,bg.nil,aa0,bg.nil⟩;have aH:=o.ahO;clear wK Fx Fw aaV aaW Rk aaZ aaY Rj aa0 al au bh bf bY cf akf cn;refine J ?_;intro eG ND auh ch gu;replace gu:eG.heap[ND]? = some (.cells #[.I 0,.I 0,.I 0,.I 0] T.a):=gu;replace dp:=ch.obj dp;have xq:=gR.trans ch;have ak:dc eG (.slice (some ⟨ND,0,none⟩) 4 4) [0,0,0,0]:=bg.cm (enc:=cE) (fun _=>rfl) gu rfl BJ fun a x af ai=>ai;refine J ?_;refine J_ (Nj _ _ o.ef [0,0,0,0] eG (aS.ext ch) aH (aJ.ext xq) ak) ?_;rintro u fN ⟨hO,eg⟩;rcases hO with ⟨_,i,lS,pE⟩ | ⟨bD,_⟩
 rotate_left
 .exact absurd o.XF bD
 obtain rfl:=o.XE lS;have ic:(o.lf o.ef [0,0,0,0] 0).length=1:=by have:=congrArg List.length o.XD;simpa using this
 obtain⟨An,n1,rfl,_⟩:=pE.form;replace dp:=eg.obj dp;have sI:=xq.trans eg;have O2:=(aS.ext ch).ext eg;clear gu aS;refine J ?_;intro h2 Wr aui ev iF;replace iF:h2.heap[Wr]? = some (.cells #[.I 0,.I 0,.I 0,.I 0] T.a):=iF;replace dp:=ev.obj dp;have pX:=sI.trans ev;have dX:dc h2 (.slice (some ⟨Wr,0,none⟩) 4 4) [0,0,0,0]:=bg.cm (enc:=cE) (fun _=>rfl) iF rfl BJ fun a x af ai=>ai;refine J ?_;refine J_ (Hg _ _ o.ef [0,0,0,0] h2 (O2.ext ev) aH (aJ.ext pX) dX) ?_;rintro _ l5 ⟨⟨i,rfl,ajB⟩,hd⟩;obtain rfl:=o.XE ajB;replace dp:=hd.obj dp;have xr:=pX.trans hd;have Yx:=(O2.ext ev).ext hd;have Qf:=p1.ext hd (p1.ext ev pE);obtain⟨am,rfl⟩:=Qf.addr;obtain⟨jV,af,_⟩:=Qf.at 0 Aw;have z6:(o.lf o.ef [0,0,0,0] 0)[0].cmd=0:=by
  have:=congrArg (fun l=>l[0]?) o.XD
  simp only[List.getElem?_map,List.getElem?_eq_getElem (show 0<(o.lf o.ef [0,0,0,0] 0).length by omega),AG6,List.getElem?_cons_zero] at this;injection this
 clear pE Qf iF dX O2;refine J ?_;refine K_ 0 rfl Aw ?_;refine J ?_;intro vh Ws auk k7 oa;replace oa:vh.heap[Ws]? = some (.cells #[.I 1,.I 1,.I 1,.I 1] T.a):=oa;have yW:=xr.trans k7;have gH:dc vh (.slice (some ⟨Ws,0,none⟩) 4 4) [1,1,1,1]:=bg.cm (enc:=cE) (fun _=>rfl) oa rfl BJ fun a x af ai=>ai;refine J ?_;refine J_ (Nj _ _ o.ef [1,1,1,1] vh (Yx.ext k7) aH (aJ.ext yW) gH) ?_;rintro u Mi ⟨hO,qm⟩;rcases hO with ⟨_,i,ajC,ZU⟩ | ⟨bD,_⟩
 rotate_left
 .exact absurd o.XG bD
 have alr:=o.ahT ajC;obtain⟨avS,atO,rfl,_⟩:=ZU.form;clear gH oa Yx ZU;refine J ?_;exact⟨by first | trivial | rfl | (rw[alr];rfl),yW.trans qm⟩
end Go.Proofs.R
end
section
namespace o
open Go
def Lu(m:Model)(i:Int)(x:jk):Bool:=decide (i<0)||sy m i x
theorem apt(m:Model)(s:C_ Int)(i:Int):lf m s i=(gh m s).filter (Lu m i):=by
 unfold lf Lu;split
 .rename_i h;exact(List.filter_eq_self.2 fun x _=>by simp[h]).symm
 .rename_i h;simp[h]
theorem apu{m:Model}{i:Int}{x:jk}(U:0<=i)(h:Lu m i x=true):0<=x.cmd/\∃aG:x.cmd.toNat<(refs m).length,(refs m)[x.cmd.toNat].inst=i:=by
 unfold Lu sy at h;rw[Bool.or_eq_true,decide_eq_true_eq,Bool.and_eq_true,decide_eq_true_eq,decide_eq_true_eq] at h;rcases h with h | ⟨h1,I⟩
 .omega
 .refine⟨h1,?_⟩;unfold Aa at I;split at I
  .rename_i y bK;obtain⟨aG,rfl⟩:=List.getElem?_eq_some_iff.1 bK;exact⟨aG,I⟩
  .omega
end o
end
section
namespace Go.Proofs.R
open Go Go.RowKit a7
theorem anL{w:A_}(aJ:gF w):aeH w:=fun w' e=>anM w' (aJ.ext e)
theorem apw{m:o.Model}{s:C_ Int}{w:A_}{u:B_}(h:(o.hB m s/\∃i,o.sM m s i/\p1 w u (o.lf m s i))\/(¬o.hB m s/\u = .slice none 0 0)){i:Int}(U:o.sM m s i){l:C_ o.jk}
  (h1:o.hB m s->l=o.lf m s i)(I:¬o.hB m s->l=[]):p1 w u l:=by
 rcases h with ⟨bD,j,aC,hm⟩ | ⟨bD,rfl⟩
 .rw[h1 bD,<-aC.eq U];exact hm
 .rw[I bD];exact bg.nil
theorem anr(cs:C_ B_)(v:B_)(m:o.Model)(s:C_ Int)(w:A_)(h:o.dU w cs m)(aH:m.cA)(aJ:gF w)(ak:dc w v s) :
  Dz F.FJ #[.agg cs.toArray,v] w fun u w'=>u = .bool true/\Ext w w':=by
 have cX:=h;obtain⟨bW,bu,bI,c1,bO,c2,bQ,bp,bZ,bB,rfl,_⟩:=h.form;obtain⟨os,r2,rfl,_⟩:=ak.form;have cM:=i_ (anL aJ) trivial;refine bl E.FJ ?_;refine J ?_;intro w1 bP db ah au;refine J ?_;refine J_ (Hg _ _ m s w1 (cX.ext ah) aH (aJ.ext ah) (ak.ext Flat.ext ah)) ?_;rintro _ aB ⟨⟨i,rfl,lS⟩,aj⟩;replace au:=aj.obj au;have e2:=ah.trans aj;refine J ?_;apply I_<;>intro g1
 .refine J ?_;refine J_ (cM.1 aB e2) ?_;rintro _ aK ⟨rfl,ag⟩;refine J ?_;exact⟨aL,e2.trans ag⟩
 have bD:o.hB m s:=Classical.byContradiction fun ax=>by have:=lS.bad ax;omega
 have lu:=o.iu bD.1;obtain⟨q,rfl⟩:=Rt (show 0<=i by omega);obtain⟨ao,dI,_⟩:=lS.some bD Aw;rw[AF4] at ao dI;have aae:=o.tU lu.lim;refine J ?_;refine J_ (acK _ m aB (cX.ext e2) aH lu.lim) ?_;rintro ho aK ⟨iZ,ag⟩;have j6:=aP.hA (enc:=o.Ref.enc) (fun _=>rfl) iZ;obtain⟨fm,gd,rfl,avF⟩:=j6.form;replace au:=ag.obj au;have a1:=e2.trans ag;clear iZ;refine J ?_;refine J_ (Nj _ _ m s aK (cX.ext a1) aH (aJ.ext a1) (ak.ext Flat.ext a1)) ?_;rintro u aR ⟨hO,aw⟩;have aq:=apw hO lS (l:=o.lf m s q) (fun _=>rfl) (fun ax=>absurd bD ax);clear hO;obtain⟨op,DS,rfl,atH⟩:=aq.form;replace au:=aw.obj au;have bC:=a1.trans aw;have YC:=j6.ext Flat.ext aw;clear j6;have ft:∀{W},Ext aR W->W.heap[bP]? = _:=fun e=>e.obj au;refine J ?_;refine L_ 27 (o.lf m s q).length [1,2,5,6,25,26] (fun _:Unit=>[]) () (fun _ _ W=>Ext aR W) a8 a8 (Ext.refl _) ?_;clear au;rintro j _ S bo aC aF;have au:=ft aF;have bF:=bC.trans aF;have Z2:=p1.ext aF aq;refine J ?_;apply I_<;>intro g2;rotate_left
 .refine J ?_;refine J_ (cM.1 bo bF) ?_;rintro _ bt ⟨rfl,aI⟩;refine J ?_;exact⟨aL,bF.trans aI⟩
 have en:j<(o.lf m s q).length:=Aw
 obtain⟨ap,rfl⟩:=aq.addr;obtain⟨awj,zn,tL⟩:=Z2.at j en;obtain⟨x,af⟩:∃x,x=(o.lf m s q)[j]:=⟨_,rfl⟩;rw[<-af] at zn tL;obtain⟨Lt,eb,rfl,_⟩:=tL.form;refine J ?_;intro bt jJ nu aI cn;have hq:=aF.trans aI;have cg:=bC.trans hq;have abS:=tL.ext Flat.ext aI;have zF:=ft hq;clear au zn tL Z2;refine J ?_;refine J_ (aqb _ _ m s bt (cX.ext cg) aH (ak.ext Flat.ext cg) bD) ?_;rintro u bG ⟨pE,bm⟩;obtain⟨An,n1,rfl,atG⟩:=pE.form;have gx:=hq.trans bm;have c8:=bC.trans gx;have aoz:=abS.ext Flat.ext bm;have Q0:∀{W},Ext bG W->W.heap[jJ]? = _:=fun e=>e.obj (bm.obj cn);clear cn zF abS;refine J ?_;refine L_ 35 (o.gh m s).length [1,2,5,6,8,25,26,27,33,34] (fun _:Unit=>[]) () (fun _ _ W=>Ext bG W) a8 a8 (Ext.refl _) ?_;rintro k _ S cQ hk bA;have hr:=gx.trans bA;have eY:=bC.trans hr;have hT:=p1.ext bA pE;refine J ?_;apply I_<;>intro g3;rotate_left
 .refine J ?_;exact⟨en,aL,(),trivial,hr⟩
 have aV:k<(o.gh m s).length:=Aw
 obtain⟨am,rfl⟩:=pE.addr;obtain⟨y,bK⟩:∃y,y=(o.gh m s)[k]:=⟨_,rfl⟩;obtain⟨awk,zo,RM⟩:=hT.at k aV;rw[<-bK] at zo RM;obtain⟨avX,eu,rfl,_⟩:=RM.form;refine J ?_;intro cS qY wb bT gu;clear zo hT;have gR:=hr.trans bT;have jq:=bC.trans gR;have IT:=YC.ext Flat.ext gR;have au:=ft gR;have cn:=Q0 (bA.trans bT);have abT:=aoz.ext Flat.ext (bA.trans bT);have abU:=RM.ext Flat.ext bT;have Jp:∀{W},Ext cS W->Ext bG W:=fun e=>(bA.trans bT).trans e;refine J ?_;apply I_<;>intro g4
 .refine J ?_;exact⟨aV,aL,(),trivial,Jp (Ext.refl _)⟩
 refine J ?_;apply I_<;>intro g5
 .refine J ?_;exact⟨aV,aL,(),trivial,Jp (Ext.refl _)⟩
 obtain⟨jI,rfl⟩:=IT.addr;have aap:y.cmd.toNat<(o.refs m).length:=Aw
 refine J ?_;refine K_ y.cmd.toNat Aw aap ?_;refine J ?_;apply I_<;>intro g6
 .refine J ?_;exact⟨aV,aL,(),trivial,Jp (Ext.refl _)⟩
 have uQ:x∈o.lf m s q:=by rw[af];exact Gy en
 rw[o.apt] at uQ;obtain⟨amx,amy⟩:=List.mem_filter.1 uQ;obtain⟨t1,t2,t3⟩:=o.apu Aw amy;have amG:y∈o.gh m s:=by rw[bK];exact Gy aV
 have amj:=fun SL adI e1 e2 d1 d2=>o.apv (t1:=SL) (t2:=adI) (e1:=e1) (e2:=e2) bD dI amx amG t1 Aw (r:=x.cmd.toNat) (r':=y.cmd.toNat) Aw Aw t2 aap t3 g6 d1 d2;refine J ?_;refine J_ (acz _ _ m y.to x.cmd x.way cS (cX.ext jq) aH abU) ?_;rintro _ eG ⟨⟨v1,SL,f1,rfl,rk,pD⟩,ch⟩;obtain⟨avM,atI,rfl,_⟩:=rk.form;replace au:=ch.obj au;replace cn:=ch.obj cn;replace gu:=ch.obj gu;have abR:=abT.ext Flat.ext ch;have jo:=jq.trans ch;refine J ?_;refine J_ (acz _ _ m x.to y.cmd y.way eG (cX.ext jo) aH abR) ?_;rintro _ fN ⟨⟨v2,adI,f2,rfl,iH,hc⟩,eg⟩;obtain⟨abV,WB,rfl,_⟩:=iH.form;obtain⟨rfl,rfl,rfl⟩:=amj _ _ _ _ pD hc;replace rk:=rk.ext Flat.ext eg;have te:=jo.trans eg;clear au cn gu abT abU abR IT;refine J ?_;refine J_ (aqd _ _ SL fN rk iH) ?_;rintro _ h2 ⟨rfl,ev⟩;refine J ?_;exact⟨aV,aL,(),trivial,Jp ((ch.trans eg).trans ev)⟩
end Go.Proofs.R
end
section
namespace a7
open Go Go.RowKit Go.ChangeShapes Go.WideShapes Go.Deep
section
variable{H:Type}{enc:TypeId×Value->H}{P:Program}{w:World}{base:Nat}{spare:Nat->Bool}{held:Bool}
theorem vT{t:F_}{gE:Array Field}{n:Nat}{cs:C_ B_}{y:DataW H×C_ MemPlace}(aA:P.underlying t=some (.struct gE))(ts:oneCellFields P gE=true)(bq:P.cellsOf t=gE.size)
  (h:DataW.trod enc P w base spare held n t cs=some y):cs.length=gE.size/\∃ku ds,y.1 = .agg ds/\∀(j:Nat) (f:Field),gE[j]? = some f->∃v z,cs[j]? = some v/\DataW.trod enc P w base spare held ku f.type [v]=some z/\ds[j]? = some z.1:=by
 obtain⟨ys,ku,Jx,bK,hlen,Q6,av⟩:=DataW.trod_struct aA h;refine⟨Aw,ku,_,by rw[bK],fun j f aC=>?_⟩;obtain⟨aJ,hk⟩:=hone_of ts j f aC;have kK:j<gE.size:=(Array.getElem?_eq_some_iff.1 aC).1;have aD:cs[j]? = some (cs[j]' Aw):=List.getElem?_eq_getElem Aw;have h1:=av j f aC;rw[aJ,hk] at h1;have alH:(cs.drop j).take 1=[cs[j]' Aw]:=by
  rw[AF3 Aw];rfl
 rw[alH,List.getElem?_eq_getElem (l:=ys) Aw] at h1;exact⟨_,_,aD,h1,by rw[List.getElem?_map,List.getElem?_eq_getElem Aw];rfl⟩
def Small(P:D_)(t:F_)(d:DataW H):Prop := ∀q∈d.weights P t,q<=reachBytes
theorem Small.field{t u:F_}{gE:Array Field}{ds:C_ (DataW H)}{j:Nat}{d:DataW H}{f:Field}(h:Small P t (.agg ds))(aA:P.underlying t=some (.struct gE))(av:gE[j]? = some f)(hu:f.type=u)(a6:ds[j]? = some d):Small P u d:=by
 subst hu;intro q ao;refine h q ?_;simp only[DataW.weights,aA];exact DataW.weights_mem_each (j:=j) (by simp[av]) a6 q ao
theorem agd{α:Type}{R:A_->Addr->α->Prop}{t e:F_}{v:B_}{n:Nat}{z:DataW H×C_ MemPlace}(sz:Nat)(aA:P.underlying t=some (.slice e))(bq:P.cellsOf e=sz)(j5:0<P.bytesOf e)
  (bD:∀(a:Addr) (cs:C_ B_) (n:Nat) (y:DataW H×C_ MemPlace),e7 w a cs->cs.length=sz->DataW.trod enc P w 0 (fun _=>true) true n e cs=some y->∃x,R w a x)
  (h:DataW.trod enc P w 0 (fun _=>true) true n t [v]=some z):∃xs,bg sz R w v xs/\(Small P t z.1->xs.length<=140737488355328):=by
 rcases open_slice aA h with ⟨gk,_⟩ | ⟨a,len,cap,m,n,D,aeO,gk,an,az,hm,E0,af,U⟩
 .simp at gk;subst gk;exact⟨[],bg.nil,fun _=>Bh⟩
 .simp at gk;subst gk;simp only[if_true] at E0;subst E0;obtain⟨xs,tA,tB⟩:=Rw len (fun i x=>R w (a.add (i*sz)) x) fun i cw=>by
   obtain⟨iU,ai,sk⟩:=U i Aw;rw[bq] at ai;obtain⟨_,dv,k4⟩:=World.cells?_some ai;refine bD _ iU n _ (fun j u aC=>?_) dv sk;have P7:j<sz:=dv ▸ (List.getElem?_eq_some_iff.1 aC).1;rw[<-aC];exact k4 j P7
  refine⟨xs,⟨some a,_,by rw[tA],Aw,hm,fun _=>rfl,fun cp aU=>by injection aU with aU;subst aU;exact tB⟩,fun ak=>?_⟩;have h1:=ak ((len+(m - len))*P.bytesOf e) (by rw[af];simp[DataW.weights,aA]);have I:=reachBytes_lt;have ab:len<=(len+(m - len))*P.bytesOf e:=Ru (Nat.le_add_right len _) (Nat.le_mul_of_pos_right _ j5);rw[tA];omega
theorem afm{r:Reach}{mK:Nat}{t e:F_}{v:B_}{d:DataW H}{p:C_ MemPlace}(aA:P.underlying t=some (.slice e))(wE:Value.okWide P w r mK t v)(h:DataW.Trod enc P w 0 (fun _=>true) true t v d p) :
  ∃n,DataW.trod enc P w 0 (fun _=>true) true n t [v]=some (d,p):=by
 obtain⟨a0,avG,atL,rfl⟩:=okWide_slice aA wE;obtain⟨n,ax⟩:=h;exact⟨n,ax⟩
end
end a7
namespace Go.Proofs.R
open Go Go.RowKit a7 Go.ChangeShapes
variable{H:Type}{enc:TypeId×Value->H}{w:World}{cs:List Value}{n:Nat}{y:DataW H×List MemPlace}{v:Value}
theorem mA{z:Int}(h:(Lit.int .i64 z).wf=true):o.dP z:=by
 simp only[Lit.wf,Bool.and_eq_true,decide_eq_true_eq] at h;exact⟨h.1,h.2⟩
theorem aoo(h:DataW.trod enc Tryz.prog w 0 (fun _=>true) true n T.e cs=some y):∃x:o.Node,cs=x.enc/\x.ok:=by
 obtain⟨az,ku,ds,_,av⟩:=vT (t:=T.e) rfl Cq Cq h
 match cs,az with
 | [bu,c1],_ =>
  obtain⟨_,_,dS,ad,_⟩:=av 0 _ rfl;obtain⟨_,_,e1,h1,_⟩:=av 1 _ rfl;cases dS;cases e1;obtain⟨z0,dS,_,gv⟩:=DataW.trod_int (k:=.i64) Cq ad;obtain⟨gq,e1,_,cq⟩:=DataW.trod_int (k:=.i64) Cq h1;cases dS;cases e1;exact⟨⟨z0,gq⟩,rfl,mA gv,mA cq⟩
end Go.Proofs.R
end
section
namespace a7
open Go Go.RowKit Go.ChangeShapes Go.WideShapes Go.Deep
section
variable{H:Type}{enc:TypeId×Value->H}{P:Program}{w:World}{base:Nat}{spare:Nat->Bool}{held:Bool}
theorem ad8{e:F_}:∀{ds:C_ (DataW H)} {d:DataW H},d∈ds->∀n∈d.weights P e,n∈DataW.weightsAll P e ds
 | [],_,h=>by cases h
 | x :: r,d,h=>fun n ax=>by
  simp only[DataW.weightsAll];rcases List.mem_cons.1 h with rfl | h
  .exact AG3 _ ax
  .exact AF5 _ (ad8 h n ax)
theorem xU{α:Type}{R:A_->Addr->α->Prop}{G:α->Prop}{t e:F_}{v:B_}{n:Nat}{z:DataW H×C_ MemPlace}(sz B:Nat)(aA:P.underlying t=some (.slice e))(bq:P.cellsOf e=sz)(j5:P.bytesOf e=B)
  (bD:∀(a:Addr) (cs:C_ B_) (n:Nat) (y:DataW H×C_ MemPlace),e7 w a cs->cs.length=sz->DataW.trod enc P w 0 (fun _=>true) true n e cs=some y->∃x,R w a x/\(Small P e y.1->G x))
  (h:DataW.trod enc P w 0 (fun _=>true) true n t [v]=some z):∃xs,bg sz R w v xs/\(Small P t z.1->o.ea xs.length B/\∀x∈xs,G x):=by
 rcases open_slice aA h with ⟨gk,_⟩ | ⟨a,len,cap,m,n,D,aeO,gk,an,az,hm,E0,af,U⟩
 .simp at gk;subst gk;exact⟨[],bg.nil,fun _=>⟨by simp[o.ea],fun x af=>by cases af⟩⟩
 .simp at gk;subst gk;simp only[if_true] at E0;subst E0;obtain⟨xs,tA,tB⟩:=Rw len (fun i x=>R w (a.add (i*sz)) x/\(Small P e (D i)->G x)) fun i cw=>by
   obtain⟨iU,ai,sk⟩:=U i Aw;rw[bq] at ai;obtain⟨_,dv,k4⟩:=World.cells?_some ai;refine bD _ iU n _ (fun j u aC=>?_) dv sk;have P7:j<sz:=dv ▸ (List.getElem?_eq_some_iff.1 aC).1;rw[<-aC];exact k4 j P7
  refine⟨xs,⟨some a,_,by rw[tA],Aw,hm,fun _=>rfl,fun cp aU i U=>by injection aU with aU;subst aU;exact(tB i U).1⟩,fun ak=>⟨?_,fun x uO=>?_⟩⟩
  .have h1:=ak ((len+(m - len))*P.bytesOf e) (by rw[af];simp[DataW.weights,aA]);have I:len*B<=(len+(m - len))*P.bytesOf e:=by rw[j5];exact AI9 _ Aw
   have ab:reachBytes=140737488351232:=rfl;unfold o.ea;rw[tA];omega
  .obtain⟨i,cw,rfl⟩:=List.mem_iff_getElem.1 uO;refine(tB i cw).2 fun q ao=>ak q ?_;rw[af];simp only[DataW.weights,aA];refine AH6 _ (AG3 _ (ad8 ?_ q ao));exact List.mem_map.2 ⟨i,by simp;omega,rfl⟩
theorem aoS{r:Reach}{mK:Nat}{t:F_}{gE:Array Field}{v:B_}{d:DataW H}{p:C_ MemPlace}(aA:P.underlying t=some (.struct gE))
  (wE:Value.okWide P w r mK t v)(h:DataW.Trod enc P w base spare held t v d p):∃cs n,v = .agg cs/\DataW.trod enc P w base spare held n t cs.toList=some (d,p):=by
 obtain⟨cs,rfl,dd⟩:=okWide_struct aA wE;obtain⟨fuel,av⟩:=h;exact⟨cs,fuel,rfl,av⟩
end
end a7
namespace Go.Proofs.R
open Go Go.RowKit a7 Go.ChangeShapes
variable{H:Type}{enc:TypeId×Value->H}{w:World}{cs:List Value}{n:Nat}{y:DataW H×List MemPlace}{v:Value}
theorem ai9(h:DataW.trod enc Tryz.prog w 0 (fun _=>true) true n T.p7 cs=some y):∃x:o.Scalar,cs=x.enc/\o.jB x.name/\x.cA:=by
 obtain⟨az,ku,ds,_,av⟩:=vT (t:=T.p7) rfl Cq Cq h
 match cs,az with
 | [bu,c1],_ =>
  obtain⟨_,_,dS,ad,_⟩:=av 0 _ rfl;obtain⟨_,_,e1,h1,_⟩:=av 1 _ rfl;cases dS;cases e1;obtain⟨s,dS,_,ak⟩:=DataW.trod_string Cq ad;obtain⟨z,e1,_,cq⟩:=DataW.trod_int (k:=.i64) Cq h1;cases dS;cases e1;exact⟨⟨s,z⟩,rfl,ak,⟨mA cq⟩⟩
theorem ajc(h:DataW.trod enc Tryz.prog w 0 (fun _=>true) true n T.l cs=some y):∃x:o.Var,cs=x.enc/\o.jB x.name/\x.cA:=by
 obtain⟨az,ku,ds,_,av⟩:=vT (t:=T.l) rfl Cq Cq h
 match cs,az with
 | [bu,c1,c2,bp,bB,zf],_ =>
  obtain⟨_,_,dS,ad,_⟩:=av 0 _ rfl;obtain⟨_,_,e1,h1,_⟩:=av 1 _ rfl;obtain⟨_,_,e2,I,_⟩:=av 2 _ rfl;obtain⟨_,_,a1,ab,_⟩:=av 3 _ rfl;obtain⟨_,_,bC,aE,_⟩:=av 4 _ rfl;obtain⟨_,_,bF,aY,_⟩:=av 5 _ rfl;cases dS;cases e1;cases e2;cases a1;cases bC;cases bF;obtain⟨s,dS,_,ak⟩:=DataW.trod_string Cq ad;obtain⟨gq,e1,_,cq⟩:=DataW.trod_int (k:=.i64) Cq h1;obtain⟨z2,e2,_,cB⟩:=DataW.trod_int (k:=.i64) Cq I;obtain⟨z3,a1,_,e5⟩:=DataW.trod_int (k:=.i64) Cq ab;obtain⟨z4,bC,_,hK⟩:=DataW.trod_int (k:=.i64) Cq aE;obtain⟨z5,bF,_,uX⟩:=DataW.trod_int (k:=.i64) Cq aY;cases dS;cases e1;cases e2;cases a1;cases bC;cases bF;exact⟨⟨s,gq,z2,z3,z4,z5⟩,rfl,ak,⟨mA cq,mA cB,mA e5,mA hK,mA uX⟩⟩
theorem ai0(h:DataW.trod enc Tryz.prog w 0 (fun _=>true) true n T.u cs=some y):∃x:o.dg,cs=x.enc/\o.jB x.name/\x.cA:=by
 obtain⟨az,ku,ds,_,av⟩:=vT (t:=T.u) rfl Cq Cq h
 match cs,az with
 | [bu,c1,c2,bp,bB,zf],_ =>
  obtain⟨_,_,dS,ad,_⟩:=av 0 _ rfl;obtain⟨_,_,e1,h1,_⟩:=av 1 _ rfl;obtain⟨_,_,e2,I,_⟩:=av 2 _ rfl;obtain⟨_,_,a1,ab,_⟩:=av 3 _ rfl;obtain⟨_,_,bC,aE,_⟩:=av 4 _ rfl;obtain⟨_,_,bF,aY,_⟩:=av 5 _ rfl;cases dS;cases e1;cases e2;cases a1;cases bC;cases bF;obtain⟨s,dS,_,ak⟩:=DataW.trod_string Cq ad;obtain⟨gq,e1,_,cq⟩:=DataW.trod_int (k:=.i64) Cq h1;obtain⟨z2,e2,_,cB⟩:=DataW.trod_int (k:=.i64) Cq I;obtain⟨z3,a1,_,e5⟩:=DataW.trod_int (k:=.i64) Cq ab;obtain⟨z4,bC,_,hK⟩:=DataW.trod_int (k:=.i64) Cq aE;obtain⟨z5,bF,_⟩:=DataW.trod_bool Cq aY;cases dS;cases e1;cases e2;cases a1;cases bC;cases bF;exact⟨⟨s,gq,z2,z3,z4,z5⟩,rfl,ak,⟨mA cq,mA cB,mA e5,mA hK⟩⟩
theorem IH(h:DataW.trod enc Tryz.prog w 0 (fun _=>true) true n T.t [v]=some y):∃l,o.eL w v l/\(Small Tryz.prog T.t y.1->o.ea l.length 16/\∀x∈l,True) :=
 xU (G:=fun _=>True) (e:=T.e) 2 16 Cq Cq Cq (fun a cs n y ai az aA=>by obtain⟨x,rfl,af⟩:=aoo aA;exact⟨x,⟨ai,af⟩,fun _=>trivial⟩) h
theorem aja(h:DataW.trod enc Tryz.prog w 0 (fun _=>true) true n T.rX [v]=some y):∃l,o.h5 w v l/\(Small Tryz.prog T.rX y.1->o.ea l.length 24/\∀x∈l,x.cA) :=
 xU (e:=T.p7) 2 24 Cq Cq Cq (fun a cs n y ai az aA=>by obtain⟨x,rfl,af,aH⟩:=ai9 aA;exact⟨x,⟨ai,af⟩,fun _=>aH⟩) h
theorem Yd(h:DataW.trod enc Tryz.prog w 0 (fun _=>true) true n T.sU [v]=some y):∃l,o.hR w v l/\(Small Tryz.prog T.sU y.1->o.ea l.length 56/\∀x∈l,x.cA) :=
 xU (e:=T.l) 6 56 Cq Cq Cq (fun a cs n y ai az aA=>by obtain⟨x,rfl,af,aH⟩:=ajc aA;exact⟨x,⟨ai,af⟩,fun _=>aH⟩) h
theorem ai1(h:DataW.trod enc Tryz.prog w 0 (fun _=>true) true n T.sV [v]=some y):∃l,o.mC w v l/\(Small Tryz.prog T.sV y.1->o.ea l.length 56/\∀x∈l,x.cA) :=
 xU (e:=T.u) 6 56 Cq Cq Cq (fun a cs n y ai az aA=>by obtain⟨x,rfl,af,aH⟩:=ai0 aA;exact⟨x,⟨ai,af⟩,fun _=>aH⟩) h
theorem aiY{a:Addr}(ai:e7 w a cs)(h:DataW.trod enc Tryz.prog w 0 (fun _=>true) true n T.y cs=some y):∃x:o.Act,o.y3 w a x/\(Small Tryz.prog T.y y.1->x.cA):=by
 obtain⟨az,ku,ds,he,av⟩:=vT (t:=T.y) rfl Cq Cq h
 match cs,az with
 | [bu,c1,c2,bp,bB],_ =>
  obtain⟨_,_,dS,ad,_⟩:=av 0 _ rfl;obtain⟨_,_,e1,h1,_⟩:=av 1 _ rfl;obtain⟨_,_,e2,I,_⟩:=av 2 _ rfl;obtain⟨_,_,a1,ab,d3⟩:=av 3 _ rfl;obtain⟨_,_,bC,aE,d4⟩:=av 4 _ rfl;cases dS;cases e1;cases e2;cases a1;cases bC;obtain⟨z0,dS,_,gv⟩:=DataW.trod_int (k:=.i64) Cq ad;obtain⟨gq,e1,_,cq⟩:=DataW.trod_int (k:=.i64) Cq h1;obtain⟨z2,e2,_,cB⟩:=DataW.trod_int (k:=.i64) Cq I;cases dS;cases e1;cases e2;obtain⟨dY,ab,g3⟩:=IH ab;obtain⟨ew,aE,g4⟩:=IH aE;exact⟨⟨z0,gq,z2,dY,ew⟩,⟨bp,bB,ai,ab,aE⟩,fun ak=>by
   rw[he] at ak;exact⟨mA gv,mA cq,mA cB,(g3 (ak.field rfl rfl rfl d3)).1,(g4 (ak.field rfl rfl rfl d4)).1⟩⟩
theorem aiZ(h:DataW.trod enc Tryz.prog w 0 (fun _=>true) true n T.as [v]=some y):∃l,o.lK w v l/\(Small Tryz.prog T.as y.1->o.ea l.length 72/\∀x∈l,x.cA) :=
 xU (e:=T.y) 5 72 Cq Cq Cq (fun a cs n y ai az aA=>aiY ai aA) h
theorem ai2(h:DataW.trod enc Tryz.prog w 0 (fun _=>true) true n T.s cs=some y):∃x:o.dr,o.AS w cs x/\(Small Tryz.prog T.s y.1->x.cA):=by
 obtain⟨az,ku,ds,he,av⟩:=vT (t:=T.s) rfl Cq Cq h
 match cs,az with
 | [bu,c1,c2,bp,bB,zf],_ =>
  obtain⟨_,_,dS,ad,_⟩:=av 0 _ rfl;obtain⟨_,_,e1,h1,_⟩:=av 1 _ rfl;obtain⟨_,_,e2,I,_⟩:=av 2 _ rfl;obtain⟨_,_,a1,ab,d3⟩:=av 3 _ rfl;obtain⟨_,_,bC,aE,d4⟩:=av 4 _ rfl;obtain⟨_,_,bF,aY,_⟩:=av 5 _ rfl;cases dS;cases e1;cases e2;cases a1;cases bC;cases bF;obtain⟨s,dS,_,ak⟩:=DataW.trod_string Cq ad;obtain⟨gq,e1,_,cq⟩:=DataW.trod_int (k:=.i64) Cq h1;obtain⟨z2,e2,_,cB⟩:=DataW.trod_int (k:=.i64) Cq I;obtain⟨z5,bF,_⟩:=DataW.trod_bool Cq aY;cases dS;cases e1;cases e2;cases bF;obtain⟨dY,ab,g3⟩:=IH ab;obtain⟨ew,aE,g4⟩:=aiZ aE;exact⟨⟨s,gq,z2,dY,ew,z5⟩,⟨ak,bp,bB,rfl,ab,aE⟩,fun ak=>by
   rw[he] at ak;exact⟨mA cq,mA cB,(g3 (ak.field rfl rfl rfl d3)).1,(g4 (ak.field rfl rfl rfl d4)).1,(g4 (ak.field rfl rfl rfl d4)).2⟩⟩
theorem ai3(h:DataW.trod enc Tryz.prog w 0 (fun _=>true) true n T.s0 [v]=some y):∃l,o.rO w v l/\(Small Tryz.prog T.s0 y.1->o.ea l.length 88/\∀x∈l,x.cA) :=
 xU (e:=T.s) 6 88 Cq Cq Cq (fun a cs n y ai az aA=>by
  obtain⟨x,⟨ad,e6,dn,rfl,h1,I⟩,aH⟩:=ai2 aA;exact⟨x,⟨ad,e6,dn,ai,h1,I⟩,aH⟩) h
theorem ai6(h:DataW.trod enc Tryz.prog w 0 (fun _=>true) true n T.k cs=some y):∃x:o.dw,o.xD w cs x/\(Small Tryz.prog T.k y.1->x.cA):=by
 obtain⟨az,ku,ds,he,av⟩:=vT (t:=T.k) rfl Cq Cq h
 match cs,az with
 | [bu,c1,c2,bp,bB],_ =>
  obtain⟨_,_,dS,ad,_⟩:=av 0 _ rfl;obtain⟨_,_,e1,h1,_⟩:=av 1 _ rfl;obtain⟨_,_,e2,I,_⟩:=av 2 _ rfl;obtain⟨_,_,a1,ab,d3⟩:=av 3 _ rfl;obtain⟨_,_,bC,aE,d4⟩:=av 4 _ rfl;cases dS;cases e1;cases e2;cases a1;cases bC;obtain⟨s,dS,_,ak⟩:=DataW.trod_string Cq ad;obtain⟨gq,e1,_,cq⟩:=DataW.trod_int (k:=.i64) Cq h1;obtain⟨z2,e2,_,cB⟩:=DataW.trod_int (k:=.i64) Cq I;cases dS;cases e1;cases e2;obtain⟨dY,ab,g3⟩:=Yd ab;obtain⟨ew,aE,g4⟩:=ai3 aE;exact⟨⟨s,gq,z2,dY,ew⟩,⟨ak,bp,bB,rfl,ab,aE⟩,fun ak=>by
   rw[he] at ak;exact⟨mA cq,mA cB,(g3 (ak.field rfl rfl rfl d3)).1,(g4 (ak.field rfl rfl rfl d4)).1,(g3 (ak.field rfl rfl rfl d3)).2,(g4 (ak.field rfl rfl rfl d4)).2⟩⟩
theorem ai7(h:DataW.trod enc Tryz.prog w 0 (fun _=>true) true n T.sZ [v]=some y):∃l,o.qQ w v l/\(Small Tryz.prog T.sZ y.1->o.ea l.length 80/\∀x∈l,x.cA) :=
 xU (e:=T.k) 5 80 Cq Cq Cq (fun a cs n y ai az aA=>by
  obtain⟨x,⟨ad,e6,dn,rfl,h1,I⟩,aH⟩:=ai6 aA;exact⟨x,⟨ad,e6,dn,ai,h1,I⟩,aH⟩) h
theorem ai8(h:DataW.trod enc Tryz.prog w 0 (fun _=>true) true n T.jI [v]=some y):∃l,o.A2 w v l/\(Small Tryz.prog T.jI y.1->o.ea l.length 40/\∀x∈l,x.cA) :=
 xU (e:=T.xM) 2 40 Cq Cq Cq (fun a cs n y ai az aA=>by
  obtain⟨az,ku,ds,he,av⟩:=vT (t:=T.xM) rfl Cq Cq aA
  match cs,az with
  | [bu,c1],_ =>
   obtain⟨_,_,dS,ad,_⟩:=av 0 _ rfl;obtain⟨_,_,e1,h1,d1⟩:=av 1 _ rfl;cases dS;cases e1;obtain⟨s,dS,_,ak⟩:=DataW.trod_string Cq ad;cases dS;obtain⟨eh,h1,g1⟩:=IH h1;exact⟨⟨s,eh⟩,⟨ak,c1,ai,h1⟩,fun ak=>by rw[he] at ak;exact⟨(g1 (ak.field rfl rfl rfl d1)).1⟩⟩) h
theorem aoP{r:Reach}{mK:Nat}{v:B_}{d:DataW H}{p:C_ MemPlace}(wE:Value.okWide Tryz.prog w r mK T.f v)(h:DataW.Trod enc Tryz.prog w 0 (fun _=>true) true T.f v d p)(ak:Small Tryz.prog T.f d) :
  ∃cs m,v = .agg cs.toArray/\o.dU w cs m/\m.cA:=by
 obtain⟨cs,n,rfl,aA⟩:=aoS (t:=T.f) rfl wE h;obtain⟨az,ku,ds,rfl,av⟩:=vT (t:=T.f) rfl Cq Cq aA;obtain⟨cs⟩:=cs
 match cs,az with
 | [bu,c1,c2,bp,bB],_ =>
  obtain⟨_,_,dS,ad,d0⟩:=av 0 _ rfl;obtain⟨_,_,e1,h1,d1⟩:=av 1 _ rfl;obtain⟨_,_,e2,I,d2⟩:=av 2 _ rfl;obtain⟨_,_,a1,ab,d3⟩:=av 3 _ rfl;obtain⟨_,_,bC,aE,d4⟩:=av 4 _ rfl;cases dS;cases e1;cases e2;cases a1;cases bC;obtain⟨eU,dV,mK⟩:=aja ad;obtain⟨eh,dH,br⟩:=Yd h1;obtain⟨eo,df,bP⟩:=ai1 I;obtain⟨dY,eO,bR⟩:=ai7 ab;obtain⟨ew,fM,cx⟩:=ai8 aE;have gv:=mK (ak.field rfl rfl rfl d0);have cq:=br (ak.field rfl rfl rfl d1);have cB:=bP (ak.field rfl rfl rfl d2);have e5:=bR (ak.field rfl rfl rfl d3);have hK:=cx (ak.field rfl rfl rfl d4);exact⟨[bu,c1,c2,bp,bB],⟨eU,eh,eo,dY,ew⟩,rfl,⟨⟨bu,c1,c2,bp,bB,rfl,dV,dH,df,eO,fM⟩⟩,⟨gv.1,cq.1,cB.1,e5.1,hK.1,gv.2,cq.2,cB.2,e5.2,hK.2⟩⟩
end Go.Proofs.R
end
section
namespace Go.Proofs.R
open Go Go.RowKit a7 Go.ChangeShapes
variable{H:Type}{enc:TypeId×Value->H}{w:World}{r:Reach}{mK:Nat}{v:Value}{d:DataW H}{p:List MemPlace}
theorem amU{n:Nat}{y:DataW H×C_ MemPlace}(h:DataW.trod enc Tryz.prog w 0 (fun _=>true) true n T.b [v]=some y):∃l,oJ w v l/\(Small Tryz.prog T.b y.1->l.length<=140737488355328) :=
 agd (e:=T.a) 1 Cq Cq (by decide +kernel) (fun a cs n y ai az aA=>by
  obtain⟨z,e,_,anl⟩:=DataW.trod_int (k:=.i64) Cq aA;cases e;exact⟨z,ai,mA anl⟩) h
theorem open_ints(wE:Value.okWide Tryz.prog w r mK T.b v)(h:DataW.Trod enc Tryz.prog w 0 (fun _=>true) true T.b v d p):∃l,oJ w v l:=by
 obtain⟨n,ax⟩:=afm (e:=T.a) Cq wE h;obtain⟨l,az,_⟩:=amU ax;exact⟨l,az⟩
end Go.Proofs.R
end
section
namespace Go.Proofs.R
open Go Go.RowKit a7 Go.ChangeShapes
variable{H:Type}{enc:TypeId×Value->H}{w:World}{r:Reach}{mK:Nat}{v:Value}{d:DataW H}{p:List MemPlace}
theorem aoQ(wE:Value.okWide Tryz.prog w r mK T.b v)(h:DataW.Trod enc Tryz.prog w 0 (fun _=>true) true T.b v d p):∃l,bg 1 (Flat cE) w v l:=by
 obtain⟨l,az⟩:=open_ints wE h;obtain⟨aO,cap,e,h1,I,ab,aE⟩:=az.ex;exact⟨l,aO,cap,e,h1,I,ab,fun a aU i U=>(aE a aU i U).1⟩
end Go.Proofs.R
end
section
namespace Go.Proofs.R
open Go Go.RowKit a7 Go.ChangeShapes Go.WideShapes Go.Deep
theorem aws{H:Type}{enc:F_×B_->H}{r:Reach}{mK:Nat}{d0 d1:DataW H}{eB dB:C_ MemPlace}(v0 v1:B_)(W:A_)(aJ:gF W)
  (gv:Value.okWide Tryz.prog W r mK T.f v0)(ad:DataW.Trod enc Tryz.prog W 0 (fun _=>true) true T.f v0 d0 eB)(kf:Small Tryz.prog T.f d0)
  (cq:Value.okWide Tryz.prog W r mK T.b v1)(h1:DataW.Trod enc Tryz.prog W 0 (fun _=>true) true T.b v1 d1 dB)(_s1:Small Tryz.prog T.b d1) :
  Dz F.FJ #[v0,v1] W fun v w'=>v = .bool true/\Ext W w':=by
 obtain⟨cs,m,rfl,hm,aH⟩:=aoP gv ad kf;obtain⟨s,ak⟩:=aoQ cq h1;exact anr cs v1 m s W hm aH aJ ak
end Go.Proofs.R
end
section
namespace a7
open Go Go.RowKit Go.ChangeShapes
theorem avz{P:D_}{f:E_}{fn:Func}{s:ChangeSpec}{c:OpenClaim}(h1:(c.wf (OpenSpec.ofChange s)&&laidOutB P&&mapsRowed P)=true)
  (I:(fn.params.all (P.readableRec ·)&&namedTie P c.named s.vars)=true)(ab:((c.stops == [])&&(P.stops == [])&&(c.knobs == [])&&(P.stopKnobs == []))=true)
  (aE:(c.inPlace == P.inPlace f)=true)(aY:(c.unfollowed == P.unfollowed f)=true)(bz:(c.recurses == P.recurses f)=true)(b0:(c.named == P.varsNamed f)=true)
  (dF:((c.maps == (fn.params.toList++s.plain.varTypes P).any (P.mapsRec ·))&&(c.ifaces == (fn.params.toList++s.plain.varTypes P).any (P.ifacesRec ·))&&(c.mapsOut == P.mapsAmong fn.resultTypes.toList))=true)
  (js:((c.loops == (fn.params.toList++s.plain.varTypes P).any (P.loopsFrom ·))&&(c.wideKeys == (fn.params.toList++s.plain.varTypes P++fn.resultTypes.toList).any (P.wideKeysFrom ·)))=true)
  (kG:(s.vars.all (P.varReadable ·)&&fn.resultTypes.all (fun t=>P.readableRec t&&decide (t<P.types.size))&&(c.ifacesOut == fn.resultTypes.toList.any (P.ifacesRec ·))&&(c.loopsOut == fn.resultTypes.toList.any (P.loopsFrom ·)))=true)
  (II:(c.plainKeys == P.plainKeys)=true)(r7:(c.shortTexts.isNone&&P.stopsHeard)=true)(Eb:P.mayEnter=true)
  (Yg:((c.lifted == P.liftsFinal)&&(P.make == some c.make))=true)
  (nt:((c.kinds == (if c.domain.isEmpty then [] else fn.params.toList.map fun t=>match P.underlying t with | some (.int k)=>some k | _=>none))&&(c.pinned == c.pinnedBy))=true)
  (n3:((c.veiled == (fn.params.toList++s.plain.varTypes P++fn.resultTypes.toList).any (P.veiledRec ·))&&c.veiledFits P fn.params.toList (fn.params.toList++s.plain.varTypes P++fn.resultTypes.toList))=true) :
  joinedFacts P f fn s c=true:=by
 simp only[Bool.and_eq_true] at h1 I ab dF js kG r7 Yg nt n3;unfold joinedFacts;simp only[Bool.and_eq_true];obtain⟨⟨cZ,a2⟩,a3⟩:=h1;obtain⟨br,bP⟩:=I;obtain⟨⟨⟨d1,d2⟩,d3⟩,d4⟩:=ab;obtain⟨⟨e1,e2⟩,a1⟩:=dF;obtain⟨f1,f2⟩:=js;obtain⟨⟨⟨g1,g2⟩,g3⟩,g4⟩:=kG;obtain⟨i1,i2⟩:=r7;obtain⟨jP,hJ⟩:=Yg;obtain⟨cq,cB⟩:=nt;obtain⟨eh,eo⟩:=n3;exact⟨⟨⟨⟨⟨⟨⟨⟨⟨⟨⟨⟨⟨⟨⟨⟨⟨⟨⟨⟨⟨⟨⟨⟨⟨⟨⟨⟨⟨⟨⟨cZ,a2⟩,a3⟩,br⟩,bP⟩,d1⟩,d2⟩,d3⟩,d4⟩,aE⟩,aY⟩,bz⟩,b0⟩,e1⟩,e2⟩,a1⟩,f1⟩,f2⟩,g1⟩,g2⟩,g3⟩,g4⟩,II⟩,i1⟩,i2⟩,Eb⟩,jP⟩,hJ⟩,cq⟩,cB⟩,eh⟩,eo⟩
end a7
end