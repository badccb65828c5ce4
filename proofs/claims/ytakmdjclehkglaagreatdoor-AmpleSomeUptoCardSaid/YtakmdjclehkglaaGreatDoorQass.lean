/- Parts. -/
import Derived.Test.YtakmdjclehkglaaGreatDoorQasr
import Derived.SizedLaws
import Derived.Test.YtakmdjclehkglaaGreatDoorRows
import Derived.JoinedCond
set_option linter.all false
set_option maxRecDepth 8000
set_option maxHeartbeats 32000000
section
namespace ba
open Go Go.RowKit
instance aus:Rel (Flat (kf (sz:=3))) (λ_ cs x=>cs=kf x) 3 where
 out h:=⟨_,h,rfl⟩
 oG h k:=by subst k;exact h
 len h:=by rw[h];exact kg _
 one h:=by rw[h];exact tj _
 ext _ h:=h
theorem W9:∀(l:C_ (fj 3)) (i:Nat) (h:i<l.length) (j:Nat),j<3->(l.flatMap kf)[3*i+j]? = l[i].1[j]?
 | x :: l,0,h,j,aF=>by
  have:=kg x
  rw[AI0,Nat.mul_zero,AE8,List.getElem?_append_left AK];rfl
 | x :: l,i+1,h,j,aF=>by
  have:=kg x
  have fh:=W9 l i (by simpa using h) j aF;rw[AI0,List.getElem?_append_right AK,this,show 3*(i+1)+j - 3=3*i+j from AK,fh];rfl
end ba
namespace Go.Proofs.R
open Go Go.RowKit ba
theorem am3{w:A_}{base:Nat}{v:B_}{l:C_ (fj 3)}(h:pw T.k 3 base w v l)(aC:l≠[]):∃b c,v = .slice (some ⟨b,0,none⟩) l.length c/\base<=b/\iH w b l/\l.length<=c/\c<=maxLen:=by
 rcases h.2 with ⟨_,af⟩ | ⟨g,cap,cur,h1,I,ab,aH,a8,bE,cj⟩
 .exact absurd (AF9 af) aC
 .refine⟨g,cap,h1,I,⟨cur,ab,AK,λi U j aF=>?_⟩,aH,a8⟩;have get:∀j,j<3*l.length->cur[j]? = (l.flatMap kf)[j]? := λj aF=>by
   rw[<-cj,List.getElem?_take_of_lt AK,Array.getElem?_toList]
  rw[get _ AK];exact W9 l i U j aF
theorem iH.jD{w:A_}{b c:Nat}{l:C_ (fj 3)}(h:iH w b l)(an:l.length<=c)(hm:c<=maxLen):bn 3 (Flat kf) w (.slice (some ⟨b,0,none⟩) l.length c) l :=
 ⟨_,_,rfl,an,hm,λ_=>rfl,λa aV i U=>by
  injection aV with aV;subst aV
  have:=h.at_ U
  rw[show(⟨b,3*i,none⟩:Addr)=Addr.add ⟨b,0,none⟩ (i*3) from by rw[add_eq,AE8,AH8]] at this;exact this⟩
theorem af4(b c la o1:Nat)(l:C_ (fj 3))(p:fj 3->Bool)(w:A_)(h:iH w b l)(an:l.length<=c)(hm:c<=maxLen)
  (au:∀x∈l,∀w',Mod (λi=>i=b) w w'->DD F.e #[.agg x.1.toArray,.pointer (some ⟨la,0,none⟩),.pointer (some ⟨o1,0,none⟩)] w' λv bO=>v = .bool (p x)/\Ext w' bO) :
  DD F.j #[.slice (some ⟨b,0,none⟩) l.length c,.func (.func F.e) #[] #[.pointer (some ⟨la,0,none⟩),.pointer (some ⟨o1,0,none⟩)]] w λv w'=>v = .slice (some ⟨b,0,none⟩) (l.filter λx => !p x).length c/\iH w' b (l.filter λx => !p x)/\Mod (λi=>i=b) w w':=by
 have ako:=hm;unfold maxLen at hm;refine vA E.j ?_;refine oh ?_;refine J ?_;refine J_ (Ql lN E.DZ _ l w (h.jD an ako) F.e Ct [] [_,_] p ?_) ?_
 .rintro i U il w' e rfl;exact au _ (GR U) w' e.mod
 rintro _ w1 ⟨rfl,ai⟩;rcases W1 (p:=p) l 0 with ⟨ay,ar⟩ | ⟨k,hk,ay,akO,ar⟩
 .rw[ay];refine J ?_;exact⟨by rw[ar],by rw[ar];exact h.ext ai,ai.mod⟩
 rw[ay,AE8];refine J ?_;have o8:=h.ext ai;refine _P [0,1] (λx:Nat×Nat×C_ (fj 3)=>[(5,.I x.1),(6,.I x.2.1)]) (k,k+1,l) (λx W=>x.2.1<=l.length/\x.1<x.2.1/\x.2.2.length=l.length/\iH W b x.2.2/\Mod (λi=>i=b) w W/\x.2.2.take x.1=(l.take x.2.1).filter (λx => !p x)/\∀j,x.1<=j->x.2.2[j]? = l[j]?) (λx=>l.length - x.2.1) bc ⟨by simp only;omega,Nat.lt_succ_self _,rfl,o8,ai.mod,ar.symm,λ_ _=>rfl⟩ ?_;rintro⟨i,j,R⟩ Hz aN ⟨j2,hS,Ap,uY,yA,rE,uZ⟩;dsimp only at j2 hS Ap uY yA rE uZ ⊢;clear o8 ar ay akO;refine J ?_;apply I_<;>intro g3;rotate_left
 .have Pj:j=l.length:=AK
  rw[Pj,AF3] at rE;have oD:(l.filter λx => !p x).length=i:=by rw[<-rE,K9];omega
  refine J ?_;refine _B i l.length c (by simp[eG,de,bN]) (by simp[eG]) (by simp[eG]) ⟨AK,an,GA _⟩ Bs ?_;rw[if_neg (show ¬c=i by omega),AG3];refine J ?_;refine AE1 (k:=i) uY (by simp only[de,bN];rfl) AK (λ_=>by rw[add_eq,AE8,AH8]) λv aU jY nQ=>?_;rw[rE] at nQ;refine J ?_;refine _B 0 i c (by simp[eG]) (by simp[eG,de,bN]) (by simp[eG]) ⟨AK,AK,GA _⟩ Bs ?_;rw[if_neg (show ¬c=0 by omega),AG3];refine J ?_;exact⟨by rw[oD,add_eq];rfl,nQ,yA.trans jY⟩
 have sk:j<l.length:=AK
 have ny:(Addr.add ⟨b,0,none⟩ (j*3))=⟨b,3*j,none⟩:=by
  rw[add_eq,AE8,AH8]
 have ka:R[j]' AK=l[j]:=by
  have:=uZ j AK
  rw[List.getElem?_eq_getElem AK,List.getElem?_eq_getElem AK] at this;injection this
 obtain⟨x,ag⟩:∃x,x=l[j]:=⟨_,rfl⟩;have Aj:x∈l:=by rw[ag];exact GR _
 have d1:fi aN (Addr.add ⟨b,0,none⟩ (j*3)) x.1:=by
  rw[ny,ag,<-ka];exact uY.at_ _
 have rm:=WY (q:=λx => !p x) sk;rw[<-rE,<-ag] at rm;obtain⟨ks,jE,rR,bV⟩:∃ks jE rR,x.1=[ks,jE,rR]:=by
  have:=x.2.1
  match x.1,this with
  | [ks,jE,rR],_=>exact⟨ks,jE,rR,rfl⟩
 rw[bV] at d1;have QX:∀u∈(#[ks,jE,rR]:Array B_).toList,u.oneCell'=true:=by have:=x.2.2;rw[bV] at this;exact this
 have next:∀{W},iH W b R->Mod (λi=>i=b) w W->p x=true->(iH W b R/\Mod (λi=>i=b) w W/\R.take i=(l.take (j+1)).filter (λx => !p x)/\∀t,i<=t->R[t]? = l[t]?):=λdb a2 a3=>⟨db,a2,by rw[rm,a3];simp,uZ⟩
 have Gb:∀{W},iH W b (R.set i x)->Mod (λi=>i=b) w W->p x=false->(iH W b (R.set i x)/\Mod (λi=>i=b) w W/\(R.set i x).take (i+1)=(l.take (j+1)).filter (λx => !p x)/\∀t,i+1<=t->(R.set i x)[t]? = l[t]?):=λdb a2 a3=>⟨db,a2,by
  rw[rm,a3,Ly (by rw[AE9];omega),AK4,List.take_set_of_le (GA _)];simp,λt aB=>by
  rw[List.getElem?_set_ne AK];exact uZ t AK⟩
 clear rm rE ka;replace next:=i_ @next trivial
 replace Gb:=i_ @Gb trivial;replace au:=i_ au trivial;refine J ?_;intro aU hp ir ax ct;have al2:=uY.ext ax;have m4:=yA.trans ax.mod;have qs:=au.1 x Aj aU m4;rw[bV] at qs;have qs:DD F.e #[.agg #[ks,jE,rR],.pointer (some ⟨la,0,none⟩),.pointer (some ⟨o1,0,none⟩)] aU λv bO=>v = .bool (p x)/\Ext aU bO:=qs;clear d1 au;refine J ?_;refine V_ (first:=[]) (cap:=[.pointer (some ⟨la,0,none⟩),.pointer (some ⟨o1,0,none⟩)]) Ct qs ?_;clear qs;rintro _ bt ⟨rfl,aI⟩;have Jg:=aI.obj ct;have Z1:=al2.ext aI;have m5:=m4.trans aI.mod;clear ct;cases Ze:p x with
 | true =>
  have az:=next.1 Z1 m5 Ze
  clear next Gb
  refine J ?_;exact⟨(i,j+1,R),⟨aL,aL,trivial⟩,⟨by simp only;omega,by simp only;omega,Ap,az⟩,by simp only;omega⟩
 | false =>
  refine J ?_;refine AE0 (x:=x) (i:=i) Z1 (by rw[bV]) (by rw[add_eq,AE8,AH8]) AK λbz gV akp=>?_;have az:=Gb.1 akp (m5.trans (gV.mod rfl)) Ze;clear next Gb
  refine J ?_;exact⟨(i+1,j+1,R.set i x),⟨aL,aL,trivial⟩,⟨by simp only;omega,by simp only;omega,by rw[AE9];exact Ap,az⟩,by simp only;omega⟩
theorem kc.ext{w w':A_}{v:B_}{l:C_ o.iR}(he:Ext w w')(h:kc w v l):kc w' v l:=bn.ext (R:=y4) (λ_ _ _ _ he h=>y4.ext he h) he h
theorem apa(cs:C_ B_)(v:B_)(m:o.Model)(s:C_ Int)(w:A_)(h:o.eh w cs m)(aK:m.cK)(ak:dw w v s) :
  DD F.Ay #[.agg cs.toArray,v] w λu w'=>((o.gL m s/\kc w' u (o.gv m s))\/(¬o.gL m s/\u = .slice none 0 0))/\Ext w w':=by
 by_cases bH:o.gL m s
 .exact(ao9 cs v m s w h aK ak bH).mono λu w' ⟨h1,I⟩=>⟨.inl ⟨bH,h1⟩,I⟩
 have dc:=h;obtain⟨b6,bx,bR,c1,bX,c2,bZ,bu,ca,bC,rfl,_⟩:=h.form;obtain⟨os,r9,rfl,F5⟩:=ak.form;refine br E.Ay ?_;refine J ?_;intro w1 cC ff ai bp;refine J ?_;refine J_ (abA _ m w1 (dc.ext ai) aK) ?_;rintro _ aD ⟨hO,aj⟩;replace bp:=aj.obj bp;have aJ:=ai.trans aj;rcases hO with ⟨hk,rfl⟩ | ⟨hk,zs,rfl,eD⟩
 .unfold adl;refine J ?_;intro aN r4 yf ah kk;refine J ?_;exact⟨.inr ⟨bH,aL⟩,aJ.trans ah⟩
 have aW:=o.j3 hk;have Ex:=eD;obtain⟨eK,d0,dM,d1,et,d2,eB,d3,eL,d4,LR,g0,LS,g1,AS,g2,acZ,g3,AT,g4,cn,ci,fA,gp,rfl,_⟩:=eD.form;refine J ?_;intro aN r4 yf ah kk;have I6:=Ex.ext ah;have a7:=aJ.trans ah;refine J ?_;refine J_ (abB _ _ m s aN I6 aW (ak.ext Flat.ext a7)) ?_;rintro _ bt ⟨⟨t,rfl,aB⟩,aI⟩;cases t with
 | true=>exact absurd ⟨hk,aB.1 rfl⟩ bH
 | false =>
 refine J ?_;exact⟨.inr ⟨bH,aL⟩,a7.trans aI⟩
end Go.Proofs.R
end
section
namespace ba
open Go Go.RowKit
theorem WX{α β:Type}{R:α->β->Prop}{f:α->Bool}{g:β->Bool}:∀(l:C_ α) (r:C_ β),l.length=r.length->(∀i (h1:i<l.length) (I:i<r.length),R l[i] r[i]/\f l[i]=g r[i])->(l.filter f).length=(r.filter g).length/\∀i (h1:i<(l.filter f).length) (I:i<(r.filter g).length),R (l.filter f)[i] (r.filter g)[i]
 | [],[],_,_=>⟨rfl,λi h=>by cases h⟩
 | x :: l,[],h,_=>by simp at h
 | [],y :: r,h,_=>by simp at h
 | x :: l,y :: r,h,bH=>by
  obtain⟨af,h1⟩:=bH 0 Bs Bs;obtain⟨cE,cW⟩:=WX l r (by simpa using h) λi a b=>bH (i+1) (by simpa using a) (by simpa using b);simp only[List.getElem_cons_zero] at af h1;by_cases aK:g y=true
  .have ay:=h1.trans aK;simp only[List.filter_cons_of_pos ay,List.filter_cons_of_pos aK];refine⟨by simp[cE],λi a b=>?_⟩;cases i with
   | zero=>exact af
   | succ i=>exact cW i (by simpa using a) (by simpa using b)
  .have ay:¬f x=true:=λe=>aK (h1.symm.trans e);simp only[List.filter_cons_of_neg ay,List.filter_cons_of_neg aK];exact⟨cE,cW⟩
end ba
namespace Go.Proofs.R
open Go Go.RowKit ba
theorem aef(x:o.iR)(k1 hy:B_)(m:o.Model)(i:Int)(hp ez:Nat)(w:A_)(kj:sQ w hy (o.refs m))(hlen:(o.refs m).length<2147483648)(ag:x.cmd = -1\/(0<=x.cmd/\x.cmd.toNat<(o.refs m).length))(fM:dw w k1 x.to)
  (ct:w.heap[hp]? = some (.cells #[hy] T.c))(cb:w.heap[ez]? = some (.cells #[.I i] T.a)) :
  DD F.e #[.agg #[.I x.cmd,.I x.k2,k1],.pointer (some ⟨hp,0,none⟩),.pointer (some ⟨ez,0,none⟩)] w λu w'=>u = .bool (!o.pZ m i x)/\Ext w w':=by
 obtain⟨fA,gp,rfl,_⟩:=kj.form;obtain⟨eF,fB,rfl,_⟩:=fM.form;refine br E.e ?_;rcases ag with ag | ⟨oF,gW⟩
 .have au:o.pZ m i x=false:=by unfold o.pZ;rw[decide_eq_false AK];rfl
  rw[au,ag];refine J ?_;intro w1 bW fe ai bl;refine J ?_;intro aD aj;refine J ?_;exact⟨aL,ai.trans aj⟩
 .obtain⟨k,hk⟩:∃k:Nat,x.cmd=k:=⟨x.cmd.toNat,AK⟩;have oD:k<(o.refs m).length:=AK
  obtain⟨jG,rfl⟩:=kj.addr;have au:o.pZ m i x=decide ((o.refs m)[k].inst=i):=by
   unfold o.pZ o.yv;rw[decide_eq_true oF,AJ3,hk,AG9,List.getElem?_eq_getElem oD]
  rw[au,hk];clear au hk oF gW;refine J ?_;intro w1 bW fe ai bl;replace ct:=ai.obj ct;replace cb:=ai.obj cb;replace kj:=kj.ext Flat.ext ai;refine J ?_;intro aD aj;exact⟨aL,ai.trans aj⟩
theorem af3(ae:H_ Addr)(c la o1:Nat)(w:A_)(h:bn 3 (Flat kf) w (.slice ae 0 c) ([]:C_ (fj 3))) :
  DD F.j #[.slice ae 0 c,.func (.func F.e) #[] #[.pointer (some ⟨la,0,none⟩),.pointer (some ⟨o1,0,none⟩)]] w λv w'=>v = .slice ae 0 c/\Ext w w':=by
 refine vA E.j ?_;refine oh ?_;refine J ?_;refine J_ (Ql lN E.DZ _ ([]:C_ (fj 3)) w h F.e Ct [] [_,_] (λ_=>true) ?_) ?_
 .rintro i U;cases U
 rintro _ w1 ⟨rfl,ai⟩;rw[show l4 (λ_=>true) ([]:C_ (fj 3)) 0 = -1 from rfl];refine J ?_;exact⟨aL,ai⟩
def uD(m:o.Model)(i:Int)(c:fj 3):Bool:=match c.1 with
 | .int _ n :: _ => !(decide (0<=n)&&decide (o.yv m n.toNat=i))
 | _=>false
theorem MD(cs:C_ B_)(v:B_)(m:o.Model)(s:C_ Int)(w:A_)(h:o.eh w cs m)(aK:m.cK)(aO:gK w)(ak:dw w v s) :
  DD F.a0 #[.agg cs.toArray,v] w λu w'=>((o.gL m s/\∃i,o.qU m s i/\kc w' u (o.lQ m s i))\/(¬o.gL m s/\u = .slice none 0 0))/\Ext w w':=by
 have dc:=h;obtain⟨b6,bx,bR,c1,bX,c2,bZ,bu,ca,bC,rfl,_⟩:=h.form;obtain⟨os,r9,rfl,_⟩:=ak.form;refine br E.a0 ?_;refine J ?_;intro w1 bS dm ai av;refine J ?_;refine J_ (ahg _ _ m s w1 (dc.ext ai) aK (aO.ext ai) (ak.ext Flat.ext ai)) ?_;rintro u aD ⟨hO,aj⟩;replace av:=aj.obj av;have aJ:=ai.trans aj;rcases hO with ⟨bH,tx⟩ | ⟨bH,rfl⟩
 rotate_left
 .refine J ?_;refine J_ (HF _ _ m s aD (dc.ext aJ) aK (aO.ext aJ) (ak.ext Flat.ext aJ)) ?_;rintro _ aN ⟨⟨i,rfl,l5⟩,ah⟩;obtain rfl:=l5.bad bH;refine J ?_;intro wn ez gm fC eU;refine J ?_;intro aU dE cb;have ax:=dE.ext fC gm;clear eU;refine J ?_;exact⟨.inr ⟨bH,aL⟩,(aJ.trans ah).trans ax⟩
 obtain⟨CC,tc,rfl,_⟩:=tx.form;have na:=o.j3 bH.1;have ak4:=o.ve na.lim;refine J ?_;refine J_ (HF _ _ m s aD (dc.ext aJ) aK (aO.ext aJ) (ak.ext Flat.ext aJ)) ?_;rintro _ aN ⟨⟨i,rfl,l5⟩,ah⟩;replace av:=ah.obj av;have a7:=aJ.trans ah;refine J ?_;intro wn ez gm fC eU;refine J ?_;intro aU dE cb;have ax:=dE.ext fC gm;replace cb:aU.heap[ez]? = some (.cells #[.I i] T.a):=cb;clear eU;replace av:=ax.obj av;have bD:=a7.trans ax;have Pr:=(tx.ext ah).ext ax;have cg:=i_ tx.lt trivial;have z24:aD.heap.size<=aU.heap.size:=QB ah.size ax.size;clear tx;refine J ?_;refine I_ (λU=>?_) (λU=>?_)
 .refine J ?_;exact⟨.inl ⟨bH,i,l5,by unfold o.lQ;rw[if_pos U];exact Pr.jD⟩,bD⟩
 refine J ?_;refine J_ (yN _ m aU (dc.ext bD) na.lim) ?_;rintro hy bt ⟨jt,aI⟩;have kj:=aS.hE (enc:=o.Ref.enc) (λ_=>rfl) jt;obtain⟨fA,gp,rfl,_⟩:=kj.form;replace cb:=aI.obj cb;have bJ:=bD.trans aI;refine J ?_;intro wn hp ir fC eU;refine J ?_;intro bz gV ct;have aM:=gV.ext fC ir;replace ct:bz.heap[hp]? = some (.cells #[.slice fA (o.refs m).length gp] T.c):=ct;clear eU;replace cb:=aM.obj cb;replace kj:=kj.ext Flat.ext aM;have cv:=bJ.trans aM;have Ft:=i_ (aS.ext aM jt) trivial;have JE:=(Pr.ext aI).ext aM;obtain⟨cq,aC,dn,iL⟩:=JE.ex;clear Pr jt av;refine J ?_;have PM:∀t (h1:t<cq.length) (I:t<(o.gv m s).length),∃k1,cq[t].1=[.I (o.gv m s)[t].cmd,.I (o.gv m s)[t].k2,k1]:=λt h1 I=>by
  obtain⟨k1,ab,_⟩:=(iL t h1 I).here;exact⟨k1,ab⟩
 have Jo:∀t (h1:t<cq.length) (I:t<(o.gv m s).length),(!uD m i cq[t])=o.pZ m i (o.gv m s)[t]:=λt h1 I=>by
  obtain⟨k1,ab⟩:=PM t h1 I;unfold uD;rw[ab];simp only[Bool.not_not];rfl
 by_cases af:cq=[]
 .subst af;have E2:(o.gv m s).length=0:=by rw[<-aC];rfl
  have Ac:o.gv m s=[]:=AF9 E2;have wL:o.lQ m s i=o.gv m s:=by unfold o.lQ;rw[if_neg U,Ac];rfl
  have kp:bn 3 (Flat kf) bz (.slice CC 0 tc) ([]:C_ (fj 3)):=by have:=aS.jD kg dn;rw[E2] at this;exact this
  have qs:DD F.j #[.slice CC (o.gv m s).length tc,.func (.func F.e) #[] #[.pointer (some ⟨hp,0,none⟩),.pointer (some ⟨ez,0,none⟩)]] bz λv w'=>v = .slice CC (o.gv m s).length tc/\Ext bz w':=by rw[E2];exact af3 CC tc hp ez bz kp
  refine J_ qs ?_;rintro _ bK ⟨rfl,bq⟩;have tt:kc bK (.slice CC (o.gv m s).length tc) (o.lQ m s i):=by rw[wL];exact(JE.ext bq).jD
  have dW:=cv.trans bq;clear qs kp JE dn iL PM Jo;refine J ?_;exact⟨.inl ⟨bH,i,l5,tt⟩,dW⟩
 .obtain⟨b,c,aG,atr,ma,dY,mD⟩:=am3 dn af;injection aG with hs fl alm
  subst hs alm;have dm:b<aU.heap.size:=AH4 (cg.1 b rfl).2 z24;have n7:hp≠b:=λe=>by
   obtain⟨cur,cZ,_⟩:=ma.ex;rw[<-e,ct] at cZ;injection cZ with cZ
   injection cZ with _ cZ
   exact absurd cZ BN
  have n6:ez≠b:=λe=>by
   obtain⟨cur,cZ,_⟩:=ma.ex;rw[<-e,cb] at cZ;injection cZ with cZ
   injection cZ with _ cZ
   exact absurd cZ BN
  have Oe:∀t (h1:t<cq.length) (I:t<(o.gv m s).length) w',Mod (λk=>k=b) bz w'->uk w' cq[t].1 (o.gv m s)[t]:=λt h1 I w' hm=>(hc.mono (iL t h1 I) λk _ hk=>.inl (by rw[hk];rfl)) w' hm;have au:∀x∈cq,∀w',Mod (λk=>k=b) bz w'->DD F.e #[.agg x.1.toArray,.pointer (some ⟨hp,0,none⟩),.pointer (some ⟨ez,0,none⟩)] w' λv bO=>v = .bool (uD m i x)/\Ext w' bO:=λx ag w' hm=>by
   obtain⟨t,h1,rfl⟩:=List.mem_iff_getElem.1 ag;have I:t<(o.gv m s).length:=AK
   obtain⟨k1,an,fM⟩:=Oe t h1 I w' hm;have aiE:sQ w' (.slice fA (o.refs m).length gp) (o.refs m):=aS.hE (enc:=o.Ref.enc) (λ_=>rfl) (aS.mod Ft.1 hm λk hk e=>by have e':k=b:=e;have:=(aS.lt Ft.1 k hk).1;omega);have bb:=Jo t h1 I;have hJ:uD m i cq[t] = !o.pZ m i (o.gv m s)[t]:=by rw[<-bb,Bool.not_not]
   rw[an,hJ];exact aef _ k1 _ m i hp ez w' aiE AK (o.ana bH.1 (GR I)) fM (hm.obj n7 ct) (hm.obj n6 cb)
  have qs:DD F.j #[.slice (some ⟨b,0,none⟩) (o.gv m s).length tc,.func (.func F.e) #[] #[.pointer (some ⟨hp,0,none⟩),.pointer (some ⟨ez,0,none⟩)]] bz λv w'=>v = .slice (some ⟨b,0,none⟩) (cq.filter λx => !uD m i x).length tc/\iH w' b (cq.filter λx => !uD m i x)/\Mod (λk=>k=b) bz w':=by rw[<-aC];exact af4 b tc hp ez cq (uD m i) bz ma dY mD au
  refine J_ qs ?_;rintro _ bK ⟨rfl,ak7,iv⟩;obtain⟨f1,f2⟩:=WX (R:=λ(c:fj 3) x=>uk bK c.1 x) (f:=λx => !uD m i x) (g:=o.pZ m i) cq (o.gv m s) aC λt h1 I=>⟨Oe t h1 I bK iv,Jo t h1 I⟩;have wL:o.lQ m s i=(o.gv m s).filter (o.pZ m i):=by unfold o.lQ;rw[if_neg U]
  have lK:(cq.filter λx => !uD m i x).length<=tc:=QB (AK6 _ _) dY;have tt:kc bK (.slice (some ⟨b,0,none⟩) (cq.filter λx => !uD m i x).length tc) (o.lQ m s i):=by rw[wL];exact bn.Gd f1 (ak7.jD lK mD) f2
  have dW:Ext w bK:=iv.ext cv λk hk e=>by have:=(cg.1 b rfl).1;have:=ai.size;omega
  clear qs au Oe JE dn iL PM Jo;refine J ?_;exact⟨.inl ⟨bH,i,l5,tt⟩,dW⟩
theorem abC(v v2:B_)(l:C_ Int)(w:A_)(aC:dw w v l)(hm:dw w v2 l):DD F.Kg #[v,v2] w λu w'=>u = .bool true/\Ext w w':=by
 obtain⟨aQ,eZ,rfl,_⟩:=aC.form;obtain⟨xc,pK,rfl,_⟩:=hm.form;refine br E.Kg ?_;refine J ?_;refine _P [0,1] (λk:Nat=>[(5,.I k)]) 0 (λk W=>k<=l.length/\Ext w W) (λk=>l.length - k) bc ⟨AF6 _,Ext.refl _⟩ ?_;rintro k S w1 ⟨hk,ai⟩;have nf:=aC.ext Flat.ext ai;have o8:=hm.ext Flat.ext ai;refine J ?_;apply I_<;>intro g1;rotate_left
 .refine J ?_;exact⟨aL,ai⟩
 have cI:k<l.length:=AK
 obtain⟨a,rfl⟩:=aC.addr;obtain⟨a2,rfl⟩:=hm.addr;clear aC hm;refine J ?_;intro aD aj;refine J ?_;exact⟨k+1,⟨aL,trivial⟩,⟨AK,ai.trans aj⟩,AK⟩
theorem acj(v v2:B_)(l:C_ o.iR)(w:A_)(aC:kc w v l)(hm:kc w v2 l):DD F.K7 #[v,v2] w λu w'=>u = .bool true/\Ext w w':=by
 obtain⟨aQ,eZ,rfl,_⟩:=aC.form;obtain⟨xc,pK,rfl,_⟩:=hm.form;refine br E.K7 ?_;refine J ?_;refine L_ 13 l.length [0,1,12] (λ_:Unit=>[]) () (λ_ _ W=>Ext w W) bc bc (Ext.refl _) ?_;rintro k _ S w1 hk ai;have nf:=kc.ext ai aC;have o8:=kc.ext ai hm;refine J ?_;apply I_<;>intro g1;rotate_left
 .refine J ?_;exact⟨aL,ai⟩
 have cI:k<l.length:=AK
 obtain⟨a,rfl⟩:=aC.addr;obtain⟨a2,rfl⟩:=hm.addr;obtain⟨v1,d1,kX⟩:=nf.at k cI;obtain⟨LS,d2,j5⟩:=o8.at k cI;clear aC hm nf o8;refine J ?_;refine P_ (.bool true) (λw' e=>abC _ _ _ w' (kX.ext Flat.ext e) (j5.ext Flat.ext e)) ?_;refine J ?_;intro aD aj;refine J ?_;exact⟨cI,aL,(),trivial,ai.trans aj⟩
end Go.Proofs.R
end
section
namespace o
open Go
theorem aos(m:Model)(s:C_ Int):∃i:Int,qU m s i:=by
 by_cases bH:gL m s
 .by_cases dW:∃j:Nat,j<(insts m).length/\n3 m s j
  .have key:∀n j:Nat,j<=n->n3 m s j->∃t:Nat,t<=j/\n3 m s t/\∀u:Nat,u<t->¬n3 m s u:=by
    intro n
    induction n with
    | zero=>exact λj aF he=>⟨j,GA _,he,λu hu=>AK⟩
    | succ n fh =>
     intro j aF he;by_cases ag:∃u:Nat,u<j/\n3 m s u
     .obtain⟨u,hu,aj⟩:=ag;obtain⟨t,h1,I,ab⟩:=fh u AK aj;exact⟨t,AK,I,ab⟩
     .exact⟨j,GA _,he,λu hu alj=>ag ⟨u,hu,alj⟩⟩
   obtain⟨j,aF,he⟩:=dW;obtain⟨t,h1,I,ab⟩:=key j j (GA _) he;exact⟨t,⟨λh=>absurd bH h,λ_ h=>absurd h AK,λ_ _=>⟨AK,by simpa using I,by simpa using ab⟩⟩⟩
  .exact⟨-1,⟨λ_=>rfl,λ_ _=>⟨rfl,λj aF h=>dW ⟨j,aF,h⟩⟩,λ_ h=>absurd h AK⟩⟩
 .exact⟨-1,⟨λ_=>rfl,λh=>absurd h bH,λh=>absurd h bH⟩⟩
end o
namespace Go.Proofs.R
open Go Go.RowKit ba
def adH(w:A_):Prop := ∀w',Ext w w'->DD F.F7 #[] w' λu bO=>u = .bool true/\Ext w' bO
end Go.Proofs.R
end
section
namespace o
open Go
def Iq:C_ Node:=[⟨1,1⟩]
def wb:Act:=⟨3,0,0,[],Iq⟩
def sb:ea:=⟨⟨#[117,112]⟩,0,1,[],[wb],false⟩
def wa:Var:=⟨⟨#[97]⟩,0,0,0,1,0⟩
def BI:dJ:=⟨⟨#[80]⟩,0,2,[wa],[sb]⟩
def BJ:dJ:=⟨⟨#[81]⟩,0,2,[wa],[sb]⟩
def eA:Model:=⟨[],[],[],[BI,BJ],[]⟩
theorem x7:(check eA).cN=0:=by decide +kernel
theorem D8:insts eA=[⟨0,0⟩,⟨1,0⟩]:=by decide +kernel
theorem uF:refs eA=[⟨0,0⟩,⟨1,0⟩]:=by decide +kernel
theorem BH:fr eA 0 0 0 0:=⟨x7,BN,by rw[uF];decide,by
 have e:∀h,(refs eA)[(0:Int).toNat]'h=⟨0,0⟩:=λh=>by simp[uF]
 rw[e];exact⟨by rw[D8];decide,rfl,by simp[D8],BN,rfl,BN⟩⟩
theorem Ip:fr eA 1 1 1 0:=⟨x7,BN,by rw[uF];decide,by
 have e:∀h,(refs eA)[(1:Int).toNat]'h=⟨1,0⟩:=λh=>by simp[uF]
 rw[e];exact⟨by rw[D8];decide,rfl,by simp[D8],BN,rfl,BN⟩⟩
theorem agT:rL eA 0 (bT eA 0 0) (bT eA 0 0).bQ.length=[0]:=by decide +kernel
theorem agX:oP eA 0 (bT eA 0 0) (bT eA 0 0).bQ.length=[0,1]:=by decide +kernel
theorem agU:rL eA 1 (bT eA 1 0) (bT eA 1 0).bQ.length=[2]:=by decide +kernel
theorem agY:oP eA 1 (bT eA 1 0) (bT eA 1 0).bQ.length=[2,3]:=by decide +kernel
theorem agV:vg eA=[]:=by decide +kernel
theorem agW{L:C_ (C_ Int×C_ Int)}(h:nx eA (refs eA).length L):L=[([0],[0,1]),([2],[2,3])]:=by
 have aC:=h.len;rw[uF] at aC
 match L,aC with
 | [x,y],_ =>
  obtain⟨h1,I⟩:=(h.is 0 Bs).there _ _ _ BH;obtain⟨ab,aH⟩:=(h.is 1 Bs).there _ _ _ Ip;rw[agT] at h1;rw[agX] at I;rw[agU] at ab;rw[agY] at aH;have bB:=CJ _ [0] h1.ns BN h1.mem;have aJ:=CJ _ [0,1] I.ns BN I.mem;have a7:=CJ _ [2] ab.ns BN ab.mem;have bD:=CJ _ [2,3] aH.ns BN aH.mem;simp only[List.getElem_cons_zero,List.getElem_cons_succ] at bB aJ a7 bD;obtain⟨ka,k3⟩:=x;obtain⟨ks,jE⟩:=y;simp only at bB aJ a7 bD;subst bB aJ a7 bD;rfl
theorem NN:fY eA 0 0:=BH.inst
theorem agM:fY eA 1 1:=Ip.inst
theorem agO{q:Nat}(ar:q<2){t:Bool}{L:C_ (C_ Int×C_ Int)}(lI:nx eA (refs eA).length L)(h:oY eA q 0 t):t=true:=by
 have dg:pt eA q 0:=by
  match q,ar with
  | 0,_=>exact FK x7 NN BN BN
  | 1,_=>exact FK x7 agM BN BN
 have cY:=agW lI;refine(h.there dg L lI).2 ?_;intro i U j aF cz x y ag bV;subst cY;have mE:j<2:=by rw[uF] at aF;exact aF
 obtain⟨e3,p,k,bF,bB,_⟩:=U;have qA:i<2:=by have:=bF.told.2.2;rw[uF] at this;simp at this;omega
 have gu:=bF.at_.pk;simp only[uF] at cz gu
 match i,qA,j,mE with
 | 0,_,0,_=>simp at cz gu;omega
 | 1,_,1,_=>simp at cz gu;omega
 | 0,_,1,_ =>
  simp only[List.getElem?_cons_zero,List.getElem?_cons_succ,Option.some.injEq] at ag bV;subst ag bV;decide
 | 1,_,0,_ =>
  simp only[List.getElem?_cons_zero,List.getElem?_cons_succ,Option.some.injEq] at ag bV;subst ag bV;decide
theorem ag1:wb.cK:=by
 exact⟨pf (by simp[wb]),pf (by simp[wb]),pf (by simp[wb]),by simp[wb,ew],by simp[wb,Iq,ew]⟩
theorem agZ:sb.cK:=by
 refine⟨pf (by simp[sb]),pf (by simp[sb]),by simp[sb,ew],by simp[sb,ew],?_⟩;intro b ao;simp[sb] at ao;subst ao;exact ag1
theorem agL:eA.cK:=by
 refine⟨by simp[eA,ew],by simp[eA,ew],by simp[eA,ew],by simp[eA,ew],by simp[eA,ew],by simp[eA],by simp[eA],by simp[eA],?_,by simp[eA]⟩;have aG:∀a∈[wa],a.cK:=by
  intro a aV;simp at aV;subst aV;exact⟨pf (by simp[wa]),pf (by simp[wa]),pf (by simp[wa]),pf (by simp[wa]),pf (by simp[wa])⟩
 have an:∀c∈[sb],c.cK:=by
  intro c an;simp at an;subst an;exact agZ
 intro a aV;simp[eA] at aV;rcases aV with rfl | rfl
 .exact⟨pf (by simp[BI]),pf (by simp[BI]),by simp[BI,ew],by simp[BI,ew],aG,an⟩
 .exact⟨pf (by simp[BJ]),pf (by simp[BJ]),by simp[BJ,ew],by simp[BJ,ew],aG,an⟩
theorem agP:(gv eA [1,1,1,1]).length=1:=by decide +kernel
theorem agN:(b1 eA).map (λc=>(c.aR,c.U))=[(0,1),(0,1),(0,1),(0,1)]:=by decide +kernel
theorem WK{x:Int}(af:0<=x)(h1:x<=1):Fits eA [x,x,x,x]:=by
 refine⟨by have:dN eA=4:=(by decide +kernel);rw[this];rfl,λi h=>absurd h (K8 _),λi h bo=>?_⟩;have e:=congrArg (λl=>l[i]?) agN;simp only[List.getElem?_map,List.getElem?_eq_getElem bo,Option.map_some] at e
 match i,h,bo,e with
 | 0,_,_,e=>simp at e;simp[e.1,e.2];omega
 | 1,_,_,e=>simp at e;simp[e.1,e.2];omega
 | 2,_,_,e=>simp at e;simp[e.1,e.2];omega
 | 3,_,_,e=>simp at e;simp[e.1,e.2];omega
 | n+4,h,_,_=>simp at h;omega
theorem WN:gL eA [0,0,0,0]:=⟨x7,WK BN BN⟩
theorem WO:gL eA [1,1,1,1]:=⟨x7,WK BN BN⟩
theorem agK:n3 eA [0,0,0,0] 0:=by
 have aC:Aw eA [0,0,0,0] 0=0:=by decide +kernel
 refine⟨?_,λr aP=>?_,0,?_,?_⟩
 .rw[aC];unfold FL;refine(@decide_eq_true_iff _ (Classical.propDecidable _)).2 ⟨FK x7 NN BN BN,λL lI=>?_⟩;have dg:pt eA ((0:Nat):Int) 0:=FK x7 NN BN BN
  have:=agO (q:=0) BN lI (oY.of (t := @decide (Bb eA L ((0:Nat):Int) 0) (Classical.propDecidable _)) dg lI (@decide_eq_true_iff _ (Classical.propDecidable _)))
  exact @of_decide_eq_true _ (Classical.propDecidable _) this
 .obtain⟨q,p,k,bF,_⟩:=aP;have I:=bF.told.2.2;rw[uF] at I;unfold xo;refine(@decide_eq_false_iff_not _ (Classical.propDecidable _)).2 ?_;rintro⟨e3,gB,k',a,b,uK,bH,hk | ⟨x,_,hk⟩⟩
  .have:r=0\/r=1:=by simp at I;omega
   rcases this with rfl | rfl
   .obtain⟨rfl,rfl,rfl⟩:=uK.one BH
    revert hk
    decide
   .obtain⟨rfl,rfl,rfl⟩:=uK.one Ip
    revert hk
    decide
  .rw[agV] at hk;cases hk
 .rw[aC];exact⟨0,0,0,BH,rfl,rfl⟩
 .exact⟨0,0,0,BH,by decide +kernel⟩
theorem WM{i:Int}(h:qU eA [0,0,0,0] i):i=0:=by
 have k:qU eA [0,0,0,0] 0:=⟨λaz=>absurd WN az,λ_ h=>absurd h BN,λ_ _=>⟨by rw[D8];decide,agK,λj aF=>absurd aF (K8 _)⟩⟩;exact h.eq k
theorem WL:(lQ eA [0,0,0,0] 0).map (·.cmd)=[0]:=by decide +kernel
theorem agR:hF eA [1,1,1,1] 0 (bT eA 0 0)=none:=by decide +kernel
theorem agS:hF eA [1,1,1,1] 1 (bT eA 1 0)=none:=by decide +kernel
theorem agQ{i:Int}(h:qU eA [1,1,1,1] i):(lQ eA [1,1,1,1] i).length=1:=by
 by_cases U:i<0
 .unfold lQ;rw[if_pos U];exact agP
 .obtain⟨_,dW,_⟩:=h.some WO AK;obtain⟨r,_,q,p,k,bF,az⟩:=dW.on;have I:=bF.told.2.2;rw[uF] at I
  have:r=0\/r=1:=by simp at I;omega
  rcases this with rfl | rfl
  .obtain⟨rfl,rfl,rfl⟩:=bF.one BH;exact absurd agR az
  .obtain⟨rfl,rfl,rfl⟩:=bF.one Ip;exact absurd agS az
end o
end
section
namespace Go.Proofs.R
open Go Go.RowKit ba
theorem amG(w:A_)(aO:gK w):DD F.F7 #[] w λv w'=>v = .bool true/\Ext w w':=by
 refine br E.F7 ?_;refine J ?_;intro w1 hp ir ai al;refine J ?_;intro aD ik l6 aj av;refine J ?_;intro aN o0 zP ah bl;refine J ?_;intro aU s6 BZ ax bp;refine J ?_;intro bt bS dm aI b9;replace b9:bt.heap[bS]? = some (.cells #[.string ⟨#[80]⟩,.I 0,.I 2,.slice (some ⟨o0,0,none⟩) 1 1,.slice (some ⟨s6,0,none⟩) 1 1] T.l):=b9;refine J ?_;intro bz bW fe aM cb;replace cb:bz.heap[bW]? = some (.cells #[.string ⟨#[80]⟩,.I 0,.I 2,.slice (some ⟨o0,0,none⟩) 1 1,.slice (some ⟨s6,0,none⟩) 1 1] T.l):=cb;have aja:=aM.obj b9;refine J ?_;intro bK dL ct;replace ct:bK.heap[bW]? = some (.cells #[.string ⟨#[81]⟩,.I 0,.I 2,.slice (some ⟨o0,0,none⟩) 1 1,.slice (some ⟨s6,0,none⟩) 1 1] T.l):=ct;have bq:Ext bt bK:=dL.ext aM fe;have ajb:=bq.obj b9;clear cb aja;refine J ?_;intro c4 VA ati bG cG;refine J ?_;intro c6 cC ff b5 dD;replace dD:c6.heap[cC]? = some (.cells #[.slice none 0 0,.slice none 0 0,.slice none 0 0,.slice (some ⟨VA,0,none⟩) 2 2,.slice none 0 0] T.d):=dD;have Df:=(bq.trans bG).trans b5;have gk:=(((ai.trans aj).trans ah).trans ax).trans (aI.trans Df);have wX:=(((aj.trans ah).trans ax).trans (aI.trans Df)).obj al;have FE:=((ah.trans ax).trans (aI.trans Df)).obj av;have FD:=(ax.trans (aI.trans Df)).obj bl;have Z3:=(aI.trans Df).obj bp;have Z4:=b5.obj cG;have Qs:o.h3 c6 (.slice (some ⟨o0,0,none⟩) 1 1) [o.wa]:=o.h3.cx FD rfl BN (by intro x ag;simp only[List.mem_singleton] at ag;subst ag;decide);have Z7:o.eS c6 (.slice (some ⟨hp,0,none⟩) 1 1) o.Iq:=bn.cx (enc:=o.Node.enc) (λ_=>rfl) wX rfl BN λa x ag an=>⟨an,o.ag0 x (by simp[o.Iq] at ag;subst ag;simp)⟩;have Z6:o.lX c6 (.slice (some ⟨ik,0,none⟩) 1 1) [o.wb]:=bn.MW [⟨o.wb.enc (.slice none 0 0) (.slice (some ⟨hp,0,none⟩) 1 1),rfl,by simp[o.Act.enc,Value.oneCell']⟩] FE rfl rfl rfl BN (by
  intro i h1 I
  have:i=0:=by simp at h1;omega
  subst this;exact⟨_,_,rfl,bn.nil,Z7⟩)
 have Qr:o.rV c6 (.slice (some ⟨s6,0,none⟩) 1 1) [o.sb]:=bn.MW [⟨o.sb.enc (.slice none 0 0) (.slice (some ⟨ik,0,none⟩) 1 1),rfl,by simp[o.ea.enc,Value.oneCell']⟩] Z3 rfl rfl rfl BN (by
  intro i h1 I
  have:i=0:=by simp at h1;omega
  subst this;exact⟨(show o.jN o.sb.name by decide),_,_,rfl,bn.nil,Z6⟩)
 have Z8:o.qV c6 (.slice (some ⟨VA,0,none⟩) 2 2) o.eA.procs:=bn.MW [⟨o.BI.enc (.slice (some ⟨o0,0,none⟩) 1 1) (.slice (some ⟨s6,0,none⟩) 1 1),rfl,by simp[o.dJ.enc,Value.oneCell']⟩,⟨o.BJ.enc (.slice (some ⟨o0,0,none⟩) 1 1) (.slice (some ⟨s6,0,none⟩) 1 1),rfl,by simp[o.dJ.enc,Value.oneCell']⟩] Z4 rfl rfl rfl BN (by
  intro i h1 I
  match i,h1 with
  | 0,_=>exact⟨(show o.jN ⟨#[80]⟩ by decide),_,_,rfl,Qs,Qr⟩
  | 1,_=>exact⟨(show o.jN ⟨#[81]⟩ by decide),_,_,rfl,Qs,Qr⟩
  | n+2,h1=>simp at h1;omega)
 have aW:o.eh c6 _ o.eA:=⟨_,_,_,_,_,rfl,bn.nil,bn.nil,bn.nil,Z8,bn.nil⟩;have aK:=o.agL;clear wX FE FD Z3 Z4 Qs Z7 Z6 Qr Z8 al av bl bp b9 ct ajb cG;refine J ?_;intro eO MU atk cr kk;replace kk:eO.heap[MU]? = some (.cells #[.I 0,.I 0,.I 0,.I 0] T.a):=kk;replace dD:=cr.obj dD;have xB:=gk.trans cr;have ak:dw eO (.slice (some ⟨MU,0,none⟩) 4 4) [0,0,0,0]:=bn.cx (enc:=cL) (λ_=>rfl) kk rfl BN λa x ag an=>an;refine J ?_;refine J_ (MD _ _ o.eA [0,0,0,0] eO (aW.ext cr) aK (aO.ext xB) ak) ?_;rintro u gy ⟨hO,e6⟩;rcases hO with ⟨_,i,l5,tx⟩ | ⟨bH,_⟩
 rotate_left
 .exact absurd o.WN bH
 obtain rfl:=o.WM l5;have iw:(o.lQ o.eA [0,0,0,0] 0).length=1:=by have:=congrArg List.length o.WL;simpa using this
 obtain⟨CC,tc,rfl,_⟩:=tx.form;replace dD:=e6.obj dD;have sJ:=xB.trans e6;have Od:=(aW.ext cr).ext e6;clear kk aW;refine J ?_;intro ji VB atl fb iX;replace iX:ji.heap[VB]? = some (.cells #[.I 0,.I 0,.I 0,.I 0] T.a):=iX;replace dD:=fb.obj dD;have qc:=sJ.trans fb;have ep:dw ji (.slice (some ⟨VB,0,none⟩) 4 4) [0,0,0,0]:=bn.cx (enc:=cL) (λ_=>rfl) iX rfl BN λa x ag an=>an;refine J ?_;refine J_ (HF _ _ o.eA [0,0,0,0] ji (Od.ext fb) aK (aO.ext qc) ep) ?_;rintro _ mR ⟨⟨i,rfl,aiy⟩,hL⟩;obtain rfl:=o.WM aiy;replace dD:=hL.obj dD;have xC:=qc.trans hL;have XI:=(Od.ext fb).ext hL;have Pq:=kc.ext hL (kc.ext fb tx);obtain⟨am,rfl⟩:=Pq.addr;obtain⟨k1,ag,_⟩:=Pq.at 0 AK;have Fv:(o.lQ o.eA [0,0,0,0] 0)[0].cmd=0:=by
  have:=congrArg (λl=>l[0]?) o.WL
  simp only[List.getElem?_map,List.getElem?_eq_getElem (show 0<(o.lQ o.eA [0,0,0,0] 0).length by omega),AG3,List.getElem?_cons_zero] at this;injection this
 clear tx Pq iX ep Od;refine J ?_;refine K_ 0 rfl AK ?_;refine J ?_;intro vn VC atn lr ox;replace ox:vn.heap[VC]? = some (.cells #[.I 1,.I 1,.I 1,.I 1] T.a):=ox;have y0:=xC.trans lr;have gO:dw vn (.slice (some ⟨VC,0,none⟩) 4 4) [1,1,1,1]:=bn.cx (enc:=cL) (λ_=>rfl) ox rfl BN λa x ag an=>an;refine J ?_;refine J_ (MD _ _ o.eA [1,1,1,1] vn (XI.ext lr) aK (aO.ext y0) gO) ?_;rintro u L2 ⟨hO,qu⟩;rcases hO with ⟨_,i,aiz,Y3⟩ | ⟨bH,_⟩
 rotate_left
 .exact absurd o.WO bH
 have akn:=o.agQ aiz;obtain⟨auX,asQ,rfl,_⟩:=Y3.form;clear gO ox XI Y3;refine J ?_;exact⟨by first | trivial | rfl | (rw[akn];rfl),y0.trans qu⟩
end Go.Proofs.R
end
section
namespace o
open Go
def mK(m:Model)(i:Int)(x:iR):Bool:=decide (i<0)||pZ m i x
theorem abb(m:Model)(s:C_ Int)(i:Int):lQ m s i=(gv m s).filter (mK m i):=by
 unfold lQ mK;split
 .rename_i h;exact(List.filter_eq_self.2 λx _=>by simp[h]).symm
 .rename_i h;simp[h]
theorem am1(m:Model)(s:C_ Int):gv m s≠[]:=by
 unfold gv;split
 .simp
 .rename_i h;exact λe=>h e
theorem aot{m:Model}{s:C_ Int}{i:Int}(bH:gL m s)(l5:qU m s i):0<(lQ m s i).length:=by
 rw[List.length_pos_iff];by_cases U:i<0
 .unfold lQ;rw[if_pos U];exact am1 m s
 obtain⟨_,dW,_⟩:=l5.some bH AK;obtain⟨r,⟨q,p,k,bF,ar,_⟩,⟨e3,gB,k',uK,bb⟩⟩:=dW.on;have aP:r<(refs m).length:=by have:=bF.U;simpa using this
 have fs:=bF.rel.1;have uS:∃x:iR,x∈kW m s r/\x.cmd=r:=by
  rw[uK.kW];cases h:hF m s e3 (bT m gB k') with
  | none=>exact absurd h bb
  | some t=>exact⟨_,AG6,rfl⟩
 obtain⟨x,ag,Ak⟩:=uS;have Qa:x∈jy m s (refs m).length:=by
  unfold jy;exact List.mem_flatMap.2 ⟨r,List.mem_range.2 aP,ag⟩
 have alx:x∈gv m s:=by
  unfold gv;split
  .rename_i h;rw[h] at Qa;cases Qa
  .exact Qa
 intro e
 have:x∈lQ m s i:=by
  rw[abb];refine List.mem_filter.2 ⟨alx,?_⟩;unfold mK pZ;rw[Ak,AG9,fs];simp;omega
 rw[e] at this;cases this
theorem aoq{m:Model}{i:Int}{x y:iR}(h:x.cmd=y.cmd):mK m i x=mK m i y:=by
 unfold mK pZ;rw[h]
theorem ahr{α:Type}{q:α->Bool}{l:C_ α}{j:Nat}(h:j<l.length)(ar:q l[j]=true):∃hk:((l.take j).filter q).length<(l.filter q).length,(l.filter q)[((l.take j).filter q).length]=l[j]:=by
 have e:l.filter q=(l.take j).filter q++l[j] :: (l.drop (j+1)).filter q:=by
  conv=>lhs;rw[<-AH3 j l]
  rw[AK3,AF2 h,List.filter_cons_of_pos ar]
 have hk:((l.take j).filter q).length<(l.filter q).length:=by rw[e,Ln,AG2];omega
 refine⟨hk,?_⟩
 have:(l.filter q)[((l.take j).filter q).length]? = some l[j]:=by
  rw[e,List.getElem?_append_right (GA _),Nat.sub_self,List.getElem?_cons_zero]
 rw[List.getElem?_eq_getElem hk] at this;exact Option.some.inj this
theorem ahs{α:Type}{q:α->Bool}{l:C_ α}{k:Nat}(h:k<(l.filter q).length):q (l.filter q)[k]=true:=(List.mem_filter.1 (GR h)).2
theorem aop{m:Model}{i:Int}{x:iR}(U:0<=i)(h:mK m i x=true):0<=x.cmd/\∃aP:x.cmd.toNat<(refs m).length,(refs m)[x.cmd.toNat].inst=i:=by
 unfold mK pZ at h;rw[Bool.or_eq_true,decide_eq_true_eq,AL0,decide_eq_true_eq,decide_eq_true_eq] at h;rcases h with h | ⟨h1,I⟩
 .omega
 .refine⟨h1,?_⟩;unfold yv at I;split at I
  .rename_i y bV;obtain⟨aP,rfl⟩:=List.getElem?_eq_some_iff.1 bV;exact⟨aP,I⟩
  .omega
theorem aor{m:Model}{i:Int}{x:iR}(h:¬mK m i x=true):0<=i/\∀(_:0<=x.cmd) (aP:x.cmd.toNat<(refs m).length),(refs m)[x.cmd.toNat].inst≠i:=by
 unfold mK pZ at h;rw[Bool.or_eq_true,decide_eq_true_eq,AL0,decide_eq_true_eq,decide_eq_true_eq] at h;refine⟨AK,λaf aP e=>h (.inr ⟨af,?_⟩)⟩;unfold yv;rw[List.getElem?_eq_getElem aP];exact e
end o
end
section
namespace Go.Proofs.R
open Go Go.RowKit ba
theorem amF{w:A_}(aO:gK w):adH w:=λw' e=>amG w' (aO.ext e)
theorem aou{m:o.Model}{s:C_ Int}{w:A_}{u:B_}(h:(o.gL m s/\∃i,o.qU m s i/\kc w u (o.lQ m s i))\/(¬o.gL m s/\u = .slice none 0 0)){i:Int}(U:o.qU m s i){l:C_ o.iR}
  (h1:o.gL m s->l=o.lQ m s i)(I:¬o.gL m s->l=[]):kc w u l:=by
 rcases h with ⟨bH,j,aF,hm⟩ | ⟨bH,rfl⟩
 .rw[h1 bH,<-aF.eq U];exact hm
 .rw[I bH];exact bn.nil
theorem amm(cs:C_ B_)(v:B_)(m:o.Model)(s:C_ Int)(w:A_)(h:o.eh w cs m)(aK:m.cK)(aO:gK w)(ak:dw w v s)(ix:(o.refs m).length*16<=140737488351232) :
  DD F.F6 #[.agg cs.toArray,v] w λu w'=>u = .bool true/\Ext w w':=by
 have dc:=h;obtain⟨b6,bx,bR,c1,bX,c2,bZ,bu,ca,bC,rfl,_⟩:=h.form;obtain⟨os,r9,rfl,_⟩:=ak.form;obtain⟨i,U⟩:=o.aos m s;obtain⟨hT,h1,I⟩:∃hT,(o.gL m s->hT=o.gv m s)/\(¬o.gL m s->hT=[]):=by
  by_cases bH:o.gL m s
  .exact⟨_,λ_=>rfl,λh=>absurd bH h⟩
  .exact⟨[],λh=>absurd h bH,λ_=>rfl⟩
 obtain⟨jx,nO⟩:∃jx,jx=hT.filter (o.mK m i):=⟨_,rfl⟩;have dM:o.gL m s->jx=o.lQ m s i:=λbH=>by rw[nO,h1 bH,o.abb]
 have et:¬o.gL m s->jx=[]:=λbH=>by rw[nO,I bH];rfl
 have eB:0<hT.length->0<jx.length:=λaf=>by
  by_cases bH:o.gL m s
  .rw[dM bH];exact o.aot bH U
  .rw[I bH] at af;exact absurd af Bs
 have eL:i<0->jx=hT:=λaz=>by
  rw[nO];refine List.filter_eq_self.2 λx _=>?_;unfold o.mK;simp[az]
 have cY:=i_ (amF aO) trivial;refine br E.F6 ?_;refine J ?_;intro w1 bS dm ai av;refine J ?_;intro aD aj;have aJ:=ai.trans aj;replace av:=aj.obj av;refine J ?_;refine J_ (apa _ _ m s aD (dc.ext aJ) aK (ak.ext Flat.ext aJ)) ?_;rintro u aN ⟨hO,ah⟩;refine⟨ah,?_⟩;have aV:kc aN u hT:=by
  rcases hO with ⟨bH,hm⟩ | ⟨bH,rfl⟩
  .rw[h1 bH];exact hm
  .rw[I bH];exact bn.nil
 clear hO;obtain⟨aQ,eZ,rfl,ux⟩:=aV.form;replace av:=ah.obj av;have a7:=aJ.trans ah;refine J ?_;refine J_ (MD _ _ m s aN (dc.ext a7) aK (aO.ext a7) (ak.ext Flat.ext a7)) ?_;rintro u aU ⟨hO,ax⟩;have au:=aou hO U dM et;clear hO;obtain⟨op,x2,rfl,_⟩:=au.form;replace aV:=kc.ext ax aV;replace av:=ax.obj av;have bD:=a7.trans ax;refine J ?_;refine J_ (HF _ _ m s aU (dc.ext bD) aK (aO.ext bD) (ak.ext Flat.ext bD)) ?_;rintro _ bt ⟨⟨pX,rfl,l5⟩,aI⟩;obtain rfl:=U.eq l5;replace av:=aI.obj av;have bJ:=bD.trans aI;refine J ?_;refine J_ (abL _ m bt (dc.ext bJ) aK ix) ?_;rintro hy bz ⟨jt,aM⟩;have kj:=aS.hE (enc:=o.Ref.enc) (λ_=>rfl) jt;obtain⟨fA,gp,rfl,auL⟩:=kj.form;have cv:=bJ.trans aM;have I7:=kc.ext (aI.trans aM) aV;have Ci:=kc.ext (aI.trans aM) au;clear jt av aV au;refine eb ?_;refine S_ [5,6,7,8] (λ_:Unit=>[]) (λ_ W=>Ext bz W) ?_ ?_
 .by_cases bI:0<hT.length
  .have tG:=eB bI;refine J ?_;apply I_<;>intro g1
   .have e:=eL g1;refine J ?_;refine J_ (acj _ _ hT bz I7 (e ▸ Ci)) ?_;rintro _ bK ⟨rfl,bq⟩;refine J ?_;exact⟨(),trivial,bq⟩
   .refine J ?_;exact⟨(),trivial,Ext.refl _⟩
  .refine J ?_;apply I_<;>intro g1
   .have e:=eL g1;refine J ?_;refine J_ (acj _ _ hT bz I7 (e ▸ Ci)) ?_;rintro _ bK ⟨rfl,bq⟩;refine J ?_;exact⟨(),trivial,bq⟩
   .refine J ?_;exact⟨(),trivial,Ext.refl _⟩
 rintro _ S bK bq;have XU:=kc.ext bq I7;have tz:=kc.ext bq Ci;have Oj:=kj.ext Flat.ext bq;have dz:=cv.trans bq;clear I7 Ci kj;refine J ?_;refine L_ 43 hT.length [5,6,7,8,41,42] (λn:Nat=>[(9,.I n)]) 0 (λk n W=>Ext bK W/\n=((hT.take k).filter (o.mK m i)).length) bc bc ⟨Ext.refl _,rfl⟩ ?_;rintro j n S c4 aF ⟨bG,az⟩;have fk:=dz.trans bG;refine J ?_;apply I_<;>intro g1;rotate_left
 .have sk:j=hT.length:=AK
  have hk:n=jx.length:=by rw[az,sk,AF3,nO]
  refine J ?_;refine J_ (cY.1 c4 fk) ?_;rintro _ c6 ⟨rfl,b5⟩;refine J ?_;exact⟨aL,fk.trans b5⟩
 have ek:j<hT.length:=AK
 obtain⟨oi,rfl⟩:=XU.addr;obtain⟨x,ag⟩:∃x,x=hT[j]:=⟨_,rfl⟩;obtain⟨k1,zy,va⟩:=(kc.ext bG XU).at j ek;rw[<-ag] at zy va;obtain⟨rF,uB,rfl,_⟩:=va.form;refine J ?_;intro c6 o0 zP b5 iW;clear zy;have Et:=Oj.ext Flat.ext (bG.trans b5);have QT:=va.ext Flat.ext b5;have gk:=bG.trans b5;have pT:((hT.take (j+1)).filter (o.mK m i))=((hT.take j).filter (o.mK m i))++if o.mK m i x then [x] else []:=by rw[ag];exact WY ek
 by_cases ar:o.mK m i x=true
 .obtain⟨hk,YP⟩:=o.ahr (q:=o.mK m i) ek (ag ▸ ar);rw[<-ag] at YP;have cI:n<jx.length:=by rw[az,nO];exact hk
  have aj7:jx[n]=x:=by subst nO;subst az;exact YP
  obtain⟨ap,rfl⟩:=tz.addr;obtain⟨arQ,vX,AF⟩:=(kc.ext gk tz).at n cI;rw[aj7] at vX AF;obtain⟨an0,afY,rfl,_⟩:=AF.form;rw[if_pos ar] at pT;have nP:n+1=((hT.take (j+1)).filter (o.mK m i)).length:=by rw[pT,Ln,<-az];rfl
  refine J ?_;refine P_ (.bool true) (λw' e=>abC _ _ x.to w' (QT.ext Flat.ext e) (AF.ext Flat.ext e)) ?_;refine J ?_;intro eO cr;have Er:=Et.ext Flat.ext cr;replace iW:=cr.obj iW;clear vX AF QT;refine J ?_;apply I_<;>intro g2
  .obtain⟨t1,t2,t3⟩:=o.aop AK ar;obtain⟨jG,rfl⟩:=Er.addr;refine J ?_;refine K_ x.cmd.toNat AK t2 ?_;refine J ?_;exact⟨ek,aL,n+1,⟨aL,trivial⟩,gk.trans cr,nP⟩
  .refine J ?_;exact⟨ek,aL,n+1,⟨aL,trivial⟩,gk.trans cr,nP⟩
 obtain⟨t1,t2⟩:=o.aor ar;rw[if_neg ar,AF1] at pT;have nP:n=((hT.take (j+1)).filter (o.mK m i)).length:=by rw[pT];exact az
 by_cases hk:n<jx.length
 .obtain⟨ap,rfl⟩:=tz.addr;obtain⟨arQ,vX,AF⟩:=(kc.ext gk tz).at n hk;have cz:¬x.cmd=jx[n].cmd:=λe=>ar (by rw[o.aoq e];subst nO;exact o.ahs _);obtain⟨an0,afY,rfl,_⟩:=AF.form;refine J ?_;intro eO cr;clear vX AF QT;have Er:=Et.ext Flat.ext cr;replace iW:=cr.obj iW;refine J ?_;apply I_<;>intro g3;rotate_left
  .refine J ?_;exact⟨ek,aL,n,⟨aL,trivial⟩,gk.trans cr,nP⟩
  refine J ?_;apply I_<;>intro g4;rotate_left
  .refine J ?_;exact⟨ek,aL,n,⟨aL,trivial⟩,gk.trans cr,nP⟩
  obtain⟨jG,rfl⟩:=Er.addr;have Ak:x.cmd.toNat<(o.refs m).length:=AK
  have aks:=t2 g3 Ak;refine J ?_;refine K_ x.cmd.toNat AK Ak ?_;refine J ?_;exact⟨ek,aL,n,⟨aL,trivial⟩,gk.trans cr,nP⟩
 .refine J ?_;intro eO cr;have Er:=Et.ext Flat.ext cr;replace iW:=cr.obj iW;refine J ?_;apply I_<;>intro g3;rotate_left
  .refine J ?_;exact⟨ek,aL,n,⟨aL,trivial⟩,gk.trans cr,nP⟩
  refine J ?_;apply I_<;>intro g4;rotate_left
  .refine J ?_;exact⟨ek,aL,n,⟨aL,trivial⟩,gk.trans cr,nP⟩
  obtain⟨jG,rfl⟩:=Er.addr;have Ak:x.cmd.toNat<(o.refs m).length:=AK
  have aks:=t2 g3 Ak;refine J ?_;refine K_ x.cmd.toNat AK Ak ?_;refine J ?_;exact⟨ek,aL,n,⟨aL,trivial⟩,gk.trans cr,nP⟩
end Go.Proofs.R
end
section
namespace ba
open Go Go.RowKit Go.ChangeShapes Go.WideShapes Go.Deep
section
variable{H:Type}{enc:TypeId×Value->H}{P:Program}{w:World}{base:Nat}{spare:Nat->Bool}{held:Bool}
theorem tk{t:F_}{gd:Array Field}{n:Nat}{cs:C_ B_}{y:DataW H×C_ MemPlace}(aB:P.underlying t=some (.struct gd))(wI:oneCellFields P gd=true)(bF:P.cellsOf t=gd.size)
  (h:DataW.trod enc P w base spare held n t cs=some y):cs.length=gd.size/\∃je ds,y.1 = .agg ds/\∀(j:Nat) (f:Field),gd[j]? = some f->∃v z,cs[j]? = some v/\DataW.trod enc P w base spare held je f.type [v]=some z/\ds[j]? = some z.1:=by
 obtain⟨ys,je,JF,bV,hlen,aub,ay⟩:=DataW.trod_struct aB h;refine⟨AK,je,_,by rw[bV],λj f aF=>?_⟩;obtain⟨aO,hk⟩:=hone_of wI j f aF;have sk:j<gd.size:=(Array.getElem?_eq_some_iff.1 aF).1;have aG:cs[j]? = some (cs[j]' AK):=List.getElem?_eq_getElem AK;have h1:=ay j f aF;rw[aO,hk] at h1;have akD:(cs.drop j).take 1=[cs[j]' AK]:=by
  rw[AF2 AK];rfl
 rw[akD,List.getElem?_eq_getElem (l:=ys) AK] at h1;exact⟨_,_,aG,h1,by rw[List.getElem?_map,List.getElem?_eq_getElem AK];rfl⟩
def Small(P:D_)(t:F_)(d:DataW H):Prop := ∀q∈d.weights P t,q<=reachBytes
theorem Small.field{t u:F_}{gd:Array Field}{ds:C_ (DataW H)}{j:Nat}{d:DataW H}{f:Field}(h:Small P t (.agg ds))(aB:P.underlying t=some (.struct gd))(ay:gd[j]? = some f)(hu:f.type=u)(bb:ds[j]? = some d):Small P u d:=by
 subst hu;intro q ar;refine h q ?_;simp only[DataW.weights,aB];exact DataW.weights_mem_each (j:=j) (by simp[ay]) bb q ar
theorem afb{α:Type}{R:A_->Addr->α->Prop}{t e:F_}{v:B_}{n:Nat}{z:DataW H×C_ MemPlace}(sz:Nat)(aB:P.underlying t=some (.slice e))(bF:P.cellsOf e=sz)(ki:0<P.bytesOf e)
  (bH:∀(a:Addr) (cs:C_ B_) (n:Nat) (y:DataW H×C_ MemPlace),fi w a cs->cs.length=sz->DataW.trod enc P w 0 (λ_=>true) true n e cs=some y->∃x,R w a x)
  (h:DataW.trod enc P w 0 (λ_=>true) true n t [v]=some z):∃xs,bn sz R w v xs/\(Small P t z.1->xs.length<=140737488355328):=by
 rcases open_slice aB h with ⟨fx,_⟩ | ⟨a,len,cap,m,n,D,Ul,fx,ao,aC,hm,Aa,ag,U⟩
 .simp at fx;subst fx;exact⟨[],bn.nil,λ_=>Bs⟩
 .simp at fx;subst fx;simp only[if_true] at Aa;subst Aa;obtain⟨xs,wS,tF⟩:=QD len (λi x=>R w (a.add (i*sz)) x) λi cH=>by
   obtain⟨il,an,uV⟩:=U i AK;rw[bF] at an;obtain⟨_,dY,kB⟩:=World.cells?_some an;refine bH _ il n _ (λj u aF=>?_) dY uV;have Ph:j<sz:=dY ▸ (List.getElem?_eq_some_iff.1 aF).1;rw[<-aF];exact kB j Ph
  refine⟨xs,⟨some a,_,by rw[wS],AK,hm,λ_=>rfl,λcF aV=>by injection aV with aV;subst aV;exact tF⟩,λak=>?_⟩;have h1:=ak ((len+(m - len))*P.bytesOf e) (by rw[ag];simp[DataW.weights,aB]);have I:=reachBytes_lt;have ab:len<=(len+(m - len))*P.bytesOf e:=QB (Nat.le_add_right len _) (Nat.le_mul_of_pos_right _ ki);rw[wS];omega
theorem ael{r:Reach}{my:Nat}{t e:F_}{v:B_}{d:DataW H}{p:C_ MemPlace}(aB:P.underlying t=some (.slice e))(wQ:Value.okWide P w r my t v)(h:DataW.Trod enc P w 0 (λ_=>true) true t v d p) :
  ∃n,DataW.trod enc P w 0 (λ_=>true) true n t [v]=some (d,p):=by
 obtain⟨a0,auM,asN,rfl⟩:=okWide_slice aB wQ;obtain⟨n,az⟩:=h;exact⟨n,az⟩
end
end ba
namespace Go.Proofs.R
open Go Go.RowKit ba Go.ChangeShapes
variable{H:Type}{enc:TypeId×Value->H}{w:World}{cs:List Value}{n:Nat}{y:DataW H×List MemPlace}{v:Value}
theorem mS{z:Int}(h:(Lit.int .i64 z).wf=true):o.ee z:=by
 simp only[Lit.wf,Bool.and_eq_true,decide_eq_true_eq] at h;exact⟨h.1,h.2⟩
theorem ank(h:DataW.trod enc Tryz.prog w 0 (λ_=>true) true n T.h cs=some y):∃x:o.Node,cs=x.enc/\x.ok:=by
 obtain⟨aC,je,ds,_,ay⟩:=tk (t:=T.h) rfl Ct Ct h
 match cs,aC with
 | [bx,c1],_ =>
  obtain⟨_,_,ei,af,_⟩:=ay 0 _ rfl;obtain⟨_,_,bB,h1,_⟩:=ay 1 _ rfl;cases ei;cases bB;obtain⟨z0,ei,_,gI⟩:=DataW.trod_int (k:=.i64) Ct af;obtain⟨gz,bB,_,cE⟩:=DataW.trod_int (k:=.i64) Ct h1;cases ei;cases bB;exact⟨⟨z0,gz⟩,rfl,mS gI,mS cE⟩
end Go.Proofs.R
end
section
namespace ba
open Go Go.RowKit Go.ChangeShapes Go.WideShapes Go.Deep
section
variable{H:Type}{enc:TypeId×Value->H}{P:Program}{w:World}{base:Nat}{spare:Nat->Bool}{held:Bool}
theorem ac8{e:F_}:∀{ds:C_ (DataW H)} {d:DataW H},d∈ds->∀n∈d.weights P e,n∈DataW.weightsAll P e ds
 | [],_,h=>by cases h
 | x :: r,d,h=>λn az=>by
  simp only[DataW.weightsAll];rcases List.mem_cons.1 h with rfl | h
  .exact AH9 _ az
  .exact AI4 _ (ac8 h n az)
theorem xT{α:Type}{R:A_->Addr->α->Prop}{G:α->Prop}{t e:F_}{v:B_}{n:Nat}{z:DataW H×C_ MemPlace}(sz B:Nat)(aB:P.underlying t=some (.slice e))(bF:P.cellsOf e=sz)(ki:P.bytesOf e=B)
  (bH:∀(a:Addr) (cs:C_ B_) (n:Nat) (y:DataW H×C_ MemPlace),fi w a cs->cs.length=sz->DataW.trod enc P w 0 (λ_=>true) true n e cs=some y->∃x,R w a x/\(Small P e y.1->G x))
  (h:DataW.trod enc P w 0 (λ_=>true) true n t [v]=some z):∃xs,bn sz R w v xs/\(Small P t z.1->o.ew xs.length B/\∀x∈xs,G x):=by
 rcases open_slice aB h with ⟨fx,_⟩ | ⟨a,len,cap,m,n,D,Ul,fx,ao,aC,hm,Aa,ag,U⟩
 .simp at fx;subst fx;exact⟨[],bn.nil,λ_=>⟨by simp[o.ew],λx ag=>by cases ag⟩⟩
 .simp at fx;subst fx;simp only[if_true] at Aa;subst Aa;obtain⟨xs,wS,tF⟩:=QD len (λi x=>R w (a.add (i*sz)) x/\(Small P e (D i)->G x)) λi cH=>by
   obtain⟨il,an,uV⟩:=U i AK;rw[bF] at an;obtain⟨_,dY,kB⟩:=World.cells?_some an;refine bH _ il n _ (λj u aF=>?_) dY uV;have Ph:j<sz:=dY ▸ (List.getElem?_eq_some_iff.1 aF).1;rw[<-aF];exact kB j Ph
  refine⟨xs,⟨some a,_,by rw[wS],AK,hm,λ_=>rfl,λcF aV i U=>by injection aV with aV;subst aV;exact(tF i U).1⟩,λak=>⟨?_,λx uW=>?_⟩⟩
  .have h1:=ak ((len+(m - len))*P.bytesOf e) (by rw[ag];simp[DataW.weights,aB]);have I:len*B<=(len+(m - len))*P.bytesOf e:=by rw[ki];exact AI9 _ AK
   have ab:reachBytes=140737488351232:=rfl;unfold o.ew;rw[wS];omega
  .obtain⟨i,cH,rfl⟩:=List.mem_iff_getElem.1 uW;refine(tF i cH).2 λq ar=>ak q ?_;rw[ag];simp only[DataW.weights,aB];refine AI2 _ (AH9 _ (ac8 ?_ q ar));exact List.mem_map.2 ⟨i,by simp;omega,rfl⟩
theorem aa0{r:Reach}{my:Nat}{t:F_}{gd:Array Field}{v:B_}{d:DataW H}{p:C_ MemPlace}(aB:P.underlying t=some (.struct gd))
  (wQ:Value.okWide P w r my t v)(h:DataW.Trod enc P w base spare held t v d p):∃cs n,v = .agg cs/\DataW.trod enc P w base spare held n t cs.toList=some (d,p):=by
 obtain⟨cs,rfl,dr⟩:=okWide_struct aB wQ;obtain⟨fuel,ay⟩:=h;exact⟨cs,fuel,rfl,ay⟩
end
end ba
namespace Go.Proofs.R
open Go Go.RowKit ba Go.ChangeShapes
variable{H:Type}{enc:TypeId×Value->H}{w:World}{cs:List Value}{n:Nat}{y:DataW H×List MemPlace}{v:Value}
theorem ah5(h:DataW.trod enc Tryz.prog w 0 (λ_=>true) true n T.zi cs=some y):∃x:o.Scalar,cs=x.enc/\o.jN x.name/\x.cK:=by
 obtain⟨aC,je,ds,_,ay⟩:=tk (t:=T.zi) rfl Ct Ct h
 match cs,aC with
 | [bx,c1],_ =>
  obtain⟨_,_,ei,af,_⟩:=ay 0 _ rfl;obtain⟨_,_,bB,h1,_⟩:=ay 1 _ rfl;cases ei;cases bB;obtain⟨s,ei,_,ak⟩:=DataW.trod_string Ct af;obtain⟨z,bB,_,cE⟩:=DataW.trod_int (k:=.i64) Ct h1;cases ei;cases bB;exact⟨⟨s,z⟩,rfl,ak,⟨mS cE⟩⟩
theorem ah8(h:DataW.trod enc Tryz.prog w 0 (λ_=>true) true n T.n cs=some y):∃x:o.Var,cs=x.enc/\o.jN x.name/\x.cK:=by
 obtain⟨aC,je,ds,_,ay⟩:=tk (t:=T.n) rfl Ct Ct h
 match cs,aC with
 | [bx,c1,c2,bu,bC,r5],_ =>
  obtain⟨_,_,ei,af,_⟩:=ay 0 _ rfl;obtain⟨_,_,bB,h1,_⟩:=ay 1 _ rfl;obtain⟨_,_,aJ,I,_⟩:=ay 2 _ rfl;obtain⟨_,_,a7,ab,_⟩:=ay 3 _ rfl;obtain⟨_,_,bD,aH,_⟩:=ay 4 _ rfl;obtain⟨_,_,bJ,a8,_⟩:=ay 5 _ rfl;cases ei;cases bB;cases aJ;cases a7;cases bD;cases bJ;obtain⟨s,ei,_,ak⟩:=DataW.trod_string Ct af;obtain⟨gz,bB,_,cE⟩:=DataW.trod_int (k:=.i64) Ct h1;obtain⟨z2,aJ,_,cW⟩:=DataW.trod_int (k:=.i64) Ct I;obtain⟨z3,a7,_,fz⟩:=DataW.trod_int (k:=.i64) Ct ab;obtain⟨z4,bD,_,iA⟩:=DataW.trod_int (k:=.i64) Ct aH;obtain⟨z5,bJ,_,u0⟩:=DataW.trod_int (k:=.i64) Ct a8;cases ei;cases bB;cases aJ;cases a7;cases bD;cases bJ;exact⟨⟨s,gz,z2,z3,z4,z5⟩,rfl,ak,⟨mS cE,mS cW,mS fz,mS iA,mS u0⟩⟩
theorem ahW(h:DataW.trod enc Tryz.prog w 0 (λ_=>true) true n T.t cs=some y):∃x:o.dB,cs=x.enc/\o.jN x.name/\x.cK:=by
 obtain⟨aC,je,ds,_,ay⟩:=tk (t:=T.t) rfl Ct Ct h
 match cs,aC with
 | [bx,c1,c2,bu,bC,r5],_ =>
  obtain⟨_,_,ei,af,_⟩:=ay 0 _ rfl;obtain⟨_,_,bB,h1,_⟩:=ay 1 _ rfl;obtain⟨_,_,aJ,I,_⟩:=ay 2 _ rfl;obtain⟨_,_,a7,ab,_⟩:=ay 3 _ rfl;obtain⟨_,_,bD,aH,_⟩:=ay 4 _ rfl;obtain⟨_,_,bJ,a8,_⟩:=ay 5 _ rfl;cases ei;cases bB;cases aJ;cases a7;cases bD;cases bJ;obtain⟨s,ei,_,ak⟩:=DataW.trod_string Ct af;obtain⟨gz,bB,_,cE⟩:=DataW.trod_int (k:=.i64) Ct h1;obtain⟨z2,aJ,_,cW⟩:=DataW.trod_int (k:=.i64) Ct I;obtain⟨z3,a7,_,fz⟩:=DataW.trod_int (k:=.i64) Ct ab;obtain⟨z4,bD,_,iA⟩:=DataW.trod_int (k:=.i64) Ct aH;obtain⟨z5,bJ,_⟩:=DataW.trod_bool Ct a8;cases ei;cases bB;cases aJ;cases a7;cases bD;cases bJ;exact⟨⟨s,gz,z2,z3,z4,z5⟩,rfl,ak,⟨mS cE,mS cW,mS fz,mS iA⟩⟩
theorem IQ(h:DataW.trod enc Tryz.prog w 0 (λ_=>true) true n T.u [v]=some y):∃l,o.eS w v l/\(Small Tryz.prog T.u y.1->o.ew l.length 16/\∀x∈l,True) :=
 xT (G:=λ_=>True) (e:=T.h) 2 16 Ct Ct Ct (λa cs n y an aC aB=>by obtain⟨x,rfl,ag⟩:=ank aB;exact⟨x,⟨an,ag⟩,λ_=>trivial⟩) h
theorem ah6(h:DataW.trod enc Tryz.prog w 0 (λ_=>true) true n T.r3 [v]=some y):∃l,o.ih w v l/\(Small Tryz.prog T.r3 y.1->o.ew l.length 24/\∀x∈l,x.cK) :=
 xT (e:=T.zi) 2 24 Ct Ct Ct (λa cs n y an aC aB=>by obtain⟨x,rfl,ag,aK⟩:=ah5 aB;exact⟨x,⟨an,ag⟩,λ_=>aK⟩) h
theorem Xo(h:DataW.trod enc Tryz.prog w 0 (λ_=>true) true n T.sV [v]=some y):∃l,o.h3 w v l/\(Small Tryz.prog T.sV y.1->o.ew l.length 56/\∀x∈l,x.cK) :=
 xT (e:=T.n) 6 56 Ct Ct Ct (λa cs n y an aC aB=>by obtain⟨x,rfl,ag,aK⟩:=ah8 aB;exact⟨x,⟨an,ag⟩,λ_=>aK⟩) h
theorem ahX(h:DataW.trod enc Tryz.prog w 0 (λ_=>true) true n T.sW [v]=some y):∃l,o.mT w v l/\(Small Tryz.prog T.sW y.1->o.ew l.length 56/\∀x∈l,x.cK) :=
 xT (e:=T.t) 6 56 Ct Ct Ct (λa cs n y an aC aB=>by obtain⟨x,rfl,ag,aK⟩:=ahW aB;exact⟨x,⟨an,ag⟩,λ_=>aK⟩) h
theorem ahU{a:Addr}(an:fi w a cs)(h:DataW.trod enc Tryz.prog w 0 (λ_=>true) true n T.y cs=some y):∃x:o.Act,o.za w a x/\(Small Tryz.prog T.y y.1->x.cK):=by
 obtain⟨aC,je,ds,he,ay⟩:=tk (t:=T.y) rfl Ct Ct h
 match cs,aC with
 | [bx,c1,c2,bu,bC],_ =>
  obtain⟨_,_,ei,af,_⟩:=ay 0 _ rfl;obtain⟨_,_,bB,h1,_⟩:=ay 1 _ rfl;obtain⟨_,_,aJ,I,_⟩:=ay 2 _ rfl;obtain⟨_,_,a7,ab,d3⟩:=ay 3 _ rfl;obtain⟨_,_,bD,aH,d4⟩:=ay 4 _ rfl;cases ei;cases bB;cases aJ;cases a7;cases bD;obtain⟨z0,ei,_,gI⟩:=DataW.trod_int (k:=.i64) Ct af;obtain⟨gz,bB,_,cE⟩:=DataW.trod_int (k:=.i64) Ct h1;obtain⟨z2,aJ,_,cW⟩:=DataW.trod_int (k:=.i64) Ct I;cases ei;cases bB;cases aJ;obtain⟨er,ab,g3⟩:=IQ ab;obtain⟨eH,aH,g4⟩:=IQ aH;exact⟨⟨z0,gz,z2,er,eH⟩,⟨bu,bC,an,ab,aH⟩,λak=>by
   rw[he] at ak;exact⟨mS gI,mS cE,mS cW,(g3 (ak.field rfl rfl rfl d3)).1,(g4 (ak.field rfl rfl rfl d4)).1⟩⟩
theorem ahV(h:DataW.trod enc Tryz.prog w 0 (λ_=>true) true n T.vM [v]=some y):∃l,o.lX w v l/\(Small Tryz.prog T.vM y.1->o.ew l.length 72/\∀x∈l,x.cK) :=
 xT (e:=T.y) 5 72 Ct Ct Ct (λa cs n y an aC aB=>ahU an aB) h
theorem ahY(h:DataW.trod enc Tryz.prog w 0 (λ_=>true) true n T.m cs=some y):∃x:o.ea,o.A4 w cs x/\(Small Tryz.prog T.m y.1->x.cK):=by
 obtain⟨aC,je,ds,he,ay⟩:=tk (t:=T.m) rfl Ct Ct h
 match cs,aC with
 | [bx,c1,c2,bu,bC,r5],_ =>
  obtain⟨_,_,ei,af,_⟩:=ay 0 _ rfl;obtain⟨_,_,bB,h1,_⟩:=ay 1 _ rfl;obtain⟨_,_,aJ,I,_⟩:=ay 2 _ rfl;obtain⟨_,_,a7,ab,d3⟩:=ay 3 _ rfl;obtain⟨_,_,bD,aH,d4⟩:=ay 4 _ rfl;obtain⟨_,_,bJ,a8,_⟩:=ay 5 _ rfl;cases ei;cases bB;cases aJ;cases a7;cases bD;cases bJ;obtain⟨s,ei,_,ak⟩:=DataW.trod_string Ct af;obtain⟨gz,bB,_,cE⟩:=DataW.trod_int (k:=.i64) Ct h1;obtain⟨z2,aJ,_,cW⟩:=DataW.trod_int (k:=.i64) Ct I;obtain⟨z5,bJ,_⟩:=DataW.trod_bool Ct a8;cases ei;cases bB;cases aJ;cases bJ;obtain⟨er,ab,g3⟩:=IQ ab;obtain⟨eH,aH,g4⟩:=ahV aH;exact⟨⟨s,gz,z2,er,eH,z5⟩,⟨ak,bu,bC,rfl,ab,aH⟩,λak=>by
   rw[he] at ak;exact⟨mS cE,mS cW,(g3 (ak.field rfl rfl rfl d3)).1,(g4 (ak.field rfl rfl rfl d4)).1,(g4 (ak.field rfl rfl rfl d4)).2⟩⟩
theorem ahZ(h:DataW.trod enc Tryz.prog w 0 (λ_=>true) true n T.om [v]=some y):∃l,o.rV w v l/\(Small Tryz.prog T.om y.1->o.ew l.length 88/\∀x∈l,x.cK) :=
 xT (e:=T.m) 6 88 Ct Ct Ct (λa cs n y an aC aB=>by
  obtain⟨x,⟨af,fq,dH,rfl,h1,I⟩,aK⟩:=ahY aB;exact⟨x,⟨af,fq,dH,an,h1,I⟩,aK⟩) h
theorem ah2(h:DataW.trod enc Tryz.prog w 0 (λ_=>true) true n T.l cs=some y):∃x:o.dJ,o.xK w cs x/\(Small Tryz.prog T.l y.1->x.cK):=by
 obtain⟨aC,je,ds,he,ay⟩:=tk (t:=T.l) rfl Ct Ct h
 match cs,aC with
 | [bx,c1,c2,bu,bC],_ =>
  obtain⟨_,_,ei,af,_⟩:=ay 0 _ rfl;obtain⟨_,_,bB,h1,_⟩:=ay 1 _ rfl;obtain⟨_,_,aJ,I,_⟩:=ay 2 _ rfl;obtain⟨_,_,a7,ab,d3⟩:=ay 3 _ rfl;obtain⟨_,_,bD,aH,d4⟩:=ay 4 _ rfl;cases ei;cases bB;cases aJ;cases a7;cases bD;obtain⟨s,ei,_,ak⟩:=DataW.trod_string Ct af;obtain⟨gz,bB,_,cE⟩:=DataW.trod_int (k:=.i64) Ct h1;obtain⟨z2,aJ,_,cW⟩:=DataW.trod_int (k:=.i64) Ct I;cases ei;cases bB;cases aJ;obtain⟨er,ab,g3⟩:=Xo ab;obtain⟨eH,aH,g4⟩:=ahZ aH;exact⟨⟨s,gz,z2,er,eH⟩,⟨ak,bu,bC,rfl,ab,aH⟩,λak=>by
   rw[he] at ak;exact⟨mS cE,mS cW,(g3 (ak.field rfl rfl rfl d3)).1,(g4 (ak.field rfl rfl rfl d4)).1,(g3 (ak.field rfl rfl rfl d3)).2,(g4 (ak.field rfl rfl rfl d4)).2⟩⟩
theorem ah3(h:DataW.trod enc Tryz.prog w 0 (λ_=>true) true n T.vL [v]=some y):∃l,o.qV w v l/\(Small Tryz.prog T.vL y.1->o.ew l.length 80/\∀x∈l,x.cK) :=
 xT (e:=T.l) 5 80 Ct Ct Ct (λa cs n y an aC aB=>by
  obtain⟨x,⟨af,fq,dH,rfl,h1,I⟩,aK⟩:=ah2 aB;exact⟨x,⟨af,fq,dH,an,h1,I⟩,aK⟩) h
theorem ah4(h:DataW.trod enc Tryz.prog w 0 (λ_=>true) true n T.pH [v]=some y):∃l,o.Bf w v l/\(Small Tryz.prog T.pH y.1->o.ew l.length 40/\∀x∈l,x.cK) :=
 xT (e:=T.Vy) 2 40 Ct Ct Ct (λa cs n y an aC aB=>by
  obtain⟨aC,je,ds,he,ay⟩:=tk (t:=T.Vy) rfl Ct Ct aB
  match cs,aC with
  | [bx,c1],_ =>
   obtain⟨_,_,ei,af,_⟩:=ay 0 _ rfl;obtain⟨_,_,bB,h1,d1⟩:=ay 1 _ rfl;cases ei;cases bB;obtain⟨s,ei,_,ak⟩:=DataW.trod_string Ct af;cases ei;obtain⟨eE,h1,g1⟩:=IQ h1;exact⟨⟨s,eE⟩,⟨ak,c1,an,h1⟩,λak=>by rw[he] at ak;exact⟨(g1 (ak.field rfl rfl rfl d1)).1⟩⟩) h
theorem anM{r:Reach}{my:Nat}{v:B_}{d:DataW H}{p:C_ MemPlace}(wQ:Value.okWide Tryz.prog w r my T.d v)(h:DataW.Trod enc Tryz.prog w 0 (λ_=>true) true T.d v d p)(ak:Small Tryz.prog T.d d) :
  ∃cs m,v = .agg cs.toArray/\o.eh w cs m/\m.cK:=by
 obtain⟨cs,n,rfl,aB⟩:=aa0 (t:=T.d) rfl wQ h;obtain⟨aC,je,ds,rfl,ay⟩:=tk (t:=T.d) rfl Ct Ct aB;obtain⟨cs⟩:=cs
 match cs,aC with
 | [bx,c1,c2,bu,bC],_ =>
  obtain⟨_,_,ei,af,d0⟩:=ay 0 _ rfl;obtain⟨_,_,bB,h1,d1⟩:=ay 1 _ rfl;obtain⟨_,_,aJ,I,d2⟩:=ay 2 _ rfl;obtain⟨_,_,a7,ab,d3⟩:=ay 3 _ rfl;obtain⟨_,_,bD,aH,d4⟩:=ay 4 _ rfl;cases ei;cases bB;cases aJ;cases a7;cases bD;obtain⟨e2,en,my⟩:=ah6 af;obtain⟨eE,dU,bw⟩:=Xo h1;obtain⟨eJ,du,bS⟩:=ahX I;obtain⟨er,eW,bW⟩:=ah3 ab;obtain⟨eH,fQ,cC⟩:=ah4 aH;have gI:=my (ak.field rfl rfl rfl d0);have cE:=bw (ak.field rfl rfl rfl d1);have cW:=bS (ak.field rfl rfl rfl d2);have fz:=bW (ak.field rfl rfl rfl d3);have iA:=cC (ak.field rfl rfl rfl d4);exact⟨[bx,c1,c2,bu,bC],⟨e2,eE,eJ,er,eH⟩,rfl,⟨⟨bx,c1,c2,bu,bC,rfl,en,dU,du,eW,fQ⟩⟩,⟨gI.1,cE.1,cW.1,fz.1,iA.1,gI.2,cE.2,cW.2,fz.2,iA.2⟩⟩
end Go.Proofs.R
end
section
namespace Go.Proofs.R
open Go Go.RowKit ba Go.ChangeShapes
variable{H:Type}{enc:TypeId×Value->H}{w:World}{r:Reach}{my:Nat}{v:Value}{d:DataW H}{p:List MemPlace}
theorem alS{n:Nat}{y:DataW H×C_ MemPlace}(h:DataW.trod enc Tryz.prog w 0 (λ_=>true) true n T.b [v]=some y):∃l,oX w v l/\(Small Tryz.prog T.b y.1->l.length<=140737488355328) :=
 afb (e:=T.a) 1 Ct Ct (by decide +kernel) (λa cs n y an aC aB=>by
  obtain⟨z,e,_,amg⟩:=DataW.trod_int (k:=.i64) Ct aB;cases e;exact⟨z,an,mS amg⟩) h
theorem open_ints(wQ:Value.okWide Tryz.prog w r my T.b v)(h:DataW.Trod enc Tryz.prog w 0 (λ_=>true) true T.b v d p):∃l,oX w v l:=by
 obtain⟨n,az⟩:=ael (e:=T.a) Ct wQ h;obtain⟨l,aC,_⟩:=alS az;exact⟨l,aC⟩
end Go.Proofs.R
end
section
namespace Go.Proofs.R
open Go Go.RowKit ba Go.ChangeShapes
variable{H:Type}{enc:TypeId×Value->H}{w:World}{r:Reach}{my:Nat}{v:Value}{d:DataW H}{p:List MemPlace}
theorem anN(wQ:Value.okWide Tryz.prog w r my T.b v)(h:DataW.Trod enc Tryz.prog w 0 (λ_=>true) true T.b v d p):∃l,bn 1 (Flat cL) w v l:=by
 obtain⟨l,aC⟩:=open_ints wQ h;obtain⟨aQ,cap,e,h1,I,ab,aH⟩:=aC.ex;exact⟨l,aQ,cap,e,h1,I,ab,λa aV i U=>(aH a aV i U).1⟩
end Go.Proofs.R
end
section
namespace Go.Proofs.R
open Go Go.RowKit ba Go.ChangeShapes Go.WideShapes Go.Deep Go.Proofs.YtakmdjclehkglaaGreatDoor
variable{H:Type}{enc:TypeId×Value->H}{w:World}
theorem aeN(d:DataW H):1<=Rows.uptoBulk d:=by
 cases d with
 | lit l=>cases l<;>simp[Rows.uptoBulk]
 | _=>simp[Rows.uptoBulk]
theorem HM{d:DataW H}:∀{ds:C_ (DataW H)},d∈ds->Rows.uptoBulk d<=Rows.uptoBulkAll ds
 | [],h=>by cases h
 | x :: r,h=>by
  rw[Rows.uptoBulkAll];rcases List.mem_cons.1 h with rfl | h
  .omega
  .have:=HM h
   omega
theorem VJ:∀ds:C_ (DataW H),ds.length<=Rows.uptoBulkAll ds
 | []=>AF6 _
 | x :: r=>by
  rw[Rows.uptoBulkAll,AG2]
  have:=VJ r
  have:=aeN x
  omega
theorem acs{α:Type}{R:A_->Addr->α->Prop}{t e:F_}{v:B_}{n:Nat}{z:DataW H×C_ MemPlace}{xs:C_ α}(sz:Nat)(aB:Tryz.prog.underlying t=some (.slice e))(bF:Tryz.prog.cellsOf e=sz)(ak:bn sz R w v xs)
  (h:DataW.trod enc Tryz.prog w 0 (λ_=>true) true n t [v]=some z) :
  xs.length<=Rows.uptoBulk z.1/\∀i (U:i<xs.length),∃a cs je y,R w a xs[i]/\w.cells? 0 a sz=some cs/\DataW.trod enc Tryz.prog w 0 (λ_=>true) true je e cs=some y/\Rows.uptoBulk y.1<=Rows.uptoBulk z.1:=by
 obtain⟨aQ,cap,rfl,_⟩:=ak.form;rcases open_slice aB h with ⟨fx,_⟩ | ⟨a,len,pI,m,je,D,Ul,fx,ao,aC,hm,Aa,ag,U⟩
 .injection fx with fx _
  injection fx with _ I _
  exact⟨AK,λi U=>absurd U AK⟩
 .injection fx with fx _
  injection fx with h1 I ab
  subst h1;have atV:len<=m:=by simp only[if_true] at Aa;omega
  have bI:Rows.uptoBulk z.1=Rows.uptoBulkAll ((List.range len).map D)+Rows.uptoBulkAll ((List.range (m - len)).map λj=>D (len+j))+1:=by rw[ag,Rows.uptoBulk]
  have hle:=VJ ((List.range len).map D);rw[AK0,List.length_range] at hle;refine⟨AK,λi jX=>?_⟩;obtain⟨il,an,uV⟩:=U i AK;rw[bF] at an;refine⟨_,il,je,_,ak.at i jX,an,uV,?_⟩
  have:=HM (d:=D i) (ds:=(List.range len).map D) (List.mem_map.2 ⟨i,by simp;omega,rfl⟩)
  show Rows.uptoBulk (D i)<=_;omega
theorem amY{cs:C_ B_}{m:o.Model}{n:Nat}{y:DataW H×C_ MemPlace}(hm:o.eh w cs m)(h:DataW.trod enc Tryz.prog w 0 (λ_=>true) true n T.d cs=some y) :
  m.procs.length<=Rows.uptoBulk y.1/\∀p∈m.procs,p.cQ.length<=Rows.uptoBulk y.1:=by
 obtain⟨v0,v1,v2,v3,v4,rfl,gI,cE,cW,fz,iA⟩:=hm.ex;obtain⟨_,je,ds,bV,ay⟩:=tk (t:=T.d) rfl Ct Ct h;obtain⟨_,z,a7,ab,d3⟩:=ay 3 _ rfl;cases a7;have ao:Rows.uptoBulk z.1<=Rows.uptoBulk y.1:=by
  have:=HM (List.mem_of_getElem? d3)
  rw[bV,Rows.uptoBulk];omega
 obtain⟨bw,bS⟩:=acs (e:=T.l) 5 Ct Ct fz ab;refine⟨AK,λp au=>?_⟩;obtain⟨i,U,rfl⟩:=List.mem_iff_getElem.1 au;obtain⟨a,il,j5,jE,bH,an,PT,dm⟩:=bS i U;obtain⟨_,b2,dV,e0,_,mD⟩:=bH;obtain⟨rq,pY,asY,alD,lJ⟩:=tk (t:=T.l) rfl Ct Ct PT;obtain⟨u,z2,bD,aH,d4⟩:=lJ 4 _ rfl;obtain⟨_,_,kB⟩:=World.cells?_some an;have hu:u=dV:=by
  have cE:=kB 4 AK;have cW:=e0 4 dV rfl;rw[cW] at cE;rw[bD] at cE;injection cE with cE
  exact cE.symm
 subst hu;have fe:Rows.uptoBulk z2.1<=Rows.uptoBulk jE.1:=by
  have:=HM (List.mem_of_getElem? d4)
  rw[alD,Rows.uptoBulk];omega
 have:=(acs (e:=T.m) 6 Ct Ct mD aH).1
 omega
end Go.Proofs.R
end
section
namespace Go.Proofs.R
open Go Go.RowKit ba Go.ChangeShapes Go.WideShapes Go.Deep Go.Proofs.YtakmdjclehkglaaGreatDoor
theorem apK{m:o.Model}(h1:m.procs.length<=1048576)(I:∀p∈m.procs,p.cQ.length<=1048576):(o.refs m).length*16<=140737488351232:=by
 have az:∀x:o.cX,o.qJ m x<=1048576:=λx=>by
  unfold o.qJ;split
  .rename_i p au;refine I p ?_;unfold o.nth at au;split at au
   .exact List.mem_of_getElem? au
   .cases au
  .omega
 have key:∀(l:C_ o.cX) (k:Nat),(o.nX m l k).length<=l.length*1048576:=by
  intro l
  induction l with
  | nil=>intro k;simp[o.nX]
  | cons x r fh =>
   intro k
   have:=fh (k+1)
   have:=az x
   simp only[o.nX,List.length_append,o.refsOf,List.length_map,List.length_range,List.length_cons];omega
 have:=key (o.insts m) 0
 have:=o.tH m
 unfold o.refs;omega
theorem avv{H:Type}{enc:F_×B_->H}{r:Reach}{my:Nat}{d0 d1:DataW H}{eK dM:C_ MemPlace}(v0 v1:B_)(W:A_)(aO:gK W)
  (gI:Value.okWide Tryz.prog W r my T.d v0)(af:DataW.Trod enc Tryz.prog W 0 (λ_=>true) true T.d v0 d0 eK)(kr:Small Tryz.prog T.d d0)
  (cE:Value.okWide Tryz.prog W r my T.b v1)(h1:DataW.Trod enc Tryz.prog W 0 (λ_=>true) true T.b v1 d1 dM)(_s1:Small Tryz.prog T.b d1)(ao:Rows.uptoBulk d0<=1048576) :
  DD F.F6 #[v0,v1] W λv w'=>v = .bool true/\Ext W w':=by
 obtain⟨cs,m,rfl,hm,aK⟩:=anM gI af kr;obtain⟨s,ak⟩:=anN cE h1;obtain⟨_,n,e,aB⟩:=aa0 (t:=T.d) rfl gI af;injection e with e
 subst e;obtain⟨cZ,dt⟩:=amY hm aB;exact amm cs v1 m s W hm aK aO ak (apK (by simp only at cZ;omega) λp au=>by have:=dt p au;simp only at this;omega)
end Go.Proofs.R
end
section
namespace ba
open Go Go.RowKit Go.ChangeShapes
theorem auF{P:D_}{f:E_}{fn:Func}{s:ChangeSpec}{c:OpenClaim}(h1:(c.wf (OpenSpec.ofChange s)&&laidOutB P&&mapsRowed P)=true)
  (I:(fn.params.all (P.readableRec ·)&&namedTie P c.named s.vars)=true)(ab:((c.stops == [])&&(P.stops == [])&&(c.knobs == [])&&(P.stopKnobs == []))=true)
  (aH:(c.inPlace == P.inPlace f)=true)(a8:(c.unfollowed == P.unfollowed f)=true)(bE:(c.recurses == P.recurses f)=true)(cj:(c.named == P.varsNamed f)=true)
  (dS:((c.maps == (fn.params.toList++s.plain.varTypes P).any (P.mapsRec ·))&&(c.ifaces == (fn.params.toList++s.plain.varTypes P).any (P.ifacesRec ·))&&(c.mapsOut == P.mapsAmong fn.resultTypes.toList))=true)
  (jI:((c.loops == (fn.params.toList++s.plain.varTypes P).any (P.loopsFrom ·))&&(c.wideKeys == (fn.params.toList++s.plain.varTypes P++fn.resultTypes.toList).any (P.wideKeysFrom ·)))=true)
  (kR:(s.vars.all (P.varReadable ·)&&fn.resultTypes.all (λt=>P.readableRec t&&decide (t<P.types.size))&&(c.ifacesOut == fn.resultTypes.toList.any (P.ifacesRec ·))&&(c.loopsOut == fn.resultTypes.toList.any (P.loopsFrom ·)))=true)
  (IT:(c.plainKeys == P.plainKeys)=true)(sd:(c.shortTexts.isNone&&P.stopsHeard)=true)(Eh:P.mayEnter=true)
  (Xr:((c.lifted == P.liftsFinal)&&(P.make == some c.make))=true)
  (nI:((c.kinds == (if c.domain.isEmpty then [] else fn.params.toList.map λt=>match P.underlying t with | some (.int k)=>some k | _=>none))&&(c.pinned == c.pinnedBy))=true)
  (ou:((c.veiled == (fn.params.toList++s.plain.varTypes P++fn.resultTypes.toList).any (P.veiledRec ·))&&c.veiledFits P fn.params.toList (fn.params.toList++s.plain.varTypes P++fn.resultTypes.toList))=true) :
  joinedFacts P f fn s c=true:=by
 simp only[Bool.and_eq_true] at h1 I ab dS jI kR sd Xr nI ou;unfold joinedFacts;simp only[Bool.and_eq_true];obtain⟨⟨db,a2⟩,a3⟩:=h1;obtain⟨bw,bS⟩:=I;obtain⟨⟨⟨d1,d2⟩,d3⟩,d4⟩:=ab;obtain⟨⟨bB,aJ⟩,a7⟩:=dS;obtain⟨f1,f2⟩:=jI;obtain⟨⟨⟨g1,g2⟩,g3⟩,g4⟩:=kR;obtain⟨i1,i2⟩:=sd;obtain⟨j2,hS⟩:=Xr;obtain⟨cE,cW⟩:=nI;obtain⟨eE,eJ⟩:=ou;exact⟨⟨⟨⟨⟨⟨⟨⟨⟨⟨⟨⟨⟨⟨⟨⟨⟨⟨⟨⟨⟨⟨⟨⟨⟨⟨⟨⟨⟨⟨⟨db,a2⟩,a3⟩,bw⟩,bS⟩,d1⟩,d2⟩,d3⟩,d4⟩,aH⟩,a8⟩,bE⟩,cj⟩,bB⟩,aJ⟩,a7⟩,f1⟩,f2⟩,g1⟩,g2⟩,g3⟩,g4⟩,IT⟩,i1⟩,i2⟩,Eh⟩,j2⟩,hS⟩,cE⟩,cW⟩,eE⟩,eJ⟩
end ba
end