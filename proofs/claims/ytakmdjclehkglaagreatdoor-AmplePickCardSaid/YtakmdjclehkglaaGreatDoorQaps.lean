/- Parts. -/
import Derived.Test.YtakmdjclehkglaaGreatDoorQapr
import Derived.SizedLaws
import Derived.Test.YtakmdjclehkglaaGreatDoorRows
import Derived.JoinedCond
set_option linter.all false
set_option maxRecDepth 8000
set_option maxHeartbeats 32000000
namespace Go.Proofs.R
open Go Go.RowKit a8
def o.aou{m:o.Model}{s:C_ Int}{r:Nat}{t:Bool}(bG:o.iN m s)(aS:r<(o.refs m).length)(h:zK m s r t):t=true↔o.uC m s r:=by
 obtain⟨q,p,k,bw⟩:=o.mI (m:=m) (ref:=r) ⟨bG.1,Ad,Ad⟩;unfold zK at h;rw[h];constructor
 .rintro⟨_,_,ab⟩;exact⟨q,p,k,bw,ab q p k bw⟩
 .rintro⟨eK,gA,k',qM,ab⟩;refine⟨bG,bw.told,λa b c CN=>?_⟩;obtain⟨rfl,rfl,rfl⟩:=qM.one CN;exact ab
theorem Is(cs:C_ B_)(v:B_)(m:o.Model)(s:C_ Int)(w:A_)(h:o.dj w cs m)(aG:m.cv)(aQ:gJ w)(aj:c9 w v s) :
  Du F.oJ #[.agg cs.toArray,v] w λu w'=>(∃i:Int,u = .I i/\o.sj m s i)/\Ext w w':=by
 have b4:=h;obtain⟨b0,bz,bO,c1,bT,c2,bV,bu,b1,bB,rfl,_⟩:=h.form;obtain⟨os,rG,rfl,_⟩:=aj.form;refine bl E.oJ ?_;refine J ?_;intro w1 bQ c7 ag ao;refine J ?_;refine J_ (zh _ m w1 (b4.ext ag) aG (aQ.ext ag)) ?_;rintro _ aA ⟨rfl,ai⟩;replace ao:=ai.obj ao;have aH:=ag.trans ai;refine J ?_;refine Y_ (v:=.I (o.check m).cJ) rfl ?_;refine J ?_;refine I_ (λhk=>?_) (λhk=>?_);rotate_left
 .have aw:¬o.iN m s:=λbG=>hk bG.1;refine J ?_;exact⟨⟨-1,aK,⟨λ_=>rfl,λbG=>absurd bG aw,λbG=>absurd bG aw⟩⟩,aH⟩
 refine J ?_;refine J_ (ae3 _ m _ s aA (b4.ext aH) aG (aQ.ext aH) (aj.ext Flat.ext aH)) ?_;rintro _ aM ⟨⟨t,rfl,aB⟩,ah⟩;replace ao:=ah.obj ao;have aR:=aH.trans ah;cases t with
 | false =>
  have aw:¬o.iN m s:=λbG=>by have:=aB.2 bG;cases this
  refine J ?_;exact⟨⟨-1,aK,⟨λ_=>rfl,λbG=>absurd bG aw,λbG=>absurd bG aw⟩⟩,aR⟩
 | true =>
 have bG:=aB.1 rfl;have gQ:=o.hE hk;have RO:=o.qo gQ.lim;have gf:=o.xk gQ;obtain⟨f6,f7,f8⟩:=o.pH m;have hlen:=bG.2.len;refine dS ?_;refine R_ [1,2] (λx:(Nat×Nat)×B_=>[(5,.pointer (some ⟨x.1.1,0,none⟩)),(6,.pointer (some ⟨x.1.2,0,none⟩)),(7,x.2)]) (λx W=>Ext aM W/\∃vr bK,W.heap[x.1.1]? = some (.cells #[vr] T.g)/\W.heap[x.1.2]? = some (.cells #[bK] T.p)/\tf W vr (o.refs m)/\ik W bK (o.insts m)/\bm 1 (Flat bX) W x.2 (o.layout m).insts) ?_ ?_
 .refine AB7 _ _ (by rfl) ?_;intro aU aq;dsimp only[strip];replace ao:=aq.obj ao;have bn:=aR.trans aq;refine J ?_;refine⟨jV _ aU m,[5,6,7,26,28],?_,⟨Ext.refl _,λ_ _=>rfl,CC,CC,CC,CC,CC,CC,CC,CC⟩,?_⟩
  .have CT:=b4.ext bn;have dD:=aQ.ext bn;clear ao h aj
   repeat' first
    | exact hY.nil
    | exact hY.done By
    | refine hY.alt (aqG By By CT gQ.lim rfl) ?_ ?_
    | refine hY.alt (aqH By By CT aG rfl) ?_ ?_
    | refine hY.ff (aqI By By CT aG dD hk rfl) ?_ ?_
    | refine hY.alt (aqK By By) ?_ ?_
    | refine hY.alt (aqL By By) ?_ ?_
    | refine hY.take (aqJ By By By) ?_
    | refine hY.take (aqM By By) ?_
    | refine hY.ff (aqO By By By) ?_ ?_
    | refine hY.ff (aqP By By By) ?_ ?_
  .rintro D pW bh gq aP;have an:=aP.qH (gq 7 By);obtain⟨dF,c5,dA,ea⟩:=aP.f5 (gq 5 By);obtain⟨dC,cP,cA,eI⟩:=aP.f6 (gq 6 By);rw[decide_eq_true (show 1<=D.count 100000 by omega)] at ea;rw[decide_eq_true an] at eI;exact⟨((dF,dC),pW 7),⟨dA,cA,rfl,trivial⟩,aq.trans aP.ext,_,_,ea,eI,aP.f26 (gq 26 By),aP.f28 (gq 28 By),aP.f7 (gq 7 By)⟩
 rintro⟨⟨dF,dC⟩,va⟩ pW aU ⟨aq,vr,bK,bI,bS,jI,aP,cA⟩;dsimp only at bI bS cA;replace ao:=aq.obj ao;have bn:=aR.trans aq;have CT:=b4.ext bn;obtain⟨b8,ci,rfl,_⟩:=aP.form;obtain⟨e9,gY,rfl,_⟩:=jI.form;obtain⟨aN,fs,rfl,_⟩:=cA.form;have dL:∀{W} (r:Nat),Ext aU W->r<(o.refs m).length->Du F.q #[.I r,.pointer (some ⟨bQ,0,none⟩),.pointer (some ⟨dC,0,none⟩),.pointer (some ⟨dF,0,none⟩)] W λu w'=>u = .I (o.CF m r)/\Ext W w' :=
  λ{W} r e aS=>aqX _ _ _ m r bQ dC dF W (CT.ext e) (aP.ext Flat.ext e) (jI.ext Flat.ext e) hk aS (e.obj ao) (e.obj bS) (e.obj bI)
 have gT:∀{W},Ext aU W->W.heap[bQ]? = _:=λe=>e.obj ao;have Sj:∀{W},Ext aU W->W.heap[dF]? = _:=λe=>e.obj bI;refine J ?_;refine L_ 35 (o.insts m).length [1,2,5,6,7,8,33,34] (λ_:Unit=>[(9,.I (-1))]) () (λi _ W=>Ext aU W/\∀j,j<i->¬o.mz m s j) a6 a6 ⟨Ext.refl _,λj az=>absurd az (HI _)⟩ ?_;clear ao bI bS;rintro i _ S bh U ⟨av,eG⟩;have ao:=gT av;have bI:=Sj av;have bC:=bn.trans av;refine J ?_;apply I_<;>intro g1;rotate_left
 .refine J ?_;exact⟨⟨-1,aK,⟨λ_=>rfl,λ_ _=>⟨rfl,λj az=>eG j Ad⟩,λ_ h=>absurd h Ad⟩⟩,bC⟩
 have cw:i<(o.insts m).length:=Ad
 obtain⟨p,hIn⟩:=o.A7 cw;obtain⟨sG,iv⟩:=o.oe cw;have ve:=hIn.room;have ot:=cA.ext Flat.ext av;have q1:=aj.ext Flat.ext bC;obtain⟨a2,rfl⟩:∃a,aN=some a:=cA.addr;obtain⟨Iv,rfl⟩:=aj.addr;have sJ:o.xv m s i=s[o.cU m i]' Ad:=by unfold o.xv;rw[List.getElem?_eq_getElem Ad];rfl
 refine J ?_;refine K_ (o.cU m i) (by rw[iv]) Ad ?_;refine J ?_;obtain⟨loc,amZ⟩:∃loc,loc=s[o.cU m i]:=⟨_,rfl⟩;rw[<-amZ] at sJ ⊢;clear ot q1;refine J_ (aiD _ m i loc bh (b4.ext bC) aG (aQ.ext bC)) ?_;rintro _ bq ⟨⟨t,rfl,ch⟩,aD⟩;replace ao:=aD.obj ao;replace bI:=aD.obj bI;have b6:=bC.trans aD;have gV:=av.trans aD;have Fy:=ch.is;have vi:¬o.mz m s i->∀j,j<i+1->¬o.mz m s j:=λct j az de=>by
  by_cases e:j=i
  .rw[e] at de;exact ct de
  .exact eG j Ad de
 cases t with
 | false =>
  have ct:¬o.mz m s i:=λde=>by have:=de.loc;rw[sJ,<-Fy] at this;cases this
  have:=vi ct
  refine J ?_;exact⟨Ad,aK,(),⟨aK,trivial⟩,gV,this⟩
 | true =>
 have Ex:=jI.ext Flat.ext gV;refine J ?_;have Si:∀{W},Ext bq W->W.heap[bQ]? = _:=λe=>e.obj ao;clear ao bI;refine L_ 52 (o.refs m).length [1,2,5,6,7,8,9,10,11,33,34,35,50,51] (λb:Bool=>[(12,.bool b)]) false (λk b W=>Ext bq W/\(∀r,r<k->o.kn m i loc r=true->o.r8 m r=false)/\(b=true↔∃r,r<k/\o.kn m i loc r=true/\o.uC m s r)) a6 a6 ⟨Ext.refl _,λr aS=>absurd aS (HI _),CC⟩ ?_;rintro k b S bH AN ⟨bc,yS,y2⟩;have ao:=Si bc;have cM:=b6.trans bc;have fZ:=gV.trans bc;have B1:=Ex.ext Flat.ext bc;refine J ?_;apply I_<;>intro g2;rotate_left
 .have oW:k=(o.refs m).length:=Ad
  have Ar:b=true↔o.mz m s i:=by
   rw[o.YY,sJ,y2];constructor
   .rintro⟨r,h1,I,ab⟩;exact⟨Fy.symm,λkc pE=>yS kc (by have:=pE.lt;omega) ((o.CE hk pE.lt).2 pE),r,(o.CE hk Ad).1 I,ab⟩
   .intro de;obtain⟨r,h1,I⟩:=de.on;exact⟨r,by have:=h1.lt;omega,(o.CE hk h1.lt).2 h1,I⟩
  clear yS y2;cases b with
  | true =>
   have de:=Ar.1 rfl;refine J ?_;have nt:o.sj m s (i:Int):=⟨λaw=>absurd bG aw,λ_ h=>absurd h Ad,λ_ _=>⟨Ad,by rw[AH1];exact de,λj az=>eG j Ad⟩⟩;exact⟨⟨i,aK,nt⟩,cM⟩
  | false =>
   have:=vi λde=>by have:=Ar.2 de;cases this
   clear Ar eG;refine J ?_;exact⟨Ad,aK,(),⟨aK,trivial⟩,fZ,this⟩
 have a7:k<(o.refs m).length:=Ad
 obtain⟨Bp,pp,oi,bw⟩:=o.mI (m:=m) (ref:=k) ⟨hk,Ad,Ad⟩;obtain⟨Bt,Bu⟩:=bw.rel;have fk:(o.refs m)[k].inst=(Bp:Int):=bw.at_.mX;obtain⟨l7,rfl⟩:=B1.addr;have gM:=B1.at k a7;obtain⟨r,aS⟩:∃r,r=(o.refs m)[k]:=⟨_,rfl⟩;rw[<-aS] at gM fk;have gM:fc bH (l7.add (k*2)) r.enc:=gM;unfold o.Ref.enc at gM;obtain⟨jq,qZ⟩:∃jq,jq=o.CF m k:=⟨_,rfl⟩;have Q5:o.kn m i loc k=(decide (r.inst=i)&&decide (jq=loc)):=by unfold o.kn;rw[Bt,<-fk,qZ]
 have dL:∀{W},Ext bH W->Du F.q #[.I k,.pointer (some ⟨bQ,0,none⟩),.pointer (some ⟨dC,0,none⟩),.pointer (some ⟨dF,0,none⟩)] W λu w'=>u = .I jq/\Ext W w':=λe=>by rw[qZ];exact dL k (fZ.trans e) a7
 have uf:∀{W} (fS:Bool),Ext bH W->(o.kn m i loc k=true->o.r8 m k=false)->(fS=true↔b=true\/(o.kn m i loc k=true/\o.uC m s k))->Ext bq W/\(∀r,r<k+1->o.kn m i loc r=true->o.r8 m r=false)/\(fS=true↔∃r,r<k+1/\o.kn m i loc r=true/\o.uC m s r):=λfS e h1 I=>⟨bc.trans e,λr aS ay=>by
   by_cases e:r=k
   .subst e;exact h1 ay
   .exact yS r Ad ay,by
   rw[I,y2];constructor
   .rintro(⟨r,db,a2,a3⟩ | ⟨a2,a3⟩)
    .exact⟨r,Ad,a2,a3⟩
    .exact⟨k,Ad,a2,a3⟩
   .rintro⟨r,db,a2,a3⟩;by_cases e:r=k
    .subst e;exact .inr ⟨a2,a3⟩
    .exact .inl ⟨r,Ad,a2,a3⟩⟩
 clear y2 Ex Bt Bu;refine J ?_;intro wn uO FJ e8 eC;refine J ?_;intro cB ja p7;replace p7:cB.heap[uO]? = some (.cells #[.I r.inst,.I r.cmd] T.c):=by first | exact p7 | (rw[aS];exact p7)
 have bt:Ext bH cB:=ja.ext e8 FJ;replace ao:=bt.obj ao;have eN:=cM.trans bt;have hG:=fZ.trans bt;clear eC gM B1;by_cases g7:r.inst=(i:Int);rotate_left
 .have ad:o.kn m i loc k=false:=by rw[Q5,decide_eq_false g7];rfl
  have:=uf b bt (λh=>by rw[ad] at h;cases h) ⟨λh=>.inl h,λh=>by rcases h with h | ⟨h,_⟩;exact h;rw[ad] at h;cases h⟩
  clear yS uf eG vi dL gT Sj Si;refine J ?_;exact⟨a7,aK,b,⟨aK,trivial⟩,this⟩
 have mN:o.kn m i loc k=decide (jq=loc):=by rw[Q5,decide_eq_true g7,AJ2]
 replace uf:=i_ @uf trivial;replace eG:=i_ eG trivial;replace dL:=i_ @dL trivial;replace vi:=i_ vi trivial;have C1:o.mz m s i->o.kn m i loc k=true->o.r8 m k=false:=λde ay=>de.E1 k (by rw[sJ];exact(o.CE hk a7).1 ay);replace C1:=i_ C1 trivial;replace mN:=i_ mN trivial;clear yS qZ Q5 fk bw aS gT Sj Si;refine J ?_;refine V_ (first:=[]) (cap:=[.pointer (some ⟨bQ,0,none⟩),.pointer (some ⟨dC,0,none⟩),.pointer (some ⟨dF,0,none⟩)]) Ci (dL.1 bt) ?_;rintro _ cG ⟨rfl,b2⟩;replace ao:=b2.obj ao;have fW:=eN.trans b2;have fw:=hG.trans b2;have ZF:=bt.trans b2;clear dL;by_cases g8:jq=loc;rotate_left
 .have ad:o.kn m i loc k=false:=by rw[mN.1,decide_eq_false g8]
  have:=uf.1 b ZF (λh=>by rw[ad] at h;cases h) ⟨λh=>.inl h,λh=>by rcases h with h | ⟨h,_⟩;exact h;rw[ad] at h;cases h⟩
  clear uf eG vi;refine J ?_;exact⟨a7,aK,b,⟨aK,trivial⟩,this⟩
 have h1:o.kn m i loc k=true:=by rw[mN.1,decide_eq_true g8]
 replace h1:=i_ h1 trivial;refine J ?_;refine J_ (aiE _ m k cG (b4.ext fW) aG (aQ.ext fW)) ?_;rintro _ ew ⟨⟨t,rfl,b5⟩,cj⟩;replace ao:=cj.obj ao;have kF:=fW.trans cj;have pR:=fw.trans cj;have ZE:=ZF.trans cj;have k2:=b5.is;cases t with
 | true =>
  have ct:¬o.mz m s i:=λde=>by have:=C1.1 de h1.1;rw[<-k2] at this;cases this
  have:=vi.1 ct
  clear uf eG vi C1 b5 k2;refine J ?_;exact⟨Ad,aK,(),⟨aK,trivial⟩,pR,this⟩
 | false =>
 cases b with
 | true =>
  have:=uf.1 true ZE (λ_=>k2.symm) ⟨λh=>.inl h,λ_=>rfl⟩
  clear uf eG vi C1 b5 k2;refine J ?_;exact⟨a7,aK,true,⟨aK,trivial⟩,this⟩
 | false =>
  replace k2:=i_ k2 trivial;clear b5;refine J ?_;refine J_ (ajP _ _ m s k ew (b4.ext kF) aG (aQ.ext kF) (aj.ext Flat.ext kF)) ?_;rintro _ fB ⟨⟨t2,rfl,hO⟩,ek⟩;have Qg:=o.aou bG a7 hO
  have:=uf.1 t2 (ZE.trans ek) (λ_=>k2.1.symm) ⟨λh=>.inr ⟨h1.1,Qg.1 h⟩,λh=>by rcases h with h | ⟨_,h⟩;cases h;exact Qg.2 h⟩
  clear uf eG vi C1 k2 hO Qg;refine J ?_;exact⟨a7,aK,t2,⟨aK,trivial⟩,this⟩
end Go.Proofs.R
namespace a8
open Go Go.RowKit
theorem Zg{α:Type}{p:α->Bool}:∀(l:C_ α) (n:Nat),(mb p l n = -1/\l.filter (λx => !p x)=l)\/∃k,∃h:k<l.length,mb p l n=((n+k:Nat):Int)/\p l[k]=true/\(l.take (k+1)).filter (λx => !p x)=l.take k
 | [],_=>.inl ⟨rfl,rfl⟩
 | x :: r,n=>by
  by_cases ar:p x=true
  .exact .inr ⟨0,CC,by simp[mb,ar],by simpa using ar,by simp[ar]⟩
  .rcases Zg (p:=p) r (n+1) with ⟨h1,I⟩ | ⟨k,hk,h1,I,ab⟩
   .exact .inl ⟨by simp[mb,ar,h1],by simp[ar,I]⟩
   .exact .inr ⟨k+1,by simpa using hk,by simp only[mb,if_neg ar,h1];congr 1;omega,by simpa using I,by simp[ar,ab]⟩
def ajY{α:Type}{q:α->Bool}{l:C_ α}{j:Nat}(h:j<l.length):(l.take (j+1)).filter q=(l.take j).filter q++if q l[j] then [l[j]] else []:=by
 rw[Iu h,AK2];congr 1;cases h:q l[j]<;>simp[h]
theorem TX:∀(cs:C_ B_) (w:A_) (b ae i:Nat) (cur:Array B_) (e:F_),w.heap[b]? = some (.cells cur e)->ae+i+cs.length<=cur.size ->
  ∃ma,(iA w ⟨b,ae,none⟩ cs i).heap[b]? = some (.cells ma e)/\ma.size=cur.size/\(∀j,j<ae+i\/ae+i+cs.length<=j->ma[j]? = cur[j]?)/\∀j (h:j<cs.length),ma[ae+i+j]? = some cs[j]
 | [],w,b,ae,i,cur,e,ak,_=>⟨cur,ak,rfl,λ_ _=>rfl,λj h=>absurd h (HI _)⟩
 | c :: cs,w,b,ae,i,cur,e,ak,aE=>by
  have az:ae+i<cur.size:=by simp at aE;omega
  have h1:=Hr ak az c;have kZ:Addr.add ⟨b,0,none⟩ (ae+i)=Addr.add ⟨b,ae,none⟩ i:=by rw[add_eq,add_eq,SO]
  rw[kZ] at h1;obtain⟨ma,cK,cV,fo,hC⟩:=TX cs _ b ae (i+1) _ e h1 (by simp at aE ⊢;omega);refine⟨ma,cK,by simpa using cV,λj ju=>?_,λj h=>?_⟩
  .rw[fo j (by simp at ju ⊢;omega),Array.getElem?_set_ne _ (by simp at ju;omega)]
  .cases j with
   | zero =>
    rw[AJ1,fo (ae+i) Ad,Array.getElem?_set_self];rfl
   | succ j =>
    have:=hC j (by simpa using h)
    rw[show ae+i+(j+1)=ae+(i+1)+j from Ad,this];rfl
end a8
namespace Go.Proofs.R
open Go Go.RowKit a8
def Yb{w:A_}{b j:Nat}{c:Array B_}{t:F_}{v:B_}(h:w.heap[b]? = some (.cells c t))(az:c[j]? = some v):w.cell? ⟨b,j,none⟩=some v:=by
 simp[World.cell?,h,az]
structure iD(w:World)(b:Nat)(l:List (fC 3)):Prop where
 ex:∃cur,w.heap[b]? = some (.cells cur T.n)/\3*l.length<=cur.size/\∀i (h:i<l.length),∀j,j<3->cur[3*i+j]? = l[i].1[j]?
theorem iD.ext{w w':A_}{b:Nat}{l:C_ (fC 3)}(h:iD w b l)(he:Ext w w'):iD w' b l:=by
 obtain⟨cur,h1,I,ab⟩:=h.ex;exact⟨cur,he.obj h1,I,ab⟩
def iD.at_{w:A_}{b:Nat}{l:C_ (fC 3)}(h:iD w b l){i:Nat}(U:i<l.length):fc w ⟨b,3*i,none⟩ l[i].1:=by
 obtain⟨cur,h1,I,ab⟩:=h.ex;have e:(⟨b,3*i,none⟩:Addr)=Addr.add ⟨b,0,none⟩ (3*i):=by rw[add_eq,SO]
 intro j v az;have aE:j<3:=by
  have:=(List.getElem?_eq_some_iff.1 az).1
  rw[l[i].2.1] at this;exact this
 have cK:=ab i U j aE;rw[az] at cK;rw[e,add_eq,add_eq,SO];exact Yb h1 cK
def iD.take{w:A_}{b:Nat}{l:C_ (fC 3)}(h:iD w b l)(k:Nat):iD w b (l.take k):=by
 obtain⟨cur,h1,I,ab⟩:=h.ex;refine⟨cur,h1,by rw[Hs];omega,λi U j az=>?_⟩;rw[Hs] at U;rw[ab i Ad j az,AI6]
def iD.set{w:A_}{b i:Nat}{l:C_ (fC 3)}(h:iD w b l)(U:i<l.length)(x:fC 3):iD (iA w ⟨b,3*i,none⟩ x.1 0) b (l.set i x):=by
 obtain⟨cur,h1,I,ab⟩:=h.ex;have af:=x.2.1;obtain⟨ma,cK,cV,fo,hC⟩:=TX x.1 w b (3*i) 0 cur _ h1 Ad;refine⟨ma,cK,by rw[XK,cV];exact I,λt aB j az=>?_⟩;rw[XK] at aB;by_cases e:i=t
 .subst e;rw[AK5]
  have:=hC j Ad
  rw[AJ1] at this;rw[this,List.getElem?_eq_getElem Ad]
 .rw[List.getElem_set_ne e,fo _ Ad];exact ab t aB j az
def iD.cut{w:A_}{b k:Nat}{l:C_ (fC 3)}{zs:C_ B_}(h:iD w b l)(bA:3*k+zs.length<=3*l.length):iD (iA w ⟨b,3*k,none⟩ zs 0) b (l.take k):=by
 obtain⟨cur,h1,I,ab⟩:=h.ex;obtain⟨ma,cK,cV,fo,_⟩:=TX zs w b (3*k) 0 cur _ h1 Ad;refine⟨ma,cK,by rw[Hs,cV];omega,λt aB j az=>?_⟩;rw[Hs] at aB;rw[AI6,fo _ Ad];exact ab t Ad j az
theorem auN{P:D_}{ty:F_}{z:B_}(h:(P.info? ty).bind (·.zero)=some z)(w:A_):(zeroValue ty).run P w = .ok z w:=by
 cases U:P.info? ty with
 | none=>rw[U] at h;cases h
 | some i =>
  rw[U] at h;have I:i.zero=some z:=h;simp[zeroValue,uu U,I]
def iD.free{w:A_}{b:Nat}{l:C_ (fC 3)}(h:iD w b l){j:Nat}(az:j<3*l.length):(∃hF,w.cell? ⟨b,j,none⟩=some hF)/\w.frozen? ⟨b,j,none⟩=false:=by
 obtain⟨cur,h1,I,_⟩:=h.ex;exact⟨⟨cur[j]' Ad,Yb h1 (Array.getElem?_eq_getElem Ad)⟩,by simp[World.frozen?,h1]⟩
def AE0{w:A_}{b i:Nat}{l:C_ (fC 3)}{x:fC 3}{a:Addr}{KW:A_->Prop}{t}(h:iD w b l){v:B_}(aF:v = .agg x.1.toArray)(aY:a=⟨b,3*i,none⟩)(U:i<l.length)(hk:∀w1,du b w w1->iD w1 b (l.set i x)->KW w1) :
  B6 3 (.pointer (some a)) v w KW t:=by
 subst aY aF;refine _5 (by simp[x.2.1]) (λj az=>?_) x.2.2 (hk _ (du.iA _ w ⟨b,3*i,none⟩ 0) (h.set U x));rw[add_eq];exact h.free Ad
theorem AE1{S:Fr}{w:A_}{b k n cap:Nat}{l:C_ (fC 3)}{x:G_}{aN:H_ Addr}{cL:B_->A_->Prop}{ty:F_}{t}(h:iD w b l)(af:bp S x = .slice aN n cap)(aw:k+n=l.length)(aY:0<n->aN=some ⟨b,3*k,none⟩)
  (hk:∀v w1,Mod (λi=>i=b) w w1->iD w1 b (l.take k)->cL v w1):uH Tryz.prog (.call ⟨.builtin .clear,#[x],#[T.rC]⟩) ty S w cL t:=by
 have bA:∀w:A_,(zeroValue T.n).run Tryz.prog w = .ok (.agg #[.I 0,.I 0,.slice none 0 0]) w:=auN Ci;have hu:Tryz.prog.underlying T.rC=some (.slice T.n):=Ci
 cases n with
 | zero =>
  refine _F (v:=.tuple #[]) (w':=w) ?_ (hk _ _ (Mod.refl _ _) (h.take k));cases aN<;>simp[execOp,resolve,invoke,builtin,af,Builtin.clear_,run_underlying hu]
 | succ n =>
  obtain rfl:=aY Ad;refine _F (v:=.tuple #[]) (w':=iA w ⟨b,3*k,none⟩ (Builtin.zeroCells #[.I 0,.I 0,.slice none 0 0] (n+1)).toList 0) ?_ (hk _ _ ((du.iA _ w ⟨b,3*k,none⟩ 0).mod rfl) (h.cut ?_))
  .have aj:=Hn Tryz.prog ⟨b,3*k,none⟩ (Builtin.zeroCells #[.I 0,.I 0,.slice none 0 0] (n+1)).toList 0 w (λj az=>?_) ?_
   .simp[execOp,resolve,invoke,builtin,af,Builtin.clear_,run_underlying hu,bA,Value.cells,aj]
   .rw[add_eq];exact h.free (by simp[Builtin.zeroCells] at az;omega)
   .intro c an;simp only[Builtin.zeroCells,Array.toList_map,List.mem_map] at an;obtain⟨i,_,rfl⟩:=an;show((#[Value.int .i64 0,.I 0,.slice none 0 0]:Array B_)[i % 3]!).oneCell'=true;rcases(by omega:i % 3=0\/i % 3=1\/i % 3=2) with e | e | e<;>rw[e]<;>rfl
  .simp[Builtin.zeroCells];omega
end Go.Proofs.R
namespace a8
open Go Go.RowKit
instance awX:Rel (Flat (lL (sz:=3))) (λ_ cs x=>cs=lL x) 3 where
 out h:=⟨_,h,rfl⟩
 oZ h k:=by subst k;exact h
 len h:=by rw[h];exact lM _
 one h:=by rw[h];exact Ai _
 ext _ h:=h
theorem Zo:∀(l:C_ (fC 3)) (i:Nat) (h:i<l.length) (j:Nat),j<3->(l.flatMap lL)[3*i+j]? = l[i].1[j]?
 | x :: l,0,h,j,az=>by
  have:=lM x
  rw[AH8,Nat.mul_zero,SO,List.getElem?_append_left Ad];rfl
 | x :: l,i+1,h,j,az=>by
  have:=lM x
  have fm:=Zo l i (by simpa using h) j az;rw[AH8,List.getElem?_append_right Ad,this,show 3*(i+1)+j - 3=3*i+j from Ad,fm];rfl
end a8
namespace Go.Proofs.R
open Go Go.RowKit a8
def apD{w:A_}{base:Nat}{v:B_}{l:C_ (fC 3)}(h:pV T.n 3 base w v l)(aE:l≠[]):∃b c,v = .slice (some ⟨b,0,none⟩) l.length c/\base<=b/\iD w b l/\l.length<=c/\c<=maxLen:=by
 rcases h.2 with ⟨_,ad⟩ | ⟨g,cap,cur,h1,I,ab,aC,a1,bJ,cr⟩
 .exact absurd (AF7 ad) aE
 .refine⟨g,cap,h1,I,⟨cur,ab,Ad,λi U j az=>?_⟩,aC,a1⟩;have get:∀j,j<3*l.length->cur[j]? = (l.flatMap lL)[j]? := λj az=>by
   rw[<-cr,List.getElem?_take_of_lt Ad,Array.getElem?_toList]
  rw[get _ Ad];exact Zo l i U j az
def iD.jN{w:A_}{b c:Nat}{l:C_ (fC 3)}(h:iD w b l)(an:l.length<=c)(hm:c<=maxLen):bm 3 (Flat lL) w (.slice (some ⟨b,0,none⟩) l.length c) l :=
 ⟨_,_,rfl,an,hm,λ_=>rfl,λa aY i U=>by
  injection aY with aY;subst aY
  have:=h.at_ U
  rw[show(⟨b,3*i,none⟩:Addr)=Addr.add ⟨b,0,none⟩ (i*3) from by rw[add_eq,SO,AH7]] at this;exact this⟩
theorem aiC(b c qH tu:Nat)(l:C_ (fC 3))(p:fC 3->Bool)(w:A_)(h:iD w b l)(an:l.length<=c)(hm:c<=maxLen)
  (ar:∀x∈l,∀w',Mod (λi=>i=b) w w'->Du F.b #[.agg x.1.toArray,.pointer (some ⟨qH,0,none⟩),.pointer (some ⟨tu,0,none⟩)] w' λv bM=>v = .bool (p x)/\Ext w' bM) :
  Du F.f #[.slice (some ⟨b,0,none⟩) l.length c,.func (.func F.b) #[] #[.pointer (some ⟨qH,0,none⟩),.pointer (some ⟨tu,0,none⟩)]] w λv w'=>v = .slice (some ⟨b,0,none⟩) (l.filter λx => !p x).length c/\iD w' b (l.filter λx => !p x)/\Mod (λi=>i=b) w w':=by
 have anb:=hm;unfold maxLen at hm;refine vW E.f ?_;refine oI ?_;refine J ?_;refine J_ (Sx lR E.eW _ l w (h.jN an anb) F.b Ci [] [_,_] p ?_) ?_
 .rintro i U jm w' e rfl;exact ar _ (ED U) w' e.mod
 rintro _ w1 ⟨rfl,ag⟩;rcases Zg (p:=p) l 0 with ⟨ay,au⟩ | ⟨k,hk,ay,anz,au⟩
 .rw[ay];refine J ?_;exact⟨by rw[au],by rw[au];exact h.ext ag,ag.mod⟩
 rw[ay,SO];refine J ?_;have sK:=h.ext ag;refine _M [0,1] (λx:Nat×Nat×C_ (fC 3)=>[(5,.I x.1),(6,.I x.2.1)]) (k,k+1,l) (λx W=>x.2.1<=l.length/\x.1<x.2.1/\x.2.2.length=l.length/\iD W b x.2.2/\Mod (λi=>i=b) w W/\x.2.2.take x.1=(l.take x.2.1).filter (λx => !p x)/\∀j,x.1<=j->x.2.2[j]? = l[j]?) (λx=>l.length - x.2.1) a6 ⟨by simp only;omega,Nat.lt_succ_self _,rfl,sK,ag.mod,au.symm,λ_ _=>rfl⟩ ?_;rintro⟨i,j,R⟩ Ey aM ⟨kO,jM,Bb,vp,zf,r1,vq⟩;dsimp only at kO jM Bb vp zf r1 vq ⊢;clear sK au ay anz;refine J ?_;apply I_<;>intro g3;rotate_left
 .have AO:j=l.length:=Ad
  rw[AO,AE8] at r1;have oW:(l.filter λx => !p x).length=i:=by rw[<-r1,Hs];omega
  refine J ?_;refine _B i l.length c (by simp[eJ,dc,bD]) (by simp[eJ]) (by simp[eJ]) ⟨Ad,an,EC _⟩ CC ?_;rw[if_neg (show ¬c=i by omega),AG3];refine J ?_;refine AE1 (k:=i) vp (by simp only[dc,bD];rfl) Ad (λ_=>by rw[add_eq,SO,AH7]) λv aU j6 mQ=>?_;rw[r1] at mQ;refine J ?_;refine _B 0 i c (by simp[eJ]) (by simp[eJ,dc,bD]) (by simp[eJ]) ⟨Ad,Ad,EC _⟩ CC ?_;rw[if_neg (show ¬c=0 by omega),AG3];refine J ?_;exact⟨by rw[oW,add_eq];rfl,mQ,zf.trans j6⟩
 have Df:j<l.length:=Ad
 have nL:(Addr.add ⟨b,0,none⟩ (j*3))=⟨b,3*j,none⟩:=by
  rw[add_eq,SO,AH7]
 have ie:R[j]' Ad=l[j]:=by
  have:=vq j Ad
  rw[List.getElem?_eq_getElem Ad,List.getElem?_eq_getElem Ad] at this;injection this
 obtain⟨x,af⟩:∃x,x=l[j]:=⟨_,rfl⟩;have A3:x∈l:=by rw[af];exact ED _
 have d1:fc aM (Addr.add ⟨b,0,none⟩ (j*3)) x.1:=by
  rw[nL,af,<-ie];exact vp.at_ _
 have rS:=ajY (q:=λx => !p x) Df;rw[<-r1,<-af] at rS;obtain⟨jR,jF,sc,bE⟩:∃jR jF sc,x.1=[jR,jF,sc]:=by
  have:=x.2.1
  match x.1,this with
  | [jR,jF,sc],_=>exact⟨jR,jF,sc,rfl⟩
 rw[bE] at d1;have adm:∀u∈(#[jR,jF,sc]:Array B_).toList,u.oneCell'=true:=by have:=x.2.2;rw[bE] at this;exact this
 have next:∀{W},iD W b R->Mod (λi=>i=b) w W->p x=true->(iD W b R/\Mod (λi=>i=b) w W/\R.take i=(l.take (j+1)).filter (λx => !p x)/\∀t,i<=t->R[t]? = l[t]?):=λdb a2 a3=>⟨db,a2,by rw[rS,a3];simp,vq⟩
 have G4:∀{W},iD W b (R.set i x)->Mod (λi=>i=b) w W->p x=false->(iD W b (R.set i x)/\Mod (λi=>i=b) w W/\(R.set i x).take (i+1)=(l.take (j+1)).filter (λx => !p x)/\∀t,i+1<=t->(R.set i x)[t]? = l[t]?):=λdb a2 a3=>⟨db,a2,by
  rw[rS,a3,Iu (by rw[XK];omega),AK5,List.take_set_of_le (EC _)];simp,λt aB=>by
  rw[List.getElem?_set_ne Ad];exact vq t Ad⟩
 clear rS r1 ie;replace next:=i_ @next trivial
 replace G4:=i_ @G4 trivial;replace ar:=i_ ar trivial;refine J ?_;intro aU h2 gZ aq bZ;have aoC:=vp.ext aq;have m4:=zf.trans aq.mod;have qS:=ar.1 x A3 aU m4;rw[bE] at qS;have qS:Du F.b #[.agg #[jR,jF,sc],.pointer (some ⟨qH,0,none⟩),.pointer (some ⟨tu,0,none⟩)] aU λv bM=>v = .bool (p x)/\Ext aU bM:=qS;clear d1 ar;refine J ?_;refine V_ (first:=[]) (cap:=[.pointer (some ⟨qH,0,none⟩),.pointer (some ⟨tu,0,none⟩)]) Ci qS ?_;clear qS;rintro _ bh ⟨rfl,av⟩;have yQ:=av.obj bZ;have acf:=aoC.ext av;have m5:=m4.trans av.mod;clear bZ;cases abt:p x with
 | true =>
  have aw:=next.1 acf m5 abt
  clear next G4
  refine J ?_;exact⟨(i,j+1,R),⟨aK,aK,trivial⟩,⟨by simp only;omega,by simp only;omega,Bb,aw⟩,by simp only;omega⟩
 | false =>
  refine J ?_;refine AE0 (x:=x) (i:=i) acf (by rw[bE]) (by rw[add_eq,SO,AH7]) Ad λbq gE anc=>?_;have aw:=G4.1 anc (m5.trans (gE.mod rfl)) abt;clear next G4
  refine J ?_;exact⟨(i+1,j+1,R.set i x),⟨aK,aK,trivial⟩,⟨by simp only;omega,by simp only;omega,by rw[XK];exact Bb,aw⟩,by simp only;omega⟩
def amy(cs:C_ B_)(m:o.Model)(q l:Int)(w:A_)(h:o.dj w cs m)(aG:m.cv)(ft:(o.check m).cJ=0) :
  Du F.MA #[.agg cs.toArray,.I q,.I l] w λu w'=>iE w.heap.size w' u (o.vb m q l (o.refs m).length)/\Ext w w':=by
 have b4:=h;have gQ:=o.hE ft;obtain⟨b0,bz,bO,c1,bT,c2,bV,bu,b1,bB,rfl,ad,h1,I,ab,aC,eu,dz,dJ,dR,ee⟩:=h.form;refine bl E.MA ?_;refine J ?_;intro w1 bW eX ag ba;refine J ?_;refine J_ (s0 _ m w1 (b4.ext ag) aG) ?_;rintro bK aA ⟨dP,ai⟩;have aP:=aJ.e3 (enc:=o.cO.enc) (λ_=>rfl) dP;obtain⟨b8,ci,rfl,_⟩:=aP.form;replace ba:=ai.obj ba;have aH:=ag.trans ai;refine J ?_;refine J_ (Bs _ m aA (b4.ext aH) aG gQ.lim) ?_;rintro vr aM ⟨fD,ah⟩;have bG:=aJ.e3 (enc:=o.Ref.enc) (λ_=>rfl) fD;obtain⟨e9,gY,rfl,axf⟩:=bG.form;replace ba:=ah.obj ba;replace aP:=aP.ext Flat.ext ah;have aR:=aH.trans ah;have alP:=ba;have gf:=o.xk gQ;have RO:=o.qo gQ.lim;clear dP fD ba;refine J ?_;refine L_ 10 (o.refs m).length [1,2,3,7,8] (λv:fy=>[(9,.slice v.1 v.2.1 v.2.2)]) (none,0,0) (λi v W=>Ext aM W/\iE aM.heap.size W (.slice v.1 v.2.1 v.2.2) (o.vb m q l i)) a6 a6 ⟨Ext.refl _,aJ.nil _ _ _ _ _⟩ ?_;rintro i pb S aU U ⟨aq,dD⟩;have ba:=aq.obj alP;have yI:=aP.ext Flat.ext aq;have qO:=bG.ext Flat.ext aq;refine J ?_;apply I_<;>intro g1;rotate_left
 .have en:i=(o.refs m).length:=Ad
  subst en;refine J ?_;exact⟨aJ.low aR.size dD,aR.trans aq⟩
 have cw:i<(o.refs m).length:=Ad
 obtain⟨Bp,p,k,bw⟩:=o.mI (m:=m) (ref:=i) ⟨ft,Ad,Ad⟩;obtain⟨Bt,Bu⟩:=bw.rel;have au:=bw.at_.U;have ar:=bw.at_.ar;have hp:=bw.at_.hk;have j5:=bw.at_.ip;have fk:(o.refs m)[i].inst=(Bp:Int):=bw.at_.mX;have j7:(o.refs m)[i].cmd=(k:Int):=bw.at_.pI;have awk:=o.aaJ m q l i;obtain⟨l7,rfl⟩:=bG.addr;obtain⟨gp,rfl⟩:=aP.addr;obtain⟨a3,rfl⟩:=ab.addr;obtain⟨kr,bY,dV,c3,eQ,er⟩:=ab.at p ar;obtain⟨vC,uQ,rfl,vy⟩:=er.form;obtain⟨ac,rfl⟩:=er.addr;obtain⟨eC,fi,va,e2,gi,fb⟩:=er.at k hp;obtain⟨fA,fL,rfl,_⟩:=gi.form;obtain⟨oq,nP,rfl,_⟩:=fb.form;unfold o.dt.enc at c3;unfold o.dI.enc at e2;have bn:=aR.trans aq;replace c3:=c3.ext bn;replace e2:=e2.ext bn;have gR:=o.sv ar hp;refine J ?_;intro bh av;replace ba:=av.obj ba;replace yI:=yI.ext Flat.ext av;replace qO:=qO.ext Flat.ext av;replace c3:=c3.ext av;replace e2:=e2.ext av;have dM:=dD.ext av;refine J ?_;refine K_ Bp (by rw[fk]) Ad ?_;refine J ?_;refine K_ p (by rw[j5]) ar ?_;refine J ?_;refine K_ k (by rw[j7]) Ad ?_;refine J ?_;intro bq l8 wU aD iU;refine⟨aD,?_⟩;refine J ?_;intro bH dw bZ;have bc:Ext bh bH:=dw.ext aD wU;replace qO:=qO.ext Flat.ext bc;have dU:=dM.ext bc;have cM:=aq.trans (av.trans bc);clear iU c3 e2 yI;refine J ?_;apply I_<;>intro g2
 .refine J ?_;apply I_<;>intro g3
  .have hK:o.kn m q l i=true:=by
    unfold o.kn;rw[Bt,Bu,gR,AK6,decide_eq_true_eq,decide_eq_true_eq];exact⟨Ad,g3⟩
   refine J ?_;intro cB jZ mc bt cD;refine J ?_;refine S_ (y:=(i:Int)) (dU.ext bt) cD rfl (λ_=>rfl) hA Ad (by unfold maxLen;omega) (by have:=cM.size;have:=bt.size;omega) λaN c d cG fu tN=>?_;refine J ?_;refine⟨Ad,aK,(aN,c,d),⟨rfl,trivial⟩,(cM.trans bt).grown tN λj az=>(dU.lt j az).1,?_⟩;rw[o.Q4,if_pos hK];exact fu
  .have hK:¬o.kn m q l i=true:=by
    unfold o.kn;rw[Bt,Bu,gR,AK6,decide_eq_true_eq,decide_eq_true_eq];exact λcR=>g3 cR.2
   refine J ?_;refine⟨Ad,aK,pb,⟨aK,trivial⟩,cM,?_⟩;rw[o.Q4,if_neg hK,SN];exact dU
 .have hK:¬o.kn m q l i=true:=by
   unfold o.kn;rw[Bt,Bu,gR,AK6,decide_eq_true_eq,decide_eq_true_eq];exact λcR=>g2 Ad
  refine J ?_;refine⟨Ad,aK,pb,⟨aK,trivial⟩,cM,?_⟩;rw[o.Q4,if_neg hK,SN];exact dU
def o.aot{m:o.Model}{s:C_ Int}{r:Nat}{t:Bool}(bG:o.iN m s)(aS:r<(o.refs m).length)(h:zK m s r t):t=true↔o.uC m s r:=by
 obtain⟨q,p,k,bw⟩:=o.mI (m:=m) (ref:=r) ⟨bG.1,Ad,Ad⟩;unfold zK at h;rw[h];constructor
 .rintro⟨_,_,ab⟩;exact⟨q,p,k,bw,ab q p k bw⟩
 .rintro⟨eK,gA,k',qM,ab⟩;refine⟨bG,bw.told,λa b c CN=>?_⟩;obtain⟨rfl,rfl,rfl⟩:=qM.one CN;exact ab
theorem ai3(cs:C_ B_)(v:B_)(m:o.Model)(s:C_ Int)(q l:Int)(w:A_)(h:o.dj w cs m)(aG:m.cv)(aj:c9 w v s)(bG:o.iN m s) :
  Du F.Mz #[.agg cs.toArray,v,.I q,.I l] w λu w'=>(∃t:Bool,u = .bool t/\(t=true↔o.H3 m s q l))/\Ext w w':=by
 have b4:=h;have ft:=bG.1;have gQ:=o.hE ft;have RO:=o.qo gQ.lim;obtain⟨b0,bz,bO,c1,bT,c2,bV,bu,b1,bB,rfl,_⟩:=h.form;obtain⟨os,rG,rfl,_⟩:=aj.form;refine bl E.Mz ?_;refine J ?_;intro w1 c6 fT ag bo;refine J ?_;refine J_ (arX _ m q l w1 (b4.ext ag) aG) ?_;rintro _ aA ⟨⟨t,rfl,ch⟩,ai⟩;replace bo:=ai.obj bo;have aH:=ag.trans ai;have Fy:=ch.is;cases t with
 | false =>
  refine J ?_;exact⟨⟨false,aK,by simp only[Bool.false_eq_true,false_iff];intro de;have:=de.loc;rw[<-Fy] at this;cases this⟩,aH⟩
 | true =>
 refine J ?_;refine J_ (amy _ m q l aA (b4.ext aH) aG ft) ?_;rintro u aM ⟨eT,ah⟩;have hH:=kR eT;obtain⟨axr,uR,rfl,_⟩:=hH.form;replace bo:=ah.obj bo;have aR:=aH.trans ah;have alT:=bo;have vg:=o.aaJ m q l (o.refs m).length;obtain⟨H,ZM⟩:∃H,H=o.vb m q l (o.refs m).length:=⟨_,rfl⟩;rw[<-ZM] at hH vg ⊢;have qb:∀x,x∈H↔∃r:Nat,x=r/\r<(o.refs m).length/\o.mB m q l r:=λx=>by
  rw[ZM,o.amz];exact⟨λ⟨r,h1,I,ab⟩=>⟨r,h1,I,(o.CE ft I).1 ab⟩,λ⟨r,h1,I,ab⟩=>⟨r,h1,I,(o.CE ft I).2 ab⟩⟩
 clear eT bo;refine J ?_;refine L_ 11 H.length [1,4,9] (λb:Bool=>[(10,.bool b)]) false (λi b W=>Ext aM W/\(∀j (az:j<H.length),j<i->o.r8 m H[j]=false)/\(b=true↔∃j,∃az:j<H.length,j<i/\o.uC m s H[j].toNat)) a6 a6 ⟨Ext.refl _,λj _ az=>absurd az (HI _),CC⟩ ?_;rintro i b S aU U ⟨aq,yS,y2⟩;have bo:=aq.obj alT;have ZL:=hH.ext Flat.ext aq;have bn:=aR.trans aq;refine J ?_;apply I_<;>intro g1;rotate_left
 .refine J ?_;refine⟨⟨b,aK,y2.trans ⟨λ⟨j,az,_,aC⟩=>?_,λde=>?_⟩⟩,bn⟩
  .obtain⟨r,h1,I,ab⟩:=(qb H[j]).1 (ED az);refine⟨Fy.symm,λkc pE=>?_,r,ab,by rw[h1] at aC;simpa using aC⟩;obtain⟨GM,eP,e⟩:=List.mem_iff_getElem.1 ((qb (kc:Int)).2 ⟨kc,rfl,pE.lt,pE⟩);rw[<-e];exact yS GM eP Ad
  .obtain⟨r,h1,I⟩:=de.on;obtain⟨j,az,e⟩:=List.mem_iff_getElem.1 ((qb (r:Int)).2 ⟨r,rfl,h1.lt,h1⟩);exact⟨j,az,Ad,by rw[e];simpa using I⟩
 have cw:i<H.length:=Ad
 obtain⟨nM,rfl⟩:=hH.addr;obtain⟨r,k3,jK,RL⟩:=(qb H[i]).1 (ED cw);refine J ?_;refine P_ (.bool (o.r8 m H[i])) (λw' e=>(arY _ m H[i] w' (b4.ext (bn.trans e)) aG).mono λu bM ⟨⟨t,h1,I⟩,ab⟩=>⟨by rw[h1,I.is],ab⟩) ?_;refine J ?_;intro bh av;replace bo:=av.obj bo;replace ZL:=ZL.ext Flat.ext av;have bC:=bn.trans av;cases hS:o.r8 m H[i] with
 | true =>
  refine J ?_;refine⟨⟨false,aK,by simp only[Bool.false_eq_true,false_iff];intro de;have:=de.E1 r RL;rw[<-k3,hS] at this;cases this⟩,bC⟩
 | false =>
 have aaB:∀j (az:j<H.length),j<i+1->o.r8 m H[j]=false:=λj az ho=>by
  by_cases e:j=i
  .subst e;exact hS
  .exact yS j az Ad
 refine J ?_;cases b with
 | true =>
  refine J ?_;intro bq aD;refine J ?_;refine⟨cw,aK,true,⟨aK,trivial⟩,(aq.trans av).trans aD,aaB,?_⟩;simp only[true_iff];obtain⟨j,az,h1,I⟩:=y2.1 rfl;exact⟨j,az,Ad,I⟩
 | false =>
  obtain⟨qi,Kz⟩:∃qi:Bool,(qi=true↔o.uC m s r):=⟨@decide (o.uC m s r) (Classical.propDecidable _),@decide_eq_true_iff _ (Classical.propDecidable _)⟩;replace Kz:=i_ Kz trivial;refine J ?_;refine P_ (.bool qi) (λw' e=>(arI _ _ m s H[i] w' (b4.ext (bC.trans e)) aG (aj.ext Flat.ext (bC.trans e))).mono λu bM ⟨⟨t,h1,I⟩,ab⟩=>⟨by
   rw[h1];congr 1;rw[k3] at I;exact Bool.eq_iff_iff.2 ((o.aot bG jK I).trans Kz.1.symm),ab⟩) ?_
  refine J ?_;intro bq aD;refine J ?_;refine⟨cw,aK,qi,⟨aK,trivial⟩,(aq.trans av).trans aD,aaB,Kz.1.trans ⟨λcR=>⟨i,cw,Ad,by rw[k3];simpa using cR⟩,λ⟨j,az,h1,I⟩=>?_⟩⟩;by_cases e:j=i
  .subst e;rw[k3] at I;simpa using I
  .have:=y2.2 ⟨j,az,Ad,I⟩
   cases this
theorem af7(cs:C_ B_)(v:B_)(m:o.Model)(s:C_ Int)(w:A_)(h:o.dj w cs m)(aG:m.cv)(aj:c9 w v s) :
  Du F.My #[.agg cs.toArray,v] w λu w'=>(∃i:Int,u = .I i/\o.sj m s i)/\Ext w w':=by
 have b4:=h;obtain⟨b0,bz,bO,c1,bT,c2,bV,bu,b1,bB,rfl,_⟩:=h.form;obtain⟨os,rG,rfl,_⟩:=aj.form;refine bl E.My ?_;refine J ?_;intro w1 bQ c7 ag ao;refine J ?_;refine J_ (Hm _ m w1 (b4.ext ag) aG) ?_;rintro _ aA ⟨rfl,ai⟩;replace ao:=ai.obj ao;have aH:=ag.trans ai;unfold uZ;refine J ?_;refine Y_ (v:=.I (o.check m).cJ) rfl ?_;refine J ?_;refine I_ (λhk=>?_) (λhk=>?_);rotate_left
 .have aw:¬o.iN m s:=λbG=>hk bG.1;refine J ?_;exact⟨⟨-1,aK,⟨λ_=>rfl,λbG=>absurd bG aw,λbG=>absurd bG aw⟩⟩,aH⟩
 refine J ?_;refine J_ (arK _ m _ s aA (b4.ext aH) aG (aj.ext Flat.ext aH)) ?_;rintro _ aM ⟨⟨t,rfl,aB⟩,ah⟩;replace ao:=ah.obj ao;have aR:=aH.trans ah;cases t with
 | false =>
  have aw:¬o.iN m s:=λbG=>by have:=aB.2 bG;cases this
  refine J ?_;exact⟨⟨-1,aK,⟨λ_=>rfl,λbG=>absurd bG aw,λbG=>absurd bG aw⟩⟩,aR⟩
 | true =>
 have bG:=aB.1 rfl;have gQ:=o.hE hk;have gf:=o.xk gQ;have AQ:o.lay m=o.layout m:=o.zg hk;obtain⟨f6,f7,f8⟩:=o.pH m;have hlen:=bG.2.len;refine J ?_;refine J_ (TF _ m aM (b4.ext aR) aG) ?_;rintro _ aU ⟨⟨ys,rfl,Au⟩,aq⟩;rw[AQ] at Au;obtain⟨eH,d0,dK,d1,eg,d2,eD,d3,eU,d4,rfl,_,_,cA,_⟩:=Au.here.form;replace ao:=aq.obj ao;have bn:=aR.trans aq;refine J ?_;refine Y_ (v:=.slice eg (o.layout m).insts.length d2) rfl ?_;have alL:=ao;clear ao;refine J ?_;refine L_ 6 (o.layout m).insts.length [1,2,5] (λ_:Unit=>[]) () (λi _ W=>Ext aU W/\∀j,j<i->¬o.mz m s j) a6 a6 ⟨Ext.refl _,λj az=>absurd az (HI _)⟩ ?_;rintro i _ S bh U ⟨av,eG⟩;have ao:=av.obj alL;have bC:=bn.trans av;refine J ?_;apply I_<;>intro g1;rotate_left
 .refine J ?_;exact⟨⟨-1,aK,⟨λ_=>rfl,λ_ _=>⟨rfl,λj az=>eG j Ad⟩,λ_ h=>absurd h Ad⟩⟩,bC⟩
 have cw:i<(o.insts m).length:=Ad
 obtain⟨p,hIn⟩:=o.A7 cw;obtain⟨sG,iv⟩:=o.oe cw;have ve:=hIn.room;have ot:=cA.ext Flat.ext av;have q1:=aj.ext Flat.ext bC;obtain⟨a2,rfl⟩:=cA.addr;obtain⟨Iv,rfl⟩:=aj.addr;have sJ:o.xv m s i=s[o.cU m i]' Ad:=by unfold o.xv;rw[List.getElem?_eq_getElem Ad];rfl
 refine J ?_;refine K_ (o.cU m i) (by rw[iv]) Ad ?_;refine J ?_;obtain⟨E5,Q2⟩:∃E5:Bool,(E5=true↔o.H3 m s i s[o.cU m i]):=⟨@decide (o.H3 m s i s[o.cU m i]) (Classical.propDecidable _),@decide_eq_true_iff _ (Classical.propDecidable _)⟩;refine P_ (.bool E5) (λw' e=>(ai3 _ _ m s i s[o.cU m i] w' (b4.ext (bC.trans e)) aG (aj.ext Flat.ext (bC.trans e)) bG).mono λu bM ⟨⟨t,h1,I⟩,ab⟩=>⟨by
   rw[h1];congr 1;exact Bool.eq_iff_iff.2 (I.trans Q2.symm),ab⟩) ?_
 refine J ?_;intro bq aD;have Ar:E5=true↔o.mz m s i:=by rw[o.YY,sJ];exact Q2
 cases E5 with
 | true =>
  have de:=Ar.1 rfl;refine J ?_;have nt:o.sj m s (i:Int):=⟨λaw=>absurd bG aw,λ_ h=>absurd h Ad,λ_ _=>⟨Ad,by rw[AH1];exact de,λj az=>eG j Ad⟩⟩;exact⟨⟨i,aK,nt⟩,bC.trans aD⟩
 | false =>
  have ank:∀j,j<i+1->¬o.mz m s j:=λj az de=>by
   by_cases e:j=i
   .rw[e] at de
    have:=Ar.2 de
    cases this
   .exact eG j Ad de
  clear Ar Q2 eG;refine J ?_;exact⟨Ad,aK,(),trivial,av.trans aD,ank⟩
theorem ya.ext{w w':A_}{v:B_}{l:C_ o.oC}(he:Ext w w')(h:ya w v l):ya w' v l:=bm.ext (R:=zH) (λ_ _ _ _ he h=>zH.ext he h) he h
end Go.Proofs.R
namespace a8
open Go Go.RowKit
theorem Zd{α β:Type}{R:α->β->Prop}{f:α->Bool}{g:β->Bool}:∀(l:C_ α) (r:C_ β),l.length=r.length->(∀i (h1:i<l.length) (I:i<r.length),R l[i] r[i]/\f l[i]=g r[i])->(l.filter f).length=(r.filter g).length/\∀i (h1:i<(l.filter f).length) (I:i<(r.filter g).length),R (l.filter f)[i] (r.filter g)[i]
 | [],[],_,_=>⟨rfl,λi h=>by cases h⟩
 | x :: l,[],h,_=>by simp at h
 | [],y :: r,h,_=>by simp at h
 | x :: l,y :: r,h,bG=>by
  obtain⟨ad,h1⟩:=bG 0 CC CC;obtain⟨cK,cV⟩:=Zd l r (by simpa using h) λi a b=>bG (i+1) (by simpa using a) (by simpa using b);simp only[List.getElem_cons_zero] at ad h1;by_cases aG:g y=true
  .have ay:=h1.trans aG;simp only[List.filter_cons_of_pos ay,List.filter_cons_of_pos aG];refine⟨by simp[cK],λi a b=>?_⟩;cases i with
   | zero=>exact ad
   | succ i=>exact cV i (by simpa using a) (by simpa using b)
  .have ay:¬f x=true:=λe=>aG (h1.symm.trans e);simp only[List.filter_cons_of_neg ay,List.filter_cons_of_neg aG];exact⟨cK,cV⟩
end a8
namespace Go.Proofs.R
open Go Go.RowKit a8
def agI(x:o.oC)(lC vr:B_)(m:o.Model)(i:Int)(h2 dC:Nat)(w:A_)(jI:tf w vr (o.refs m))(hlen:(o.refs m).length<2147483648)(af:x.cmd = -1\/(0<=x.cmd/\x.cmd.toNat<(o.refs m).length))(fj:c9 w lC x.to)
  (bZ:w.heap[h2]? = some (.cells #[vr] T.g))(bS:w.heap[dC]? = some (.cells #[.I i] T.a)) :
  Du F.b #[.agg #[.I x.cmd,.I x.k9,lC],.pointer (some ⟨h2,0,none⟩),.pointer (some ⟨dC,0,none⟩)] w λu w'=>u = .bool (!o.vE m i x)/\Ext w w':=by
 obtain⟨e9,gY,rfl,_⟩:=jI.form;obtain⟨ei,eW,rfl,_⟩:=fj.form;refine bl E.b ?_;rcases af with af | ⟨oY,gT⟩
 .have ar:o.vE m i x=false:=by unfold o.vE;rw[decide_eq_false Ad];rfl
  rw[ar,af];refine J ?_;intro w1 bW eX ag ba;refine J ?_;intro aA ai;refine J ?_;exact⟨aK,ag.trans ai⟩
 .obtain⟨k,hk⟩:∃k:Nat,x.cmd=k:=⟨x.cmd.toNat,Ad⟩;have oW:k<(o.refs m).length:=Ad
  obtain⟨l7,rfl⟩:=jI.addr;have ar:o.vE m i x=decide ((o.refs m)[k].inst=i):=by
   unfold o.vE o.Dr;rw[decide_eq_true oY,AJ2,hk,AH1,List.getElem?_eq_getElem oW]
  rw[ar,hk];clear ar hk oY gT;refine J ?_;intro w1 bW eX ag ba;replace bZ:=ag.obj bZ;replace bS:=ag.obj bS;replace jI:=jI.ext Flat.ext ag;refine J ?_;intro aA ai;exact⟨aK,ag.trans ai⟩
def aiB(ae:H_ Addr)(c qH tu:Nat)(w:A_)(h:bm 3 (Flat lL) w (.slice ae 0 c) ([]:C_ (fC 3))) :
  Du F.f #[.slice ae 0 c,.func (.func F.b) #[] #[.pointer (some ⟨qH,0,none⟩),.pointer (some ⟨tu,0,none⟩)]] w λv w'=>v = .slice ae 0 c/\Ext w w':=by
 refine vW E.f ?_;refine oI ?_;refine J ?_;refine J_ (Sx lR E.eW _ ([]:C_ (fC 3)) w h F.b Ci [] [_,_] (λ_=>true) ?_) ?_
 .rintro i U;cases U
 rintro _ w1 ⟨rfl,ag⟩;rw[show mb (λ_=>true) ([]:C_ (fC 3)) 0 = -1 from rfl];refine J ?_;exact⟨aK,ag⟩
def uT(m:o.Model)(i:Int)(c:fC 3):Bool:=match c.1 with
 | .int _ n :: _ => !(decide (0<=n)&&decide (o.Dr m n.toNat=i))
 | _=>false
def Xy(cs:C_ B_)(v:B_)(m:o.Model)(s:C_ Int)(w:A_)(h:o.dj w cs m)(aG:m.cv)(aQ:gJ w)(aj:c9 w v s) :
  Du F.bs #[.agg cs.toArray,v] w λu w'=>((o.iN m s/\∃i,o.sj m s i/\ya w' u (o.ra m s i))\/(¬o.iN m s/\u = .slice none 0 0))/\Ext w w':=by
 have b4:=h;obtain⟨b0,bz,bO,c1,bT,c2,bV,bu,b1,bB,rfl,_⟩:=h.form;obtain⟨os,rG,rfl,_⟩:=aj.form;refine bl E.bs ?_;refine J ?_;intro w1 bQ c7 ag ao;refine J ?_;refine J_ (ajO _ _ m s w1 (b4.ext ag) aG (aQ.ext ag) (aj.ext Flat.ext ag)) ?_;rintro u aA ⟨hO,ai⟩;replace ao:=ai.obj ao;have aH:=ag.trans ai;rcases hO with ⟨bG,yZ⟩ | ⟨bG,rfl⟩
 rotate_left
 .refine J ?_;refine J_ (Is _ _ m s aA (b4.ext aH) aG (aQ.ext aH) (aj.ext Flat.ext aH)) ?_;rintro _ aM ⟨⟨i,rfl,nt⟩,ah⟩;obtain rfl:=nt.bad bG;refine J ?_;intro wn dC e5 e8 eC;refine J ?_;intro aU dQ bS;have aq:=dQ.ext e8 e5;clear eC;refine J ?_;exact⟨.inr ⟨bG,aK⟩,(aH.trans ah).trans aq⟩
 obtain⟨DG,pr,rfl,_⟩:=yZ.form;have gQ:=o.hE bG.1;have RO:=o.qo gQ.lim;refine J ?_;refine J_ (Is _ _ m s aA (b4.ext aH) aG (aQ.ext aH) (aj.ext Flat.ext aH)) ?_;rintro _ aM ⟨⟨i,rfl,nt⟩,ah⟩;replace ao:=ah.obj ao;have aR:=aH.trans ah;refine J ?_;intro wn dC e5 e8 eC;refine J ?_;intro aU dQ bS;have aq:=dQ.ext e8 e5;replace bS:aU.heap[dC]? = some (.cells #[.I i] T.a):=bS;clear eC;replace ao:=aq.obj ao;have bn:=aR.trans aq;have Rt:=(yZ.ext ah).ext aq;have cu:=i_ yZ.lt trivial;have z24:aA.heap.size<=aU.heap.size:=Nn ah.size aq.size;clear yZ;refine J ?_;refine I_ (λU=>?_) (λU=>?_)
 .refine J ?_;exact⟨.inl ⟨bG,i,nt,by unfold o.ra;rw[if_pos U];exact Rt.jN⟩,bn⟩
 refine J ?_;refine J_ (zt _ m aU (b4.ext bn) gQ.lim) ?_;rintro vr bh ⟨fD,av⟩;have jI:=aJ.e3 (enc:=o.Ref.enc) (λ_=>rfl) fD;obtain⟨e9,gY,rfl,_⟩:=jI.form;replace bS:=av.obj bS;have bC:=bn.trans av;refine J ?_;intro wn h2 gZ e8 eC;refine J ?_;intro bq gE bZ;have aD:=gE.ext e8 gZ;replace bZ:bq.heap[h2]? = some (.cells #[.slice e9 (o.refs m).length gY] T.g):=bZ;clear eC;replace bS:=aD.obj bS;replace jI:=jI.ext Flat.ext aD;have b6:=bC.trans aD;have GC:=i_ (aJ.ext aD fD) trivial;have Kv:=(Rt.ext av).ext aD;obtain⟨cn,aE,dn,hS⟩:=Kv.ex;clear Rt fD ao;refine J ?_;have RV:∀t (h1:t<cn.length) (I:t<(o.jc m s).length),∃lC,cn[t].1=[.I (o.jc m s)[t].cmd,.I (o.jc m s)[t].k9,lC]:=λt h1 I=>by
  obtain⟨lC,ab,_⟩:=(hS t h1 I).here;exact⟨lC,ab⟩
 have Ke:∀t (h1:t<cn.length) (I:t<(o.jc m s).length),(!uT m i cn[t])=o.vE m i (o.jc m s)[t]:=λt h1 I=>by
  obtain⟨lC,ab⟩:=RV t h1 I;unfold uT;rw[ab];simp only[Bool.not_not];rfl
 by_cases ad:cn=[]
 .subst ad;have Kr:(o.jc m s).length=0:=by rw[<-aE];rfl
  have Ky:o.jc m s=[]:=AF7 Kr;have xc:o.ra m s i=o.jc m s:=by unfold o.ra;rw[if_neg U,Ky];rfl
  have jL:bm 3 (Flat lL) bq (.slice DG 0 pr) ([]:C_ (fC 3)):=by have:=aJ.jN lM dn;rw[Kr] at this;exact this
  have qS:Du F.f #[.slice DG (o.jc m s).length pr,.func (.func F.b) #[] #[.pointer (some ⟨h2,0,none⟩),.pointer (some ⟨dC,0,none⟩)]] bq λv w'=>v = .slice DG (o.jc m s).length pr/\Ext bq w':=by rw[Kr];exact aiB DG pr h2 dC bq jL
  refine J_ qS ?_;rintro _ bH ⟨rfl,bc⟩;have tL:ya bH (.slice DG (o.jc m s).length pr) (o.ra m s i):=by rw[xc];exact(Kv.ext bc).jN
  have de:=b6.trans bc;clear qS jL Kv dn hS RV Ke;refine J ?_;exact⟨.inl ⟨bG,i,nt,tL⟩,de⟩
 .obtain⟨b,c,aF,avY,kM,dL,nZ⟩:=apD dn ad;injection aF with hq dE an2
  subst hq an2;have c7:b<aU.heap.size:=AH3 (cu.1 b rfl).2 z24;have n7:h2≠b:=λe=>by
   obtain⟨cur,c5,_⟩:=kM.ex;rw[<-e,bZ] at c5;injection c5 with c5
   injection c5 with _ c5
   exact absurd c5 By
  have n6:dC≠b:=λe=>by
   obtain⟨cur,c5,_⟩:=kM.ex;rw[<-e,bS] at c5;injection c5 with c5
   injection c5 with _ c5
   exact absurd c5 By
  have Qe:∀t (h1:t<cn.length) (I:t<(o.jc m s).length) w',Mod (λk=>k=b) bq w'->x9 w' cn[t].1 (o.jc m s)[t]:=λt h1 I w' hm=>(gW.mono (hS t h1 I) λk _ hk=>.inl (by rw[hk];rfl)) w' hm;have ar:∀x∈cn,∀w',Mod (λk=>k=b) bq w'->Du F.b #[.agg x.1.toArray,.pointer (some ⟨h2,0,none⟩),.pointer (some ⟨dC,0,none⟩)] w' λv bM=>v = .bool (uT m i x)/\Ext w' bM:=λx af w' hm=>by
   obtain⟨t,h1,rfl⟩:=List.mem_iff_getElem.1 af;have I:t<(o.jc m s).length:=Ad
   obtain⟨lC,an,fj⟩:=Qe t h1 I w' hm;have ale:tf w' (.slice e9 (o.refs m).length gY) (o.refs m):=aJ.e3 (enc:=o.Ref.enc) (λ_=>rfl) (aJ.mod GC.1 hm λk hk e=>by have e':k=b:=e;have:=(aJ.lt GC.1 k hk).1;omega);have bb:=Ke t h1 I;have hN:uT m i cn[t] = !o.vE m i (o.jc m s)[t]:=by rw[<-bb,Bool.not_not]
   rw[an,hN];exact agI _ lC _ m i h2 dC w' ale Ad (o.apK bG.1 (ED I)) fj (hm.obj n7 bZ) (hm.obj n6 bS)
  have qS:Du F.f #[.slice (some ⟨b,0,none⟩) (o.jc m s).length pr,.func (.func F.b) #[] #[.pointer (some ⟨h2,0,none⟩),.pointer (some ⟨dC,0,none⟩)]] bq λv w'=>v = .slice (some ⟨b,0,none⟩) (cn.filter λx => !uT m i x).length pr/\iD w' b (cn.filter λx => !uT m i x)/\Mod (λk=>k=b) bq w':=by rw[<-aE];exact aiC b pr h2 dC cn (uT m i) bq kM dL nZ ar
  refine J_ qS ?_;rintro _ bH ⟨rfl,anP,hb⟩;obtain⟨f1,f2⟩:=Zd (R:=λ(c:fC 3) x=>x9 bH c.1 x) (f:=λx => !uT m i x) (g:=o.vE m i) cn (o.jc m s) aE λt h1 I=>⟨Qe t h1 I bH hb,Ke t h1 I⟩;have xc:o.ra m s i=(o.jc m s).filter (o.vE m i):=by unfold o.ra;rw[if_neg U]
  have mf:(cn.filter λx => !uT m i x).length<=pr:=Nn (AK3 _ _) dL;have tL:ya bH (.slice (some ⟨b,0,none⟩) (cn.filter λx => !uT m i x).length pr) (o.ra m s i):=by rw[xc];exact bm.G6 f1 (anP.jN mf nZ) f2
  have de:Ext w bH:=hb.ext b6 λk hk e=>by have:=(cu.1 b rfl).1;have:=ag.size;omega
  clear qS ar Qe Kv dn hS RV Ke;refine J ?_;exact⟨.inl ⟨bG,i,nt,tL⟩,de⟩
end Go.Proofs.R
namespace o
open Go
def aqY(m:Model)(s:C_ Int):∃i:Int,sj m s i:=by
 by_cases bG:iN m s
 .by_cases de:∃j:Nat,j<(insts m).length/\mz m s j
  .have key:∀n j:Nat,j<=n->mz m s j->∃t:Nat,t<=j/\mz m s t/\∀u:Nat,u<t->¬mz m s u:=by
    intro n
    induction n with
    | zero=>exact λj az he=>⟨j,EC _,he,λu hu=>Ad⟩
    | succ n fm =>
     intro j az he;by_cases af:∃u:Nat,u<j/\mz m s u
     .obtain⟨u,hu,ai⟩:=af;obtain⟨t,h1,I,ab⟩:=fm u Ad ai;exact⟨t,Ad,I,ab⟩
     .exact⟨j,EC _,he,λu hu an0=>af ⟨u,hu,an0⟩⟩
   obtain⟨j,az,he⟩:=de;obtain⟨t,h1,I,ab⟩:=key j j (EC _) he;exact⟨t,⟨λh=>absurd bG h,λ_ h=>absurd h Ad,λ_ _=>⟨Ad,by simpa using I,by simpa using ab⟩⟩⟩
  .exact⟨-1,⟨λ_=>rfl,λ_ _=>⟨rfl,λj az h=>de ⟨j,az,h⟩⟩,λ_ h=>absurd h Ad⟩⟩
 .exact⟨-1,⟨λ_=>rfl,λh=>absurd h bG,λh=>absurd h bG⟩⟩
end o
namespace Go.Proofs.R
open Go Go.RowKit a8
def V7(w:A_):Prop := ∀w',Ext w w'->Du F.G1 #[] w' λu bM=>u = .bool true/\Ext w' bM
def aoW(cs:C_ B_)(v:B_)(m:o.Model)(s:C_ Int)(w:A_)(h:o.dj w cs m)(aG:m.cv)(aQ:gJ w)(aj:c9 w v s)(ch:V7 w) :
  Du F.G0 #[.agg cs.toArray,v] w λu w'=>u = .bool true/\Ext w w':=by
 have b4:=h;obtain⟨b0,bz,bO,c1,bT,c2,bV,bu,b1,bB,rfl,_⟩:=h.form;obtain⟨os,rG,rfl,_⟩:=aj.form;obtain⟨i,U⟩:=o.aqY m s;replace U:=i_ U trivial;replace ch:=i_ ch trivial;refine bl E.G0 ?_;refine J ?_;intro w1 bQ c7 ag ao;refine J ?_;refine P_ (.I i) (λw' e=>(Is _ _ m s w' (b4.ext (ag.trans e)) aG (aQ.ext (ag.trans e)) (aj.ext Flat.ext (ag.trans e))).mono λu bM ⟨⟨j,h1,I⟩,ab⟩=>⟨by rw[h1,I.eq U.1],ab⟩) ?_;refine J ?_;refine P_ (.I i) (λw' e=>(af7 _ _ m s w' (b4.ext (ag.trans e)) aG (aj.ext Flat.ext (ag.trans e))).mono λu bM ⟨⟨j,h1,I⟩,ab⟩=>⟨by rw[h1,I.eq U.1],ab⟩) ?_;refine J ?_;refine P_ (.bool true) (λw' e=>ch.1 w' (ag.trans e)) ?_;refine J ?_;intro aA ai;refine J ?_;exact⟨aK,ag.trans ai⟩
end Go.Proofs.R
namespace o
open Go
def Jq:C_ Node:=[⟨1,1⟩]
def wI:Act:=⟨3,0,0,[],Jq⟩
def sy:dI:=⟨⟨#[117,112]⟩,0,1,[],[wI],false⟩
def wH:Var:=⟨⟨#[97]⟩,0,0,0,1,0⟩
def Cy:dt:=⟨⟨#[80]⟩,0,2,[wH],[sy]⟩
def Cz:dt:=⟨⟨#[81]⟩,0,2,[wH],[sy]⟩
def eA:Model:=⟨[],[],[],[Cy,Cz],[]⟩
def yC:(check eA).cJ=0:=by decide +kernel
theorem Ff:insts eA=[⟨0,0⟩,⟨1,0⟩]:=by decide +kernel
theorem uX:refs eA=[⟨0,0⟩,⟨1,0⟩]:=by decide +kernel
def Cx:fa eA 0 0 0 0:=⟨yC,By,by rw[uX];decide,by
 have e:∀h,(refs eA)[(0:Int).toNat]'h=⟨0,0⟩:=λh=>by simp[uX]
 rw[e];exact⟨by rw[Ff];decide,rfl,by simp[Ff],By,rfl,By⟩⟩
def Jp:fa eA 1 1 1 0:=⟨yC,By,by rw[uX];decide,by
 have e:∀h,(refs eA)[(1:Int).toNat]'h=⟨1,0⟩:=λh=>by simp[uX]
 rw[e];exact⟨by rw[Ff];decide,rfl,by simp[Ff],By,rfl,By⟩⟩
def ajr:ql eA 0 (bN eA 0 0) (bN eA 0 0).bP.length=[0]:=by decide +kernel
def ajv:kg eA 0 (bN eA 0 0) (bN eA 0 0).bP.length=[0,1]:=by decide +kernel
def ajs:ql eA 1 (bN eA 1 0) (bN eA 1 0).bP.length=[2]:=by decide +kernel
def ajw:kg eA 1 (bN eA 1 0) (bN eA 1 0).bP.length=[2,3]:=by decide +kernel
def ajt:s3 eA=[]:=by decide +kernel
theorem aju{L:C_ (C_ Int×C_ Int)}(h:l6 eA (refs eA).length L):L=[([0],[0,1]),([2],[2,3])]:=by
 have aE:=h.len;rw[uX] at aE
 match L,aE with
 | [x,y],_ =>
  obtain⟨h1,I⟩:=(h.is 0 CC).there _ _ _ Cx;obtain⟨ab,aC⟩:=(h.is 1 CC).there _ _ _ Jp;rw[ajr] at h1;rw[ajv] at I;rw[ajs] at ab;rw[ajw] at aC;have bF:=DN _ [0] h1.lz By h1.mem;have aH:=DN _ [0,1] I.lz By I.mem;have aR:=DN _ [2] ab.lz By ab.mem;have bn:=DN _ [2,3] aC.lz By aC.mem;simp only[List.getElem_cons_zero,List.getElem_cons_succ] at bF aH aR bn;obtain⟨ie,ji⟩:=x;obtain⟨jR,jF⟩:=y;simp only at bF aH aR bn;subst bF aH aR bn;rfl
def PK:fJ eA 0 0:=Cx.inst
def ajk:fJ eA 1 1:=Jp.inst
theorem ajm{q:Nat}(au:q<2){t:Bool}{L:C_ (C_ Int×C_ Int)}(gL:l6 eA (refs eA).length L)(h:kW eA q 0 t):t=true:=by
 have dd:pj eA q 0:=by
  match q,au with
  | 0,_=>exact Dx yC PK By By
  | 1,_=>exact Dx yC ajk By By
 have ch:=aju gL;refine(h.there dd L gL).2 ?_;intro i U j az ct x y af bE;subst ch;have ju:j<2:=by rw[uX] at az;exact az
 obtain⟨eK,p,k,bw,bF,_⟩:=U;have lO:i<2:=by have:=bw.told.2.2;rw[uX] at this;simp at this;omega
 have fk:=bw.at_.mX;simp only[uX] at ct fk
 match i,lO,j,ju with
 | 0,_,0,_=>simp at ct fk;omega
 | 1,_,1,_=>simp at ct fk;omega
 | 0,_,1,_ =>
  simp only[List.getElem?_cons_zero,List.getElem?_cons_succ,Option.some.injEq] at af bE;subst af bE;decide
 | 1,_,0,_ =>
  simp only[List.getElem?_cons_zero,List.getElem?_cons_succ,Option.some.injEq] at af bE;subst af bE;decide
def ajz:wI.cv:=by
 exact⟨pG (by simp[wI]),pG (by simp[wI]),pG (by simp[wI]),by simp[wI,ep],by simp[wI,Jq,ep]⟩
def ajx:sy.cv:=by
 refine⟨pG (by simp[sy]),pG (by simp[sy]),by simp[sy,ep],by simp[sy,ep],?_⟩;intro b ak;simp[sy] at ak;subst ak;exact ajz
def ajj:eA.cv:=by
 refine⟨by simp[eA,ep],by simp[eA,ep],by simp[eA,ep],by simp[eA,ep],by simp[eA,ep],by simp[eA],by simp[eA],by simp[eA],?_,by simp[eA]⟩;have aF:∀a∈[wH],a.cv:=by
  intro a aY;simp at aY;subst aY;exact⟨pG (by simp[wH]),pG (by simp[wH]),pG (by simp[wH]),pG (by simp[wH]),pG (by simp[wH])⟩
 have an:∀c∈[sy],c.cv:=by
  intro c an;simp at an;subst an;exact ajx
 intro a aY;simp[eA] at aY;rcases aY with rfl | rfl
 .exact⟨pG (by simp[Cy]),pG (by simp[Cy]),by simp[Cy,ep],by simp[Cy,ep],aF,an⟩
 .exact⟨pG (by simp[Cz]),pG (by simp[Cz]),by simp[Cz,ep],by simp[Cz,ep],aF,an⟩
def ajn:(jc eA [1,1,1,1]).length=1:=by decide +kernel
def ajl:(cp eA).map (λc=>(c.aV,c.U))=[(0,1),(0,1),(0,1),(0,1)]:=by decide +kernel
theorem Y2{x:Int}(ad:0<=x)(h1:x<=1):Fits eA [x,x,x,x]:=by
 refine⟨by have:di eA=4:=(by decide +kernel);rw[this];rfl,λi h=>absurd h (HI _),λi h br=>?_⟩;have e:=congrArg (λl=>l[i]?) ajl;simp only[List.getElem?_map,List.getElem?_eq_getElem br,Option.map_some] at e
 match i,h,br,e with
 | 0,_,_,e=>simp at e;simp[e.1,e.2];omega
 | 1,_,_,e=>simp at e;simp[e.1,e.2];omega
 | 2,_,_,e=>simp at e;simp[e.1,e.2];omega
 | 3,_,_,e=>simp at e;simp[e.1,e.2];omega
 | n+4,h,_,_=>simp at h;omega
def Y5:iN eA [0,0,0,0]:=⟨yC,Y2 By By⟩
def Y6:iN eA [1,1,1,1]:=⟨yC,Y2 By By⟩
def aji:mz eA [0,0,0,0] 0:=by
 have aE:xv eA [0,0,0,0] 0=0:=by decide +kernel
 refine⟨?_,λr aS=>?_,0,?_,?_⟩
 .rw[aE];unfold GS;refine(@decide_eq_true_iff _ (Classical.propDecidable _)).2 ⟨Dx yC PK By By,λL gL=>?_⟩;have dd:pj eA ((0:Nat):Int) 0:=Dx yC PK By By
  have:=ajm (q:=0) By gL (kW.of (t := @decide (BU eA L ((0:Nat):Int) 0) (Classical.propDecidable _)) dd gL (@decide_eq_true_iff _ (Classical.propDecidable _)))
  exact @of_decide_eq_true _ (Classical.propDecidable _) this
 .obtain⟨q,p,k,bw,_⟩:=aS;have I:=bw.told.2.2;rw[uX] at I;unfold r8;refine(@decide_eq_false_iff_not _ (Classical.propDecidable _)).2 ?_;rintro⟨eK,gA,k',a,b,qM,bG,hk | ⟨x,_,hk⟩⟩
  .have:r=0\/r=1:=by simp at I;omega
   rcases this with rfl | rfl
   .obtain⟨rfl,rfl,rfl⟩:=qM.one Cx
    revert hk
    decide
   .obtain⟨rfl,rfl,rfl⟩:=qM.one Jp
    revert hk
    decide
  .rw[ajt] at hk;cases hk
 .rw[aE];exact⟨0,0,0,Cx,rfl,rfl⟩
 .exact⟨0,0,0,Cx,by decide +kernel⟩
def Y4{i:Int}(h:sj eA [0,0,0,0] i):i=0:=by
 have k:sj eA [0,0,0,0] 0:=⟨λaw=>absurd Y5 aw,λ_ h=>absurd h By,λ_ _=>⟨by rw[Ff];decide,aji,λj az=>absurd az (HI _)⟩⟩;exact h.eq k
def Y3:(ra eA [0,0,0,0] 0).map (·.cmd)=[0]:=by decide +kernel
def ajp:hJ eA [1,1,1,1] 0 (bN eA 0 0)=none:=by decide +kernel
def ajq:hJ eA [1,1,1,1] 1 (bN eA 1 0)=none:=by decide +kernel
def ajo{i:Int}(h:sj eA [1,1,1,1] i):(ra eA [1,1,1,1] i).length=1:=by
 by_cases U:i<0
 .unfold ra;rw[if_pos U];exact ajn
 .obtain⟨_,de,_⟩:=h.some Y6 Ad;obtain⟨r,_,q,p,k,bw,aw⟩:=de.on;have I:=bw.told.2.2;rw[uX] at I
  have:r=0\/r=1:=by simp at I;omega
  rcases this with rfl | rfl
  .obtain⟨rfl,rfl,rfl⟩:=bw.one Cx;exact absurd ajp aw
  .obtain⟨rfl,rfl,rfl⟩:=bw.one Jp;exact absurd ajq aw
end o
namespace Go.Proofs.R
open Go Go.RowKit a8
def apf(w:A_)(aQ:gJ w):Du F.G1 #[] w λv w'=>v = .bool true/\Ext w w':=by
 refine bl E.G1 ?_;refine J ?_;intro w1 h2 gZ ag al;refine J ?_;intro aA b9 lN ai ao;refine J ?_;intro aM l8 wU ah ba;refine J ?_;intro aU uO FJ aq bo;refine J ?_;intro bh bQ c7 av bI;replace bI:bh.heap[bQ]? = some (.cells #[.string ⟨#[80]⟩,.I 0,.I 2,.slice (some ⟨l8,0,none⟩) 1 1,.slice (some ⟨uO,0,none⟩) 1 1] T.k):=bI;refine J ?_;intro bq bW eX aD bS;replace bS:bq.heap[bW]? = some (.cells #[.string ⟨#[80]⟩,.I 0,.I 2,.slice (some ⟨l8,0,none⟩) 1 1,.slice (some ⟨uO,0,none⟩) 1 1] T.k):=bS;have alW:=aD.obj bI;refine J ?_;intro bH dw bZ;replace bZ:bH.heap[bW]? = some (.cells #[.string ⟨#[81]⟩,.I 0,.I 2,.slice (some ⟨l8,0,none⟩) 1 1,.slice (some ⟨uO,0,none⟩) 1 1] T.k):=bZ;have bc:Ext bh bH:=dw.ext aD eX;have alX:=bc.obj bI;clear bS alW;refine J ?_;intro cB XR avP bt cD;refine J ?_;intro cG c6 fT b2 cE;replace cE:cG.heap[c6]? = some (.cells #[.slice none 0 0,.slice none 0 0,.slice none 0 0,.slice (some ⟨XR,0,none⟩) 2 2,.slice none 0 0] T.f):=cE;have Ei:=(bc.trans bt).trans b2;have fw:=(((ag.trans ai).trans ah).trans aq).trans (av.trans Ei);have xo:=(((ai.trans ah).trans aq).trans (av.trans Ei)).obj al;have GO:=((ah.trans aq).trans (av.trans Ei)).obj ao;have GN:=(aq.trans (av.trans Ei)).obj ba;have ach:=(av.trans Ei).obj bo;have aci:=b2.obj cD;have SF:o.hZ cG (.slice (some ⟨l8,0,none⟩) 1 1) [o.wH]:=o.hZ.cy GN rfl By (by intro x af;simp only[List.mem_singleton] at af;subst af;decide);have acm:o.eS cG (.slice (some ⟨h2,0,none⟩) 1 1) o.Jq:=bm.cy (enc:=o.Node.enc) (λ_=>rfl) xo rfl By λa x af an=>⟨an,o.ajy x (by simp[o.Jq] at af;subst af;simp)⟩;have ack:o.mv cG (.slice (some ⟨b9,0,none⟩) 1 1) [o.wI]:=bm.OW [⟨o.wI.enc (.slice none 0 0) (.slice (some ⟨h2,0,none⟩) 1 1),rfl,by simp[o.Act.enc,Value.oneCell']⟩] GO rfl rfl rfl By (by
  intro i h1 I
  have:i=0:=by simp at h1;omega
  subst this;exact⟨_,_,rfl,bm.nil,acm⟩)
 have SE:o.sg cG (.slice (some ⟨uO,0,none⟩) 1 1) [o.sy]:=bm.OW [⟨o.sy.enc (.slice none 0 0) (.slice (some ⟨b9,0,none⟩) 1 1),rfl,by simp[o.dI.enc,Value.oneCell']⟩] ach rfl rfl rfl By (by
  intro i h1 I
  have:i=0:=by simp at h1;omega
  subst this;exact⟨(show o.jP o.sy.name by decide),_,_,rfl,bm.nil,ack⟩)
 have acn:o.rr cG (.slice (some ⟨XR,0,none⟩) 2 2) o.eA.procs:=bm.OW [⟨o.Cy.enc (.slice (some ⟨l8,0,none⟩) 1 1) (.slice (some ⟨uO,0,none⟩) 1 1),rfl,by simp[o.dt.enc,Value.oneCell']⟩,⟨o.Cz.enc (.slice (some ⟨l8,0,none⟩) 1 1) (.slice (some ⟨uO,0,none⟩) 1 1),rfl,by simp[o.dt.enc,Value.oneCell']⟩] aci rfl rfl rfl By (by
  intro i h1 I
  match i,h1 with
  | 0,_=>exact⟨(show o.jP ⟨#[80]⟩ by decide),_,_,rfl,SF,SE⟩
  | 1,_=>exact⟨(show o.jP ⟨#[81]⟩ by decide),_,_,rfl,SF,SE⟩
  | n+2,h1=>simp at h1;omega)
 have aL:o.dj cG _ o.eA:=⟨_,_,_,_,_,rfl,bm.nil,bm.nil,bm.nil,acn,bm.nil⟩;have aG:=o.ajj;clear xo GO GN ach aci SF acm ack SE acn al ao ba bo bI bZ alX cD;refine J ?_;intro ew Iy avQ cj h4;replace h4:ew.heap[Iy]? = some (.cells #[.I 0,.I 0,.I 0,.I 0] T.a):=h4;replace cE:=cj.obj cE;have pR:=fw.trans cj;have aj:c9 ew (.slice (some ⟨Iy,0,none⟩) 4 4) [0,0,0,0]:=bm.cy (enc:=bX) (λ_=>rfl) h4 rfl By λa x af an=>an;refine J ?_;refine J_ (Xy _ _ o.eA [0,0,0,0] ew (aL.ext cj) aG (aQ.ext pR) aj) ?_;rintro u fB ⟨hO,ek⟩;rcases hO with ⟨_,i,nt,yZ⟩ | ⟨bG,_⟩
 rotate_left
 .exact absurd o.Y5 bG
 obtain rfl:=o.Y4 nt;have mi:(o.ra o.eA [0,0,0,0] 0).length=1:=by have:=congrArg List.length o.Y3;simpa using this
 obtain⟨DG,pr,rfl,_⟩:=yZ.form;replace cE:=ek.obj cE;have jU:=pR.trans ek;have Qd:=(aL.ext cj).ext ek;clear h4 aL;refine J ?_;intro hx XT avR dW h5;replace h5:hx.heap[XT]? = some (.cells #[.I 0,.I 0,.I 0,.I 0] T.a):=h5;replace cE:=dW.obj cE;have my:=jU.trans dW;have et:c9 hx (.slice (some ⟨XT,0,none⟩) 4 4) [0,0,0,0]:=bm.cy (enc:=bX) (λ_=>rfl) h5 rfl By λa x af an=>an;refine J ?_;refine J_ (Is _ _ o.eA [0,0,0,0] hx (Qd.ext dW) aG (aQ.ext my) et) ?_;rintro _ kx ⟨⟨i,rfl,ak7⟩,gv⟩;obtain rfl:=o.Y4 ak7;replace cE:=gv.obj cE;have oy:=my.trans gv;have ZT:=(Qd.ext dW).ext gv;have Rs:=ya.ext gv (ya.ext dW yZ);obtain⟨am,rfl⟩:=Rs.addr;obtain⟨lC,af,_⟩:=Rs.at 0 Ad;have za:(o.ra o.eA [0,0,0,0] 0)[0].cmd=0:=by
  have:=congrArg (λl=>l[0]?) o.Y3
  simp only[List.getElem?_map,List.getElem?_eq_getElem (show 0<(o.ra o.eA [0,0,0,0] 0).length by omega),AG3,List.getElem?_cons_zero] at this;injection this
 clear yZ Rs h5 et Qd;refine J ?_;refine K_ 0 rfl Ad ?_;refine J ?_;intro s6 XU avT n0 p7;replace p7:s6.heap[XU]? = some (.cells #[.I 1,.I 1,.I 1,.I 1] T.a):=p7;have zF:=oy.trans n0;have gN:c9 s6 (.slice (some ⟨XU,0,none⟩) 4 4) [1,1,1,1]:=bm.cy (enc:=bX) (λ_=>rfl) p7 rfl By λa x af an=>an;refine J ?_;refine J_ (Xy _ _ o.eA [1,1,1,1] s6 (ZT.ext n0) aG (aQ.ext zF) gN) ?_;rintro u Us ⟨hO,qU⟩;rcases hO with ⟨_,i,ak8,abg⟩ | ⟨bG,_⟩
 rotate_left
 .exact absurd o.Y6 bG
 have ana:=o.ajo ak8;obtain⟨axs,avm,rfl,_⟩:=abg.form;clear gN p7 ZT abg;refine J ?_;exact⟨by first | trivial | rfl | (rw[ana];rfl),zF.trans qU⟩
def ape{w:A_}(aQ:gJ w):V7 w:=λw' e=>apf w' (aQ.ext e)
end Go.Proofs.R
namespace a8
open Go Go.RowKit Go.ChangeShapes Go.WideShapes Go.Deep
section
variable{H:Type}{enc:TypeId×Value->H}{P:Program}{w:World}{base:Nat}{spare:Nat->Bool}{held:Bool}
def wL{t:F_}{gD:Array Field}{n:Nat}{cs:C_ B_}{y:DataW H×C_ MemPlace}(aB:P.underlying t=some (.struct gD))(w8:oneCellFields P gD=true)(bw:P.cellsOf t=gD.size)
  (h:DataW.trod enc P w base spare held n t cs=some y):cs.length=gD.size/\∃iH ds,y.1 = .agg ds/\∀(j:Nat) (f:Field),gD[j]? = some f->∃v z,cs[j]? = some v/\DataW.trod enc P w base spare held iH f.type [v]=some z/\ds[j]? = some z.1:=by
 obtain⟨ys,iH,Kw,bE,hlen,awF,ay⟩:=DataW.trod_struct aB h;refine⟨Ad,iH,_,by rw[bE],λj f az=>?_⟩;obtain⟨aQ,hk⟩:=hone_of w8 j f az;have Df:j<gD.size:=(Array.getElem?_eq_some_iff.1 az).1;have aF:cs[j]? = some (cs[j]' Ad):=List.getElem?_eq_getElem Ad;have h1:=ay j f az;rw[aQ,hk] at h1;have anr:(cs.drop j).take 1=[cs[j]' Ad]:=by
  rw[AF0 Ad];rfl
 rw[anr,List.getElem?_eq_getElem (l:=ys) Ad] at h1;exact⟨_,_,aF,h1,by rw[List.getElem?_map,List.getElem?_eq_getElem Ad];rfl⟩
def nr{gD:Array Field}{n:Nat}{cs:C_ B_}{ds:C_ (DataW H)}(ay:∀(j:Nat) (f:Field),gD[j]? = some f->∃v z,cs[j]? = some v/\DataW.trod enc P w base spare held n f.type [v]=some z/\ds[j]? = some z.1)(j:Nat){f:Field}(az:gD[j]? = some f)
  (hu:P.underlying f.type=some (.int .i64):=by kernel_rfl):∃z,cs[j]? = some (.I z)/\(Lit.int .i64 z).wf=true:=by
 obtain⟨v,z,h1,I,_⟩:=ay j f az;obtain⟨x,e,_,k⟩:=DataW.trod_int (k:=.i64) hu I;cases e;exact⟨x,h1,k⟩
def Small(P:D_)(t:F_)(d:DataW H):Prop := ∀q∈d.weights P t,q<=reachBytes
theorem Small.field{t u:F_}{gD:Array Field}{ds:C_ (DataW H)}{j:Nat}{d:DataW H}{f:Field}(h:Small P t (.agg ds))(aB:P.underlying t=some (.struct gD))(ay:gD[j]? = some f)(hu:f.type=u)(bb:ds[j]? = some d):Small P u d:=by
 subst hu;intro q au;refine h q ?_;simp only[DataW.weights,aB];exact DataW.weights_mem_each (j:=j) (by simp[ay]) bb q au
def ahG{α:Type}{R:A_->Addr->α->Prop}{t e:F_}{v:B_}{n:Nat}{z:DataW H×C_ MemPlace}(sz:Nat)(aB:P.underlying t=some (.slice e))(bw:P.cellsOf e=sz)(hK:0<P.bytesOf e)
  (bG:∀(a:Addr) (cs:C_ B_) (n:Nat) (y:DataW H×C_ MemPlace),fc w a cs->cs.length=sz->DataW.trod enc P w 0 (λ_=>true) true n e cs=some y->∃x,R w a x)
  (h:DataW.trod enc P w 0 (λ_=>true) true n t [v]=some z):∃xs,bm sz R w v xs/\(Small P t z.1->xs.length<=140737488355328):=by
 rcases open_slice aB h with ⟨gu,_⟩ | ⟨a,len,cap,m,n,D,af8,gu,ak,aE,hm,Gk,af,U⟩
 .simp at gu;subst gu;exact⟨[],bm.nil,λ_=>CC⟩
 .simp at gu;subst gu;simp only[if_true] at Gk;subst Gk;obtain⟨xs,xi,tW⟩:=SQ len (λi x=>R w (a.add (i*sz)) x) λi cw=>by
   obtain⟨jm,an,y7⟩:=U i Ad;rw[bw] at an;obtain⟨_,dL,jJ⟩:=World.cells?_some an;refine bG _ jm n _ (λj u az=>?_) dL y7;have Rl:j<sz:=dL ▸ (List.getElem?_eq_some_iff.1 az).1;rw[<-az];exact jJ j Rl
  refine⟨xs,⟨some a,_,by rw[xi],Ad,hm,λ_=>rfl,λcx aY=>by injection aY with aY;subst aY;exact tW⟩,λaj=>?_⟩;have h1:=aj ((len+(m - len))*P.bytesOf e) (by rw[af];simp[DataW.weights,aB]);have I:=reachBytes_lt;have ab:len<=(len+(m - len))*P.bytesOf e:=Nn (Nat.le_add_right len _) (Nat.le_mul_of_pos_right _ hK);rw[xi];omega
def agN{r:Reach}{np:Nat}{t e:F_}{v:B_}{d:DataW H}{p:C_ MemPlace}(aB:P.underlying t=some (.slice e))(xg:Value.okWide P w r np t v)(h:DataW.Trod enc P w 0 (λ_=>true) true t v d p) :
  ∃n,DataW.trod enc P w 0 (λ_=>true) true n t [v]=some (d,p):=by
 obtain⟨a0,axg,avi,rfl⟩:=okWide_slice aB xg;obtain⟨n,aw⟩:=h;exact⟨n,aw⟩
end
end a8
namespace Go.Proofs.R
open Go Go.RowKit a8 Go.ChangeShapes
variable{H:Type}{enc:TypeId×Value->H}{w:World}{cs:List Value}{n:Nat}{y:DataW H×List MemPlace}{v:Value}
def nc{z:Int}(h:(Lit.int .i64 z).wf=true):o.dX z:=by
 simp only[Lit.wf,Bool.and_eq_true,decide_eq_true_eq] at h;exact⟨h.1,h.2⟩
theorem apS(h:DataW.trod enc Tryz.prog w 0 (λ_=>true) true n T.e cs=some y):∃x:o.Node,cs=x.enc/\x.ok:=by
 obtain⟨aE,iH,ds,_,ay⟩:=wL (t:=T.e) rfl Ci Ci h
 match cs,aE with
 | [bz,c1],_ =>
  obtain⟨z0,ej,fh⟩:=nr ay 0 rfl;obtain⟨fQ,bF,cK⟩:=nr ay 1 rfl;cases ej;cases bF;exact⟨⟨z0,fQ⟩,rfl,nc fh,nc cK⟩
end Go.Proofs.R
namespace a8
open Go Go.RowKit Go.ChangeShapes Go.WideShapes Go.Deep
section
variable{H:Type}{enc:TypeId×Value->H}{P:Program}{w:World}{base:Nat}{spare:Nat->Bool}{held:Bool}
theorem afu{e:F_}:∀{ds:C_ (DataW H)} {d:DataW H},d∈ds->∀n∈d.weights P e,n∈DataW.weightsAll P e ds
 | [],_,h=>by cases h
 | x :: r,d,h=>λn aw=>by
  simp only[DataW.weightsAll];rcases List.mem_cons.1 h with rfl | h
  .exact AH2 _ aw
  .exact AI3 _ (afu h n aw)
def yp{α:Type}{R:A_->Addr->α->Prop}{G:α->Prop}{t e:F_}{v:B_}{n:Nat}{z:DataW H×C_ MemPlace}(sz B:Nat)(aB:P.underlying t=some (.slice e))(bw:P.cellsOf e=sz)(hK:P.bytesOf e=B)
  (bG:∀(a:Addr) (cs:C_ B_) (n:Nat) (y:DataW H×C_ MemPlace),fc w a cs->cs.length=sz->DataW.trod enc P w 0 (λ_=>true) true n e cs=some y->∃x,R w a x/\(Small P e y.1->G x))
  (h:DataW.trod enc P w 0 (λ_=>true) true n t [v]=some z):∃xs,bm sz R w v xs/\(Small P t z.1->o.ep xs.length B/\∀x∈xs,G x):=by
 rcases open_slice aB h with ⟨gu,_⟩ | ⟨a,len,cap,m,n,D,af8,gu,ak,aE,hm,Gk,af,U⟩
 .simp at gu;subst gu;exact⟨[],bm.nil,λ_=>⟨by simp[o.ep],λx af=>by cases af⟩⟩
 .simp at gu;subst gu;simp only[if_true] at Gk;subst Gk;obtain⟨xs,xi,tW⟩:=SQ len (λi x=>R w (a.add (i*sz)) x/\(Small P e (D i)->G x)) λi cw=>by
   obtain⟨jm,an,y7⟩:=U i Ad;rw[bw] at an;obtain⟨_,dL,jJ⟩:=World.cells?_some an;refine bG _ jm n _ (λj u az=>?_) dL y7;have Rl:j<sz:=dL ▸ (List.getElem?_eq_some_iff.1 az).1;rw[<-az];exact jJ j Rl
  refine⟨xs,⟨some a,_,by rw[xi],Ad,hm,λ_=>rfl,λcx aY i U=>by injection aY with aY;subst aY;exact(tW i U).1⟩,λaj=>⟨?_,λx vm=>?_⟩⟩
  .have h1:=aj ((len+(m - len))*P.bytesOf e) (by rw[af];simp[DataW.weights,aB]);have I:len*B<=(len+(m - len))*P.bytesOf e:=by rw[hK];exact AI8 _ Ad
   have ab:reachBytes=140737488351232:=rfl;unfold o.ep;rw[xi];omega
  .obtain⟨i,cw,rfl⟩:=List.mem_iff_getElem.1 vm;refine(tW i cw).2 λq au=>aj q ?_;rw[af];simp only[DataW.weights,aB];refine AH5 _ (AH2 _ (afu ?_ q au));exact List.mem_map.2 ⟨i,by simp;omega,rfl⟩
def aqm{r:Reach}{np:Nat}{t:F_}{gD:Array Field}{v:B_}{d:DataW H}{p:C_ MemPlace}(aB:P.underlying t=some (.struct gD))
  (xg:Value.okWide P w r np t v)(h:DataW.Trod enc P w base spare held t v d p):∃cs n,v = .agg cs/\DataW.trod enc P w base spare held n t cs.toList=some (d,p):=by
 obtain⟨cs,rfl,dq⟩:=okWide_struct aB xg;obtain⟨fuel,ay⟩:=h;exact⟨cs,fuel,rfl,ay⟩
end
end a8
namespace Go.Proofs.R
open Go Go.RowKit a8 Go.ChangeShapes
variable{H:Type}{enc:TypeId×Value->H}{w:World}{cs:List Value}{n:Nat}{y:DataW H×List MemPlace}{v:Value}
theorem akC(h:DataW.trod enc Tryz.prog w 0 (λ_=>true) true n T.pn cs=some y):∃x:o.Scalar,cs=x.enc/\o.jP x.name/\x.cv:=by
 obtain⟨aE,iH,ds,_,ay⟩:=wL (t:=T.pn) rfl Ci Ci h
 match cs,aE with
 | [bz,c1],_ =>
  obtain⟨_,_,ej,ad,_⟩:=ay 0 _ rfl;cases ej;obtain⟨s,ej,_,aj⟩:=DataW.trod_string Ci ad;obtain⟨z,bF,cK⟩:=nr ay 1 rfl;cases ej;cases bF;exact⟨⟨s,z⟩,rfl,aj,⟨nc cK⟩⟩
theorem akE(h:DataW.trod enc Tryz.prog w 0 (λ_=>true) true n T.l cs=some y):∃x:o.Var,cs=x.enc/\o.jP x.name/\x.cv:=by
 obtain⟨aE,iH,ds,_,ay⟩:=wL (t:=T.l) rfl Ci Ci h
 match cs,aE with
 | [bz,c1,c2,bu,bB,z8],_ =>
  obtain⟨_,_,ej,ad,_⟩:=ay 0 _ rfl;cases ej;obtain⟨s,ej,_,aj⟩:=DataW.trod_string Ci ad;obtain⟨fQ,bF,cK⟩:=nr ay 1 rfl;obtain⟨z2,aH,cV⟩:=nr ay 2 rfl;obtain⟨z3,aR,fo⟩:=nr ay 3 rfl;obtain⟨z4,bn,hC⟩:=nr ay 4 rfl;obtain⟨z5,bC,vt⟩:=nr ay 5 rfl;cases ej;cases bF;cases aH;cases aR;cases bn;cases bC;exact⟨⟨s,fQ,z2,z3,z4,z5⟩,rfl,aj,⟨nc cK,nc cV,nc fo,nc hC,nc vt⟩⟩
theorem aks(h:DataW.trod enc Tryz.prog w 0 (λ_=>true) true n T.u cs=some y):∃x:o.dZ,cs=x.enc/\o.jP x.name/\x.cv:=by
 obtain⟨aE,iH,ds,_,ay⟩:=wL (t:=T.u) rfl Ci Ci h
 match cs,aE with
 | [bz,c1,c2,bu,bB,z8],_ =>
  obtain⟨_,_,ej,ad,_⟩:=ay 0 _ rfl;obtain⟨_,_,bC,a1,_⟩:=ay 5 _ rfl;cases ej;cases bC;obtain⟨s,ej,_,aj⟩:=DataW.trod_string Ci ad;obtain⟨fQ,bF,cK⟩:=nr ay 1 rfl;obtain⟨z2,aH,cV⟩:=nr ay 2 rfl;obtain⟨z3,aR,fo⟩:=nr ay 3 rfl;obtain⟨z4,bn,hC⟩:=nr ay 4 rfl;obtain⟨z5,bC,_⟩:=DataW.trod_bool Ci a1;cases ej;cases bF;cases aH;cases aR;cases bn;cases bC;exact⟨⟨s,fQ,z2,z3,z4,z5⟩,rfl,aj,⟨nc cK,nc cV,nc fo,nc hC⟩⟩
def JJ(h:DataW.trod enc Tryz.prog w 0 (λ_=>true) true n T.t [v]=some y):∃l,o.eS w v l/\(Small Tryz.prog T.t y.1->o.ep l.length 16/\∀x∈l,True) :=
 yp (G:=λ_=>True) (e:=T.e) 2 16 Ci Ci Ci (λa cs n y an aE aB=>by obtain⟨x,rfl,af⟩:=apS aB;exact⟨x,⟨an,af⟩,λ_=>trivial⟩) h
def akD(h:DataW.trod enc Tryz.prog w 0 (λ_=>true) true n T.rB [v]=some y):∃l,o.il w v l/\(Small Tryz.prog T.rB y.1->o.ep l.length 24/\∀x∈l,x.cv) :=
 yp (e:=T.pn) 2 24 Ci Ci Ci (λa cs n y an aE aB=>by obtain⟨x,rfl,af,aG⟩:=akC aB;exact⟨x,⟨an,af⟩,λ_=>aG⟩) h
def Zz(h:DataW.trod enc Tryz.prog w 0 (λ_=>true) true n T.tn [v]=some y):∃l,o.hZ w v l/\(Small Tryz.prog T.tn y.1->o.ep l.length 56/\∀x∈l,x.cv) :=
 yp (e:=T.l) 6 56 Ci Ci Ci (λa cs n y an aE aB=>by obtain⟨x,rfl,af,aG⟩:=akE aB;exact⟨x,⟨an,af⟩,λ_=>aG⟩) h
def akt(h:DataW.trod enc Tryz.prog w 0 (λ_=>true) true n T.tp [v]=some y):∃l,o.nH w v l/\(Small Tryz.prog T.tp y.1->o.ep l.length 56/\∀x∈l,x.cv) :=
 yp (e:=T.u) 6 56 Ci Ci Ci (λa cs n y an aE aB=>by obtain⟨x,rfl,af,aG⟩:=aks aB;exact⟨x,⟨an,af⟩,λ_=>aG⟩) h
theorem akq{a:Addr}(an:fc w a cs)(h:DataW.trod enc Tryz.prog w 0 (λ_=>true) true n T.y cs=some y):∃x:o.Act,o.zM w a x/\(Small Tryz.prog T.y y.1->x.cv):=by
 obtain⟨aE,iH,ds,he,ay⟩:=wL (t:=T.y) rfl Ci Ci h
 match cs,aE with
 | [bz,c1,c2,bu,bB],_ =>
  obtain⟨_,_,aR,ab,d3⟩:=ay 3 _ rfl;obtain⟨_,_,bn,aC,d4⟩:=ay 4 _ rfl;cases aR;cases bn;obtain⟨z0,ej,fh⟩:=nr ay 0 rfl;obtain⟨fQ,bF,cK⟩:=nr ay 1 rfl;obtain⟨z2,aH,cV⟩:=nr ay 2 rfl;cases ej;cases bF;cases aH;obtain⟨dR,ab,g3⟩:=JJ ab;obtain⟨ee,aC,g4⟩:=JJ aC;exact⟨⟨z0,fQ,z2,dR,ee⟩,⟨bu,bB,an,ab,aC⟩,λaj=>by
   rw[he] at aj;exact⟨nc fh,nc cK,nc cV,(g3 (aj.field rfl rfl rfl d3)).1,(g4 (aj.field rfl rfl rfl d4)).1⟩⟩
def akr(h:DataW.trod enc Tryz.prog w 0 (λ_=>true) true n T.OL [v]=some y):∃l,o.mv w v l/\(Small Tryz.prog T.OL y.1->o.ep l.length 72/\∀x∈l,x.cv) :=
 yp (e:=T.y) 5 72 Ci Ci Ci (λa cs n y an aE aB=>akq an aB) h
theorem aku(h:DataW.trod enc Tryz.prog w 0 (λ_=>true) true n T.q cs=some y):∃x:o.dI,o.BQ w cs x/\(Small Tryz.prog T.q y.1->x.cv):=by
 obtain⟨aE,iH,ds,he,ay⟩:=wL (t:=T.q) rfl Ci Ci h
 match cs,aE with
 | [bz,c1,c2,bu,bB,z8],_ =>
  obtain⟨_,_,ej,ad,_⟩:=ay 0 _ rfl;obtain⟨_,_,aR,ab,d3⟩:=ay 3 _ rfl;obtain⟨_,_,bn,aC,d4⟩:=ay 4 _ rfl;obtain⟨_,_,bC,a1,_⟩:=ay 5 _ rfl;cases ej;cases aR;cases bn;cases bC;obtain⟨s,ej,_,aj⟩:=DataW.trod_string Ci ad;obtain⟨fQ,bF,cK⟩:=nr ay 1 rfl;obtain⟨z2,aH,cV⟩:=nr ay 2 rfl;obtain⟨z5,bC,_⟩:=DataW.trod_bool Ci a1;cases ej;cases bF;cases aH;cases bC;obtain⟨dR,ab,g3⟩:=JJ ab;obtain⟨ee,aC,g4⟩:=akr aC;exact⟨⟨s,fQ,z2,dR,ee,z5⟩,⟨aj,bu,bB,rfl,ab,aC⟩,λaj=>by
   rw[he] at aj;exact⟨nc cK,nc cV,(g3 (aj.field rfl rfl rfl d3)).1,(g4 (aj.field rfl rfl rfl d4)).1,(g4 (aj.field rfl rfl rfl d4)).2⟩⟩
def akv(h:DataW.trod enc Tryz.prog w 0 (λ_=>true) true n T.XJ [v]=some y):∃l,o.sg w v l/\(Small Tryz.prog T.XJ y.1->o.ep l.length 88/\∀x∈l,x.cv) :=
 yp (e:=T.q) 6 88 Ci Ci Ci (λa cs n y an aE aB=>by
  obtain⟨x,⟨ad,fi,va,rfl,h1,I⟩,aG⟩:=aku aB;exact⟨x,⟨ad,fi,va,an,h1,I⟩,aG⟩) h
theorem akz(h:DataW.trod enc Tryz.prog w 0 (λ_=>true) true n T.k cs=some y):∃x:o.dt,o.yc w cs x/\(Small Tryz.prog T.k y.1->x.cv):=by
 obtain⟨aE,iH,ds,he,ay⟩:=wL (t:=T.k) rfl Ci Ci h
 match cs,aE with
 | [bz,c1,c2,bu,bB],_ =>
  obtain⟨_,_,ej,ad,_⟩:=ay 0 _ rfl;obtain⟨_,_,aR,ab,d3⟩:=ay 3 _ rfl;obtain⟨_,_,bn,aC,d4⟩:=ay 4 _ rfl;cases ej;cases aR;cases bn;obtain⟨s,ej,_,aj⟩:=DataW.trod_string Ci ad;obtain⟨fQ,bF,cK⟩:=nr ay 1 rfl;obtain⟨z2,aH,cV⟩:=nr ay 2 rfl;cases ej;cases bF;cases aH;obtain⟨dR,ab,g3⟩:=Zz ab;obtain⟨ee,aC,g4⟩:=akv aC;exact⟨⟨s,fQ,z2,dR,ee⟩,⟨aj,bu,bB,rfl,ab,aC⟩,λaj=>by
   rw[he] at aj;exact⟨nc cK,nc cV,(g3 (aj.field rfl rfl rfl d3)).1,(g4 (aj.field rfl rfl rfl d4)).1,(g3 (aj.field rfl rfl rfl d3)).2,(g4 (aj.field rfl rfl rfl d4)).2⟩⟩
def akA(h:DataW.trod enc Tryz.prog w 0 (λ_=>true) true n T.we [v]=some y):∃l,o.rr w v l/\(Small Tryz.prog T.we y.1->o.ep l.length 80/\∀x∈l,x.cv) :=
 yp (e:=T.k) 5 80 Ci Ci Ci (λa cs n y an aE aB=>by
  obtain⟨x,⟨ad,fi,va,rfl,h1,I⟩,aG⟩:=akz aB;exact⟨x,⟨ad,fi,va,an,h1,I⟩,aG⟩) h
def akB(h:DataW.trod enc Tryz.prog w 0 (λ_=>true) true n T.am [v]=some y):∃l,o.B0 w v l/\(Small Tryz.prog T.am y.1->o.ep l.length 40/\∀x∈l,x.cv) :=
 yp (e:=T.tr) 2 40 Ci Ci Ci (λa cs n y an aE aB=>by
  obtain⟨aE,iH,ds,he,ay⟩:=wL (t:=T.tr) rfl Ci Ci aB
  match cs,aE with
  | [bz,c1],_ =>
   obtain⟨_,_,ej,ad,_⟩:=ay 0 _ rfl;obtain⟨_,_,bF,h1,d1⟩:=ay 1 _ rfl;cases ej;cases bF;obtain⟨s,ej,_,aj⟩:=DataW.trod_string Ci ad;cases ej;obtain⟨dz,h1,g1⟩:=JJ h1;exact⟨⟨s,dz⟩,⟨aj,c1,an,h1⟩,λaj=>by rw[he] at aj;exact⟨(g1 (aj.field rfl rfl rfl d1)).1⟩⟩) h
theorem aqj{r:Reach}{np:Nat}{v:B_}{d:DataW H}{p:C_ MemPlace}(xg:Value.okWide Tryz.prog w r np T.f v)(h:DataW.Trod enc Tryz.prog w 0 (λ_=>true) true T.f v d p)(aj:Small Tryz.prog T.f d) :
  ∃cs m,v = .agg cs.toArray/\o.dj w cs m/\m.cv:=by
 obtain⟨cs,n,rfl,aB⟩:=aqm (t:=T.f) rfl xg h;obtain⟨aE,iH,ds,rfl,ay⟩:=wL (t:=T.f) rfl Ci Ci aB;obtain⟨cs⟩:=cs
 match cs,aE with
 | [bz,c1,c2,bu,bB],_ =>
  obtain⟨_,_,ej,ad,d0⟩:=ay 0 _ rfl;obtain⟨_,_,bF,h1,d1⟩:=ay 1 _ rfl;obtain⟨_,_,aH,I,d2⟩:=ay 2 _ rfl;obtain⟨_,_,aR,ab,d3⟩:=ay 3 _ rfl;obtain⟨_,_,bn,aC,d4⟩:=ay 4 _ rfl;cases ej;cases bF;cases aH;cases aR;cases bn;obtain⟨eu,dB,np⟩:=akD ad;obtain⟨dz,cP,bx⟩:=Zz h1;obtain⟨dJ,cA,bQ⟩:=akt I;obtain⟨dR,eI,bW⟩:=akA ab;obtain⟨ee,fp,c6⟩:=akB aC;have fh:=np (aj.field rfl rfl rfl d0);have cK:=bx (aj.field rfl rfl rfl d1);have cV:=bQ (aj.field rfl rfl rfl d2);have fo:=bW (aj.field rfl rfl rfl d3);have hC:=c6 (aj.field rfl rfl rfl d4);exact⟨[bz,c1,c2,bu,bB],⟨eu,dz,dJ,dR,ee⟩,rfl,⟨⟨bz,c1,c2,bu,bB,rfl,dB,cP,cA,eI,fp⟩⟩,⟨fh.1,cK.1,cV.1,fo.1,hC.1,fh.2,cK.2,cV.2,fo.2,hC.2⟩⟩
end Go.Proofs.R
namespace Go.Proofs.R
open Go Go.RowKit a8 Go.ChangeShapes
variable{H:Type}{enc:TypeId×Value->H}{w:World}{r:Reach}{np:Nat}{v:Value}{d:DataW H}{p:List MemPlace}
def aor{n:Nat}{y:DataW H×C_ MemPlace}(h:DataW.trod enc Tryz.prog w 0 (λ_=>true) true n T.b [v]=some y):∃l,ph w v l/\(Small Tryz.prog T.b y.1->l.length<=140737488355328) :=
 ahG (e:=T.a) 1 Ci Ci (by decide +kernel) (λa cs n y an aE aB=>by
  obtain⟨z,e,_,aoQ⟩:=DataW.trod_int (k:=.i64) Ci aB;cases e;exact⟨z,an,nc aoQ⟩) h
def open_ints(xg:Value.okWide Tryz.prog w r np T.b v)(h:DataW.Trod enc Tryz.prog w 0 (λ_=>true) true T.b v d p):∃l,ph w v l:=by
 obtain⟨n,aw⟩:=agN (e:=T.a) Ci xg h;obtain⟨l,aE,_⟩:=aor aw;exact⟨l,aE⟩
end Go.Proofs.R
namespace Go.Proofs.R
open Go Go.RowKit a8 Go.ChangeShapes
variable{H:Type}{enc:TypeId×Value->H}{w:World}{r:Reach}{np:Nat}{v:Value}{d:DataW H}{p:List MemPlace}
def aqk(xg:Value.okWide Tryz.prog w r np T.b v)(h:DataW.Trod enc Tryz.prog w 0 (λ_=>true) true T.b v d p):∃l,bm 1 (Flat bX) w v l:=by
 obtain⟨l,aE⟩:=open_ints xg h;obtain⟨aN,cap,e,h1,I,ab,aC⟩:=aE.ex;exact⟨l,aN,cap,e,h1,I,ab,λa aY i U=>(aC a aY i U).1⟩
end Go.Proofs.R
namespace Go.Proofs.R
open Go Go.RowKit a8 Go.ChangeShapes Go.WideShapes Go.Deep
def ax0{H:Type}{enc:F_×B_->H}{r:Reach}{np:Nat}{d0 d1:DataW H}{eH dK:C_ MemPlace}(v0 v1:B_)(W:A_)(aQ:gJ W)
  (fh:Value.okWide Tryz.prog W r np T.f v0)(ad:DataW.Trod enc Tryz.prog W 0 (λ_=>true) true T.f v0 d0 eH)(kv:Small Tryz.prog T.f d0)
  (cK:Value.okWide Tryz.prog W r np T.b v1)(h1:DataW.Trod enc Tryz.prog W 0 (λ_=>true) true T.b v1 d1 dK)(_s1:Small Tryz.prog T.b d1) :
  Du F.G0 #[v0,v1] W λv w'=>v = .bool true/\Ext W w':=by
 obtain⟨cs,m,rfl,hm,aG⟩:=aqj fh ad kv;obtain⟨s,aj⟩:=aqk cK h1;exact aoW cs v1 m s W hm aG aQ aj (ape aQ)
end Go.Proofs.R
namespace a8
open Go Go.RowKit Go.ChangeShapes
def aw9{P:D_}{f:E_}{fn:Func}{s:ChangeSpec}{c:OpenClaim}(h1:(c.wf (OpenSpec.ofChange s)&&laidOutB P&&mapsRowed P)=true)
  (I:(fn.params.all (P.readableRec ·)&&namedTie P c.named s.vars)=true)(ab:((c.stops == [])&&(P.stops == [])&&(c.knobs == [])&&(P.stopKnobs == []))=true)
  (aC:(c.inPlace == P.inPlace f)=true)(a1:(c.unfollowed == P.unfollowed f)=true)(bJ:(c.recurses == P.recurses f)=true)(cr:(c.named == P.varsNamed f)=true)
  (dp:((c.maps == (fn.params.toList++s.plain.varTypes P).any (P.mapsRec ·))&&(c.ifaces == (fn.params.toList++s.plain.varTypes P).any (P.ifacesRec ·))&&(c.mapsOut == P.mapsAmong fn.resultTypes.toList))=true)
  (ir:((c.loops == (fn.params.toList++s.plain.varTypes P).any (P.loopsFrom ·))&&(c.wideKeys == (fn.params.toList++s.plain.varTypes P++fn.resultTypes.toList).any (P.wideKeysFrom ·)))=true)
  (k1:(s.vars.all (P.varReadable ·)&&fn.resultTypes.all (λt=>P.readableRec t&&decide (t<P.types.size))&&(c.ifacesOut == fn.resultTypes.toList.any (P.ifacesRec ·))&&(c.loopsOut == fn.resultTypes.toList.any (P.loopsFrom ·)))=true)
  (CJ:(c.plainKeys == P.plainKeys)=true)(sA:(c.shortTexts.isNone&&P.stopsHeard)=true)(Ap:P.mayEnter=true)
  (CK:((c.lifted == P.liftsFinal)&&(P.make == some c.make))=true)
  (nY:((c.kinds == (if c.domain.isEmpty then [] else fn.params.toList.map λt=>match P.underlying t with | some (.int k)=>some k | _=>none))&&(c.pinned == c.pinnedBy))=true)
  (oP:((c.veiled == (fn.params.toList++s.plain.varTypes P++fn.resultTypes.toList).any (P.veiledRec ·))&&c.veiledFits P fn.params.toList (fn.params.toList++s.plain.varTypes P++fn.resultTypes.toList))=true) :
  joinedFacts P f fn s c=true:=by
 simp only[Bool.and_eq_true] at h1 I ab dp ir k1 sA CK nY oP;unfold joinedFacts;simp only[Bool.and_eq_true];obtain⟨⟨db,a2⟩,a3⟩:=h1;obtain⟨bx,bQ⟩:=I;obtain⟨⟨⟨d1,d2⟩,d3⟩,d4⟩:=ab;obtain⟨⟨bF,aH⟩,aR⟩:=dp;obtain⟨f1,f2⟩:=ir;obtain⟨⟨⟨g1,g2⟩,g3⟩,g4⟩:=k1;obtain⟨i1,i2⟩:=sA;obtain⟨kO,jM⟩:=CK;obtain⟨cK,cV⟩:=nY;obtain⟨dz,dJ⟩:=oP;exact⟨⟨⟨⟨⟨⟨⟨⟨⟨⟨⟨⟨⟨⟨⟨⟨⟨⟨⟨⟨⟨⟨⟨⟨⟨⟨⟨⟨⟨⟨⟨db,a2⟩,a3⟩,bx⟩,bQ⟩,d1⟩,d2⟩,d3⟩,d4⟩,aC⟩,a1⟩,bJ⟩,cr⟩,bF⟩,aH⟩,aR⟩,f1⟩,f2⟩,g1⟩,g2⟩,g3⟩,g4⟩,CJ⟩,i1⟩,i2⟩,Ap⟩,kO⟩,jM⟩,cK⟩,cV⟩,dz⟩,dJ⟩
end a8