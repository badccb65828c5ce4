/- Parts. -/
import Derived.Test.YtakmdjclehkglaaGreatDoorQauq
import Derived.SizedLaws
import Derived.Test.YtakmdjclehkglaaGreatDoorRows
import Derived.JoinedCond
set_option linter.all false
set_option maxRecDepth 8000
set_option maxHeartbeats 32000000
section
namespace Go.Proofs.R
open Go Go.RowKit bb
theorem o.ak0{m:o.Model}{s:C_ Int}{r:Nat}{t:Bool}(bE:o.hb m s)(aL:r<(o.refs m).length)(h:Gw m s r t):t=true↔o.wY m s r:=by
 obtain⟨q,p,k,bC⟩:=o.o8 (m:=m) (ref:=r) ⟨bE.1,by omega,by omega⟩;unfold Gw at h;rw[h];constructor
 .rintro⟨_,_,ab⟩;exact⟨q,p,k,bC,ab q p k bC⟩
 .rintro⟨eX,gz,k',xA,ab⟩;refine⟨bE,bC.told,fun a b c H7=>?_⟩;obtain⟨rfl,rfl,rfl⟩:=xA.one H7;exact ab
theorem GH(cs:C_ B_)(v:B_)(m:o.Model)(s:C_ Int)(w:A_)(h:o.dV w cs m)(aK:m.cN)(aM:gB w)(an:ee w v s) :
  a7 Tryz.prog F.ho #[.agg cs.toArray,v] w fun u w'=>(∃i:Int,u = .int .i64 i/\o.sk m s i)/\Ext w w':=by
 have dw:=h;obtain⟨cd,bw,bO,c1,bV,c2,b2,br,cj,bF,rfl,_⟩:=h.form;obtain⟨os,Dw,rfl,_⟩:=an.form;refine bn E.ho ?_;refine aa ?_;intro w1 bR dt al av;refine aa ?_;refine J_ (x9 _ m w1 (dw.ext al) aK (aM.ext al)) ?_;rintro _ aH ⟨rfl,ao⟩;replace av:=ao.obj av;have aI:=al.trans ao;refine aa ?_;refine _A (v:=.int .i64 (o.check m).cA) rfl ?_;refine aa ?_;refine I_ (fun hk=>?_) (fun hk=>?_);rotate_left
 .have ay:¬o.hb m s:=fun bE=>hk bE.1;refine aa ?_;exact⟨⟨-1,aU,⟨fun _=>rfl,fun bE=>absurd bE ay,fun bE=>absurd bE ay⟩⟩,aI⟩
 refine aa ?_;refine J_ (abF _ m _ s aH (dw.ext aI) aK (aM.ext aI) (an.ext Flat.ext aI)) ?_;rintro _ aP ⟨⟨t,rfl,aB⟩,aj⟩;replace av:=aj.obj av;have ba:=aI.trans aj;cases t with
 | false =>
  have ay:¬o.hb m s:=fun bE=>by have:=aB.2 bE;cases this
  refine aa ?_;exact⟨⟨-1,aU,⟨fun _=>rfl,fun bE=>absurd bE ay,fun bE=>absurd bE ay⟩⟩,ba⟩
 | true =>
 have bE:=aB.1 rfl;have jU:=o.ir hk;have akg:=o.yh jU.lim;have gU:=o.zG jU;obtain⟨f6,f7,f8⟩:=o.s6 m;have hlen:=bE.2.len;refine eh ?_;refine S_ [1,2] (fun x:(Nat×Nat)×B_=>[(5,.pointer (some ⟨x.1.1,0,none⟩)),(6,.pointer (some ⟨x.1.2,0,none⟩)),(7,x.2)]) (fun x W=>Ext aP W/\∃lS bM,W.heap[x.1.1]? = some (.cells #[lS] T.c)/\W.heap[x.1.2]? = some (.cells #[bM] T.d)/\sq W lS (o.refs m)/\ke W bM (o.insts m)/\bh 1 (Flat cR) W x.2 (o.layout m).insts) ?_ ?_
 .refine AB2 _ _ (by rfl) ?_;intro aR aA;dsimp only[strip];replace av:=aA.obj av;have bG:=ba.trans aA;refine aa ?_;refine⟨ju _ aR m,[5,6,7,26,28],?_,⟨Ext.refl _,fun _ _=>rfl,by simp,by simp,by simp,by simp,by simp,by simp,by simp,by simp⟩,?_⟩
  .have Bq:=dw.ext bG;have eR:=aM.ext bG;clear av h an
   repeat' first
    | exact hN.nil
    | exact hN.done (by decide)
    | refine hN.alt (anj (by decide) (by decide) Bq jU.lim rfl) ?_ ?_
    | refine hN.alt (ank (by decide) (by decide) Bq aK rfl) ?_ ?_
    | refine hN.bk (anl (by decide) (by decide) Bq aK eR hk rfl) ?_ ?_
    | refine hN.alt (ann (by decide) (by decide)) ?_ ?_
    | refine hN.alt (ano (by decide) (by decide)) ?_ ?_
    | refine hN.take (anm (by decide) (by decide) (by decide)) ?_
    | refine hN.take (anp (by decide) (by decide)) ?_
    | refine hN.bk (anq (by decide) (by decide) (by decide)) ?_ ?_
    | refine hN.bk (anr (by decide) (by decide) (by decide)) ?_ ?_
  .rintro D pI bq h4 a8;have ah:=a8.mZ (h4 7 (by decide));obtain⟨dx,cV,dq,dU⟩:=a8.f5 (h4 5 (by decide));obtain⟨dP,eb,dG,fg⟩:=a8.f6 (h4 6 (by decide));rw[decide_eq_true (show 1<=D.count 100000 by omega)] at dU;rw[decide_eq_true ah] at fg;exact⟨((dx,dP),pI 7),⟨dq,dG,rfl,trivial⟩,aA.trans a8.ext,_,_,dU,fg,a8.f26 (h4 26 (by decide)),a8.f28 (h4 28 (by decide)),a8.f7 (h4 7 (by decide))⟩
 rintro⟨⟨dx,dP⟩,ea⟩ pI aR ⟨aA,lS,bM,cc,b4,k7,a8,dG⟩;dsimp only at cc b4 dG;replace av:=aA.obj av;have bG:=ba.trans aA;have Bq:=dw.ext bG;obtain⟨cx,ci,rfl,_⟩:=a8.form;obtain⟨gR,iz,rfl,_⟩:=k7.form;obtain⟨aQ,fD,rfl,_⟩:=dG.form;have dR:∀{W} (r:Nat),Ext aR W->r<(o.refs m).length->a7 Tryz.prog F.x #[.int .i64 r,.pointer (some ⟨bR,0,none⟩),.pointer (some ⟨dP,0,none⟩),.pointer (some ⟨dx,0,none⟩)] W fun u w'=>u = .int .i64 (o.Bk m r)/\Ext W w' :=
  fun {W} r e aL=>anz _ _ _ m r bR dP dx W (Bq.ext e) (a8.ext Flat.ext e) (k7.ext Flat.ext e) hk aL (e.obj av) (e.obj b4) (e.obj cc)
 have gp:∀{W},Ext aR W->W.heap[bR]? = _:=fun e=>e.obj av;have O7:∀{W},Ext aR W->W.heap[dx]? = _:=fun e=>e.obj cc;refine aa ?_;refine L_ 35 (o.insts m).length [1,2,5,6,7,8,33,34] (fun _:Unit=>[(9,.int .i64 (-1))]) () (fun i _ W=>Ext aR W/\∀j,j<i->¬o.qk m s j) bc bc ⟨Ext.refl _,fun j aE=>absurd aE (Nat.not_lt_zero _)⟩ ?_;clear av cc b4;rintro i _ S bq U ⟨aJ,hg⟩;have av:=gp aJ;have cc:=O7 aJ;have bU:=bG.trans aJ;refine aa ?_;apply I_<;>intro g1;rotate_left
 .refine aa ?_;exact⟨⟨-1,aU,⟨fun _=>rfl,fun _ _=>⟨rfl,fun j aE=>hg j (by omega)⟩,fun _ h=>absurd h (by omega)⟩⟩,bU⟩
 have cE:i<(o.insts m).length:=by omega
 obtain⟨p,hIn⟩:=o.BY cE;obtain⟨IH,sW⟩:=o.rV cE;have II:=hIn.room;have Fu:=dG.ext Flat.ext aJ;have sZ:=an.ext Flat.ext bU;obtain⟨a2,rfl⟩:∃a,aQ=some a:=dG.addr;obtain⟨UB,rfl⟩:=an.addr;have vN:o.mL m s i=s[o.dj m i]'(by omega):=by unfold o.mL;rw[List.getElem?_eq_getElem (by omega)];rfl
 refine aa ?_;refine K_ (o.dj m i) (by rw[sW]) (by omega) ?_;refine aa ?_;obtain⟨loc,ajh⟩:∃loc,loc=s[o.dj m i]:=⟨_,rfl⟩;rw[<-ajh] at vN ⊢;clear Fu sZ;refine J_ (afb _ m i loc bq (dw.ext bU) aK (aM.ext bU)) ?_;rintro _ bB ⟨⟨t,rfl,cI⟩,aT⟩;replace av:=aT.obj av;replace cc:=aT.obj cc;have c8:=bU.trans aT;have iM:=aJ.trans aT;have WQ:=cI.is;have uh:¬o.qk m s i->∀j,j<i+1->¬o.qk m s j:=fun cw j aE dK=>by
  by_cases e:j=i
  .rw[e] at dK;exact cw dK
  .exact hg j (by omega) dK
 cases t with
 | false =>
  have cw:¬o.qk m s i:=fun dK=>by have:=dK.loc;rw[vN,<-WQ] at this;cases this
  have:=uh cw
  refine aa ?_;exact⟨by omega,aU,(),⟨aU,trivial⟩,iM,this⟩
 | true =>
 have C3:=k7.ext Flat.ext iM;refine aa ?_;have O6:∀{W},Ext bB W->W.heap[bR]? = _:=fun e=>e.obj av;clear av cc;refine L_ 52 (o.refs m).length [1,2,5,6,7,8,9,10,11,33,34,35,50,51] (fun b:Bool=>[(12,.bool b)]) false (fun k b W=>Ext bB W/\(∀r,r<k->o.pc m i loc r=true->o.uM m r=false)/\(b=true↔∃r,r<k/\o.pc m i loc r=true/\o.wY m s r)) bc bc ⟨Ext.refl _,fun r aL=>absurd aL (Nat.not_lt_zero _),by simp⟩ ?_;rintro k b S bQ zv ⟨bz,Ei,IX⟩;have av:=O6 bz;have dQ:=c8.trans bz;have gK:=iM.trans bz;have AG:=C3.ext Flat.ext bz;refine aa ?_;apply I_<;>intro g2;rotate_left
 .have p2:k=(o.refs m).length:=by omega
  have M6:b=true↔o.qk m s i:=by
   rw[o.afC,vN,IX];constructor
   .rintro⟨r,h1,I,ab⟩;exact⟨WQ.symm,fun hj qT=>Ei hj (by have:=qT.lt;omega) ((o.HU hk qT.lt).2 qT),r,(o.HU hk (by omega)).1 I,ab⟩
   .intro dK;obtain⟨r,h1,I⟩:=dK.on;exact⟨r,by have:=h1.lt;omega,(o.HU hk h1.lt).2 h1,I⟩
  clear Ei IX;cases b with
  | true =>
   have dK:=M6.1 rfl;refine aa ?_;have lF:o.sk m s (i:Int):=⟨fun ay=>absurd bE ay,fun _ h=>absurd h (by omega),fun _ _=>⟨by omega,by rw[Int.toNat_natCast];exact dK,fun j aE=>hg j (by omega)⟩⟩;exact⟨⟨i,aU,lF⟩,dQ⟩
  | false =>
   have:=uh fun dK=>by have:=M6.2 dK;cases this
   clear M6 hg;refine aa ?_;exact⟨by omega,aU,(),⟨aU,trivial⟩,gK,this⟩
 have aZ:k<(o.refs m).length:=by omega
 obtain⟨Kv,pp,nu,bC⟩:=o.o8 (m:=m) (ref:=k) ⟨hk,by omega,by omega⟩;obtain⟨Qx,Qy⟩:=bC.rel;have gD:(o.refs m)[k].inst=(Kv:Int):=bC.at_.pw;obtain⟨kD,rfl⟩:=AG.addr;have gC:=AG.at k aZ;obtain⟨r,aL⟩:∃r,r=(o.refs m)[k]:=⟨_,rfl⟩;rw[<-aL] at gC gD;have gC:e0 bQ (kD.add (k*2)) r.enc:=gC;unfold o.Ref.enc at gC;obtain⟨hC,nY⟩:∃hC,hC=o.Bk m k:=⟨_,rfl⟩;have NX:o.pc m i loc k=(decide (r.inst=i)&&decide (hC=loc)):=by unfold o.pc;rw[Qx,<-gD,nY]
 have dR:∀{W},Ext bQ W->a7 Tryz.prog F.x #[.int .i64 k,.pointer (some ⟨bR,0,none⟩),.pointer (some ⟨dP,0,none⟩),.pointer (some ⟨dx,0,none⟩)] W fun u w'=>u = .int .i64 hC/\Ext W w':=fun e=>by rw[nY];exact dR k (gK.trans e) aZ
 have ti:∀{W} (gL:Bool),Ext bQ W->(o.pc m i loc k=true->o.uM m k=false)->(gL=true↔b=true\/(o.pc m i loc k=true/\o.wY m s k))->Ext bB W/\(∀r,r<k+1->o.pc m i loc r=true->o.uM m r=false)/\(gL=true↔∃r,r<k+1/\o.pc m i loc r=true/\o.wY m s r):=fun gL e h1 I=>⟨bz.trans e,fun r aL ax=>by
   by_cases e:r=k
   .subst e;exact h1 ax
   .exact Ei r (by omega) ax,by
   rw[I,IX];constructor
   .rintro(⟨r,df,a2,a3⟩ | ⟨a2,a3⟩)
    .exact⟨r,by omega,a2,a3⟩
    .exact⟨k,by omega,a2,a3⟩
   .rintro⟨r,df,a2,a3⟩;by_cases e:r=k
    .subst e;exact .inr ⟨a2,a3⟩
    .exact .inl ⟨r,by omega,a2,a3⟩⟩
 clear IX C3 Qx Qy;refine aa ?_;intro wn tK D2 fm eQ;refine aa ?_;intro de iH pf;replace pf:de.heap[tK]? = some (.cells #[.int .i64 r.inst,.int .i64 r.cmd] T.i):=by first | exact pf | (rw[aL];exact pf)
 have bP:Ext bQ de:=iH.ext fm D2;replace av:=bP.obj av;have gm:=dQ.trans bP;have ih:=gK.trans bP;clear eQ gC AG;by_cases g7:r.inst=(i:Int);rotate_left
 .have af:o.pc m i loc k=false:=by rw[NX,decide_eq_false g7];rfl
  have:=ti b bP (fun h=>by rw[af] at h;cases h) ⟨fun h=>.inl h,fun h=>by rcases h with h | ⟨h,_⟩;exact h;rw[af] at h;cases h⟩
  clear Ei ti hg uh dR gp O7 O6;refine aa ?_;exact⟨aZ,aU,b,⟨aU,trivial⟩,this⟩
 have l6:o.pc m i loc k=decide (hC=loc):=by rw[NX,decide_eq_true g7,Bool.true_and]
 replace ti:=i_ @ti trivial;replace hg:=i_ hg trivial;replace dR:=i_ @dR trivial;replace uh:=i_ uh trivial;have By:o.qk m s i->o.pc m i loc k=true->o.uM m k=false:=fun dK ax=>dK.Dx k (by rw[vN];exact(o.HU hk aZ).1 ax);replace By:=i_ By trivial;replace l6:=i_ l6 trivial;clear Ei nY NX gD bC aL gp O7 O6;refine aa ?_;refine U_ (first:=[]) (cap:=[.pointer (some ⟨bR,0,none⟩),.pointer (some ⟨dP,0,none⟩),.pointer (some ⟨dx,0,none⟩)]) (by kernel_rfl) (dR.1 bP) ?_;rintro _ dc ⟨rfl,ck⟩;replace av:=ck.obj av;have jQ:=gm.trans ck;have gS:=ih.trans ck;have WG:=bP.trans ck;clear dR;by_cases g8:hC=loc;rotate_left
 .have af:o.pc m i loc k=false:=by rw[l6.1,decide_eq_false g8]
  have:=ti.1 b WG (fun h=>by rw[af] at h;cases h) ⟨fun h=>.inl h,fun h=>by rcases h with h | ⟨h,_⟩;exact h;rw[af] at h;cases h⟩
  clear ti hg uh;refine aa ?_;exact⟨aZ,aU,b,⟨aU,trivial⟩,this⟩
 have h1:o.pc m i loc k=true:=by rw[l6.1,decide_eq_true g8]
 replace h1:=i_ h1 trivial;refine aa ?_;refine J_ (afc _ m k dc (dw.ext jQ) aK (aM.ext jQ)) ?_;rintro _ eY ⟨⟨t,rfl,bZ⟩,cG⟩;replace av:=cG.obj av;have o9:=jQ.trans cG;have rl:=gS.trans cG;have WE:=WG.trans cG;have kn:=bZ.is;cases t with
 | true =>
  have cw:¬o.qk m s i:=fun dK=>by have:=By.1 dK h1.1;rw[<-kn] at this;cases this
  have:=uh.1 cw
  clear ti hg uh By bZ kn;refine aa ?_;exact⟨by omega,aU,(),⟨aU,trivial⟩,rl,this⟩
 | false =>
 cases b with
 | true =>
  have:=ti.1 true WE (fun _=>kn.symm) ⟨fun h=>.inl h,fun _=>rfl⟩
  clear ti hg uh By bZ kn;refine aa ?_;exact⟨aZ,aU,true,⟨aU,trivial⟩,this⟩
 | false =>
  replace kn:=i_ kn trivial;clear bZ;refine aa ?_;refine J_ (ags _ _ m s k eY (dw.ext o9) aK (aM.ext o9) (an.ext Flat.ext o9)) ?_;rintro _ gw ⟨⟨t2,rfl,hO⟩,e8⟩;have Nd:=o.ak0 bE aZ hO
  have:=ti.1 t2 (WE.trans e8) (fun _=>kn.1.symm) ⟨fun h=>.inr ⟨h1.1,Nd.1 h⟩,fun h=>by rcases h with h | ⟨_,h⟩;cases h;exact Nd.2 h⟩
  clear ti hg uh By kn hO Nd;refine aa ?_;exact⟨aZ,aU,t2,⟨aU,trivial⟩,this⟩
end Go.Proofs.R
end
section
namespace bb
open Go Go.RowKit
theorem Wc{α:Type}{p:α->Bool}:∀(l:C_ α) (n:Nat),(lE p l n = -1/\l.filter (fun x => !p x)=l)\/∃k,∃h:k<l.length,lE p l n=((n+k:Nat):Int)/\p l[k]=true/\(l.take (k+1)).filter (fun x => !p x)=l.take k
 | [],_=>.inl ⟨rfl,rfl⟩
 | x :: r,n=>by
  by_cases ar:p x=true
  .exact .inr ⟨0,by simp,by simp[lE,ar],by simpa using ar,by simp[ar]⟩
  .rcases Wc (p:=p) r (n+1) with ⟨h1,I⟩ | ⟨k,hk,h1,I,ab⟩
   .exact .inl ⟨by simp[lE,ar,h1],by simp[ar,I]⟩
   .exact .inr ⟨k+1,by simpa using hk,by simp only[lE,if_neg ar,h1];congr 1;omega,by simpa using I,by simp[ar,ab]⟩
theorem agC{α:Type}{q:α->Bool}{l:C_ α}{j:Nat}(h:j<l.length):(l.take (j+1)).filter q=(l.take j).filter q++if q l[j] then [l[j]] else []:=by
 rw[List.take_succ_eq_append_getElem h,List.filter_append];congr 1;cases h:q l[j]<;>simp[h]
theorem QJ:∀(cs:C_ B_) (w:A_) (b ad i:Nat) (cur:Array B_) (e:F_),w.heap[b]? = some (.cells cur e)->ad+i+cs.length<=cur.size ->
  ∃lD,(ic w ⟨b,ad,none⟩ cs i).heap[b]? = some (.cells lD e)/\lD.size=cur.size/\(∀j,j<ad+i\/ad+i+cs.length<=j->lD[j]? = cur[j]?)/\∀j (h:j<cs.length),lD[ad+i+j]? = some cs[j]
 | [],w,b,ad,i,cur,e,ak,_=>⟨cur,ak,rfl,fun _ _=>rfl,fun j h=>absurd h (Nat.not_lt_zero _)⟩
 | c :: cs,w,b,ad,i,cur,e,ak,aF=>by
  have aE:ad+i<cur.size:=by simp at aF;omega
  have h1:=FD ak aE c;have iT:Addr.add ⟨b,0,none⟩ (ad+i)=Addr.add ⟨b,ad,none⟩ i:=by rw[add_eq,add_eq,Nat.zero_add]
  rw[iT] at h1;obtain⟨lD,cC,cS,eT,hI⟩:=QJ cs _ b ad (i+1) _ e h1 (by simp at aF ⊢;omega);refine⟨lD,cC,by simpa using cS,fun j l7=>?_,fun j h=>?_⟩
  .rw[eT j (by simp at l7 ⊢;omega),Array.getElem?_set_ne _ (by simp at l7;omega)]
  .cases j with
   | zero =>
    rw[Nat.add_zero,eT (ad+i) (by omega),Array.getElem?_set_self];rfl
   | succ j =>
    have:=hI j (by simpa using h)
    rw[show ad+i+(j+1)=ad+(i+1)+j from by omega,this];rfl
end bb
namespace Go.Proofs.R
open Go Go.RowKit bb
theorem U5{w:A_}{b j:Nat}{c:Array B_}{t:F_}{v:B_}(h:w.heap[b]? = some (.cells c t))(aE:c[j]? = some v):w.cell? ⟨b,j,none⟩=some v:=by
 simp[World.cell?,h,aE]
structure ik(w:World)(b:Nat)(l:List (e1 3)):Prop where
 ex:∃cur,w.heap[b]? = some (.cells cur T.p)/\3*l.length<=cur.size/\∀i (h:i<l.length),∀j,j<3->cur[3*i+j]? = l[i].1[j]?
theorem ik.ext{w w':A_}{b:Nat}{l:C_ (e1 3)}(h:ik w b l)(he:Ext w w'):ik w' b l:=by
 obtain⟨cur,h1,I,ab⟩:=h.ex;exact⟨cur,he.obj h1,I,ab⟩
theorem ik.at_{w:A_}{b:Nat}{l:C_ (e1 3)}(h:ik w b l){i:Nat}(U:i<l.length):e0 w ⟨b,3*i,none⟩ l[i].1:=by
 obtain⟨cur,h1,I,ab⟩:=h.ex;have e:(⟨b,3*i,none⟩:Addr)=Addr.add ⟨b,0,none⟩ (3*i):=by rw[add_eq,Nat.zero_add]
 intro j v aE;have aF:j<3:=by
  have:=(List.getElem?_eq_some_iff.1 aE).1
  rw[l[i].2.1] at this;exact this
 have cC:=ab i U j aF;rw[aE] at cC;rw[e,add_eq,add_eq,Nat.zero_add];exact U5 h1 cC
theorem ik.take{w:A_}{b:Nat}{l:C_ (e1 3)}(h:ik w b l)(k:Nat):ik w b (l.take k):=by
 obtain⟨cur,h1,I,ab⟩:=h.ex;refine⟨cur,h1,by rw[List.length_take];omega,fun i U j aE=>?_⟩;rw[List.length_take] at U;rw[ab i (by omega) j aE,List.getElem_take]
theorem ik.set{w:A_}{b i:Nat}{l:C_ (e1 3)}(h:ik w b l)(U:i<l.length)(x:e1 3):ik (ic w ⟨b,3*i,none⟩ x.1 0) b (l.set i x):=by
 obtain⟨cur,h1,I,ab⟩:=h.ex;have ag:=x.2.1;obtain⟨lD,cC,cS,eT,hI⟩:=QJ x.1 w b (3*i) 0 cur _ h1 (by omega);refine⟨lD,cC,by rw[List.length_set,cS];exact I,fun t aB j aE=>?_⟩;rw[List.length_set] at aB;by_cases e:i=t
 .subst e;rw[List.getElem_set_self]
  have:=hI j (by omega)
  rw[Nat.add_zero] at this;rw[this,List.getElem?_eq_getElem (by omega)]
 .rw[List.getElem_set_ne e,eT _ (by omega)];exact ab t aB j aE
theorem ik.cut{w:A_}{b k:Nat}{l:C_ (e1 3)}{zs:C_ B_}(h:ik w b l)(bA:3*k+zs.length<=3*l.length):ik (ic w ⟨b,3*k,none⟩ zs 0) b (l.take k):=by
 obtain⟨cur,h1,I,ab⟩:=h.ex;obtain⟨lD,cC,cS,eT,_⟩:=QJ zs w b (3*k) 0 cur _ h1 (by omega);refine⟨lD,cC,by rw[List.length_take,cS];omega,fun t aB j aE=>?_⟩;rw[List.length_take] at aB;rw[List.getElem_take,eT _ (by omega)];exact ab t (by omega) j aE
theorem are{P:D_}{ty:F_}{z:B_}(h:(P.info? ty).bind (·.zero)=some z)(w:A_):(zeroValue ty).run P w = .ok z w:=by
 cases U:P.info? ty with
 | none=>rw[U] at h;cases h
 | some i =>
  rw[U] at h;have I:i.zero=some z:=h;simp[zeroValue,tt U,I]
theorem ik.free{w:A_}{b:Nat}{l:C_ (e1 3)}(h:ik w b l){j:Nat}(aE:j<3*l.length):(∃hx,w.cell? ⟨b,j,none⟩=some hx)/\w.frozen? ⟨b,j,none⟩=false:=by
 obtain⟨cur,h1,I,_⟩:=h.ex;exact⟨⟨cur[j]'(by omega),U5 h1 (Array.getElem?_eq_getElem (by omega))⟩,by simp[World.frozen?,h1]⟩
theorem AD9{w:A_}{b i:Nat}{l:C_ (e1 3)}{x:e1 3}{a:Addr}{KW:A_->Prop}{t}(h:ik w b l){v:B_}(aG:v = .agg x.1.toArray)(aV:a=⟨b,3*i,none⟩)(U:i<l.length)(hk:∀w1,dn b w w1->ik w1 b (l.set i x)->KW w1) :
  yO 3 (.pointer (some a)) v w KW t:=by
 subst aV aG;refine _3 (by simp[x.2.1]) (fun j aE=>?_) x.2.2 (hk _ (dn.ic _ w ⟨b,3*i,none⟩ 0) (h.set U x));rw[add_eq];exact h.free (by omega)
theorem AE0{S:Fr}{w:A_}{b k n cap:Nat}{l:C_ (e1 3)}{x:G_}{aQ:H_ Addr}{cW:B_->A_->Prop}{ty:F_}{t}(h:ik w b l)(ag:aS S x = .slice aQ n cap)(ay:k+n=l.length)(aV:0<n->aQ=some ⟨b,3*k,none⟩)
  (hk:∀v w1,Mod (fun i=>i=b) w w1->ik w1 b (l.take k)->cW v w1):sn Tryz.prog (.call ⟨.builtin .clear,#[x],#[T.ap]⟩) ty S w cW t:=by
 have bA:∀w:A_,(zeroValue T.p).run Tryz.prog w = .ok (.agg #[.int .i64 0,.int .i64 0,.slice none 0 0]) w:=are (by kernel_rfl);have hu:Tryz.prog.underlying T.ap=some (.slice T.p):=by kernel_rfl
 cases n with
 | zero =>
  refine _E (v:=.tuple #[]) (w':=w) ?_ (hk _ _ (Mod.refl _ _) (h.take k));cases aQ<;>simp[execOp,resolve,invoke,builtin,ag,Builtin.clear_,run_underlying hu]
 | succ n =>
  obtain rfl:=aV (by omega);refine _E (v:=.tuple #[]) (w':=ic w ⟨b,3*k,none⟩ (Builtin.zeroCells #[.int .i64 0,.int .i64 0,.slice none 0 0] (n+1)).toList 0) ?_ (hk _ _ ((dn.ic _ w ⟨b,3*k,none⟩ 0).mod rfl) (h.cut ?_))
  .have an:=Fz Tryz.prog ⟨b,3*k,none⟩ (Builtin.zeroCells #[.int .i64 0,.int .i64 0,.slice none 0 0] (n+1)).toList 0 w (fun j aE=>?_) ?_
   .simp[execOp,resolve,invoke,builtin,ag,Builtin.clear_,run_underlying hu,bA,Value.cells,an]
   .rw[add_eq];exact h.free (by simp[Builtin.zeroCells] at aE;omega)
   .intro c ah;simp only[Builtin.zeroCells,Array.toList_map,List.mem_map] at ah;obtain⟨i,_,rfl⟩:=ah;show((#[Value.int .i64 0,.int .i64 0,.slice none 0 0]:Array B_)[i % 3]!).oneCell'=true;rcases(by omega:i % 3=0\/i % 3=1\/i % 3=2) with e | e | e<;>rw[e]<;>rfl
  .simp[Builtin.zeroCells];omega
end Go.Proofs.R
end
section
namespace bb
open Go Go.RowKit
instance atl:Rel (Flat (jR (sz:=3))) (fun _ cs x=>cs=jR x) 3 where
 out h:=⟨_,h,rfl⟩
 n1 h k:=by subst k;exact h
 len h:=by rw[h];exact jS _
 one h:=by rw[h];exact sN _
 ext _ h:=h
theorem Wl:∀(l:C_ (e1 3)) (i:Nat) (h:i<l.length) (j:Nat),j<3->(l.flatMap jR)[3*i+j]? = l[i].1[j]?
 | x :: l,0,h,j,aE=>by
  have:=jS x
  rw[List.flatMap_cons,Nat.mul_zero,Nat.zero_add,List.getElem?_append_left (by omega)];rfl
 | x :: l,i+1,h,j,aE=>by
  have:=jS x
  have eS:=Wl l i (by simpa using h) j aE;rw[List.flatMap_cons,List.getElem?_append_right (by omega),this,show 3*(i+1)+j - 3=3*i+j from by omega,eS];rfl
end bb
namespace Go.Proofs.R
open Go Go.RowKit bb
theorem amd{w:A_}{base:Nat}{v:B_}{l:C_ (e1 3)}(h:oV T.p 3 base w v l)(aF:l≠[]):∃b c,v = .slice (some ⟨b,0,none⟩) l.length c/\base<=b/\ik w b l/\l.length<=c/\c<=maxLen:=by
 rcases h.2 with ⟨_,af⟩ | ⟨g,cap,cur,h1,I,ab,aD,aY,bx,b1⟩
 .exact absurd (List.eq_nil_of_length_eq_zero af) aF
 .refine⟨g,cap,h1,I,⟨cur,ab,by omega,fun i U j aE=>?_⟩,aD,aY⟩;have get:∀j,j<3*l.length->cur[j]? = (l.flatMap jR)[j]? := fun j aE=>by
   rw[<-b1,List.getElem?_take_of_lt (by omega),Array.getElem?_toList]
  rw[get _ (by omega)];exact Wl l i U j aE
theorem ik.jH{w:A_}{b c:Nat}{l:C_ (e1 3)}(h:ik w b l)(ah:l.length<=c)(hm:c<=maxLen):bh 3 (Flat jR) w (.slice (some ⟨b,0,none⟩) l.length c) l :=
 ⟨_,_,rfl,ah,hm,fun _=>rfl,fun a aV i U=>by
  injection aV with aV;subst aV
  have:=h.at_ U
  rw[show(⟨b,3*i,none⟩:Addr)=Addr.add ⟨b,0,none⟩ (i*3) from by rw[add_eq,Nat.zero_add,Nat.mul_comm]] at this;exact this⟩
theorem afa(b c mZ sG:Nat)(l:C_ (e1 3))(p:e1 3->Bool)(w:A_)(h:ik w b l)(ah:l.length<=c)(hm:c<=maxLen)
  (ar:∀x∈l,∀w',Mod (fun i=>i=b) w w'->a7 Tryz.prog F.e #[.agg x.1.toArray,.pointer (some ⟨mZ,0,none⟩),.pointer (some ⟨sG,0,none⟩)] w' fun v bK=>v = .bool (p x)/\Ext w' bK) :
  a7 Tryz.prog F.j #[.slice (some ⟨b,0,none⟩) l.length c,.func (.func F.e) #[] #[.pointer (some ⟨mZ,0,none⟩),.pointer (some ⟨sG,0,none⟩)]] w fun v w'=>v = .slice (some ⟨b,0,none⟩) (l.filter fun x => !p x).length c/\ik w' b (l.filter fun x => !p x)/\Mod (fun i=>i=b) w w':=by
 have ajv:=hm;unfold maxLen at hm;refine u1 E.j ?_;refine nO ?_;refine aa ?_;refine J_ (Pj lj E.y3 _ l w (h.jH ah ajv) F.e (by kernel_rfl) [] [_,_] p ?_) ?_
 .rintro i U iS w' e rfl;exact ar _ (List.getElem_mem U) w' e.mod
 rintro _ w1 ⟨rfl,al⟩;rcases Wc (p:=p) l 0 with ⟨ax,au⟩ | ⟨k,hk,ax,ajY,au⟩
 .rw[ax];refine aa ?_;exact⟨by rw[au],by rw[au];exact h.ext al,al.mod⟩
 rw[ax,Nat.zero_add];refine aa ?_;have rN:=h.ext al;refine _W [0,1] (fun x:Nat×Nat×C_ (e1 3)=>[(5,.int .i64 x.1),(6,.int .i64 x.2.1)]) (k,k+1,l) (fun x W=>x.2.1<=l.length/\x.1<x.2.1/\x.2.2.length=l.length/\ik W b x.2.2/\Mod (fun i=>i=b) w W/\x.2.2.take x.1=(l.take x.2.1).filter (fun x => !p x)/\∀j,x.1<=j->x.2.2[j]? = l[j]?) (fun x=>l.length - x.2.1) bc ⟨by simp only;omega,Nat.lt_succ_self _,rfl,rN,al.mod,au.symm,fun _ _=>rfl⟩ ?_;rintro⟨i,j,R⟩ GA aP ⟨qW,mI,zJ,uq,x6,qX,ur⟩;dsimp only at qW mI zJ uq x6 qX ur ⊢;clear rN au ax ajY;refine aa ?_;apply I_<;>intro g3;rotate_left
 .have Oc:j=l.length:=by omega
  rw[Oc,List.take_length] at qX;have p2:(l.filter fun x => !p x).length=i:=by rw[<-qX,List.length_take];omega
  refine aa ?_;refine _C i l.length c (by simp[eG,dp,bL]) (by simp[eG]) (by simp[eG]) ⟨by omega,ah,Nat.le_refl _⟩ (by simp) ?_;rw[if_neg (show ¬c=i by omega),Option.map_some];refine aa ?_;refine AE0 (k:=i) uq (by simp only[dp,bL];rfl) (by omega) (fun _=>by rw[add_eq,Nat.zero_add,Nat.mul_comm]) fun v aR jB nr=>?_;rw[qX] at nr;refine aa ?_;refine _C 0 i c (by simp[eG]) (by simp[eG,dp,bL]) (by simp[eG]) ⟨by omega,by omega,Nat.le_refl _⟩ (by simp) ?_;rw[if_neg (show ¬c=0 by omega),Option.map_some];refine aa ?_;exact⟨by rw[p2,add_eq];rfl,nr,x6.trans jB⟩
 have np:j<l.length:=by omega
 have mX:(Addr.add ⟨b,0,none⟩ (j*3))=⟨b,3*j,none⟩:=by
  rw[add_eq,Nat.zero_add,Nat.mul_comm]
 have j0:R[j]'(by omega)=l[j]:=by
  have:=ur j (by omega)
  rw[List.getElem?_eq_getElem (by omega),List.getElem?_eq_getElem (by omega)] at this;injection this
 obtain⟨x,ag⟩:∃x,x=l[j]:=⟨_,rfl⟩;have zD:x∈l:=by rw[ag];exact List.getElem_mem _
 have d1:e0 aP (Addr.add ⟨b,0,none⟩ (j*3)) x.1:=by
  rw[mX,ag,<-j0];exact uq.at_ _
 have vJ:=agC (q:=fun x => !p x) np;rw[<-qX,<-ag] at vJ;obtain⟨j1,jK,re,bS⟩:∃j1 jK re,x.1=[j1,jK,re]:=by
  have:=x.2.1
  match x.1,this with
  | [j1,jK,re],_=>exact⟨j1,jK,re,rfl⟩
 rw[bS] at d1;have aad:∀u∈(#[j1,jK,re]:Array B_).toList,u.oneCell'=true:=by have:=x.2.2;rw[bS] at this;exact this
 have next:∀{W},ik W b R->Mod (fun i=>i=b) w W->p x=true->(ik W b R/\Mod (fun i=>i=b) w W/\R.take i=(l.take (j+1)).filter (fun x => !p x)/\∀t,i<=t->R[t]? = l[t]?):=fun df a2 a3=>⟨df,a2,by rw[vJ,a3];simp,ur⟩
 have Fg:∀{W},ik W b (R.set i x)->Mod (fun i=>i=b) w W->p x=false->(ik W b (R.set i x)/\Mod (fun i=>i=b) w W/\(R.set i x).take (i+1)=(l.take (j+1)).filter (fun x => !p x)/\∀t,i+1<=t->(R.set i x)[t]? = l[t]?):=fun df a2 a3=>⟨df,a2,by
  rw[vJ,a3,List.take_succ_eq_append_getElem (by rw[List.length_set];omega),List.getElem_set_self,List.take_set_of_le (Nat.le_refl _)];simp,fun t aB=>by
  rw[List.getElem?_set_ne (by omega)];exact ur t (by omega)⟩
 clear vJ qX j0;replace next:=i_ @next trivial
 replace Fg:=i_ @Fg trivial;replace ar:=i_ ar trivial;refine aa ?_;intro aR ho h6 aA c9;have ak9:=uq.ext aA;have m4:=x6.trans aA.mod;have pT:=ar.1 x zD aR m4;rw[bS] at pT;have pT:a7 Tryz.prog F.e #[.agg #[j1,jK,re],.pointer (some ⟨mZ,0,none⟩),.pointer (some ⟨sG,0,none⟩)] aR fun v bK=>v = .bool (p x)/\Ext aR bK:=pT;clear d1 ar;refine aa ?_;refine U_ (first:=[]) (cap:=[.pointer (some ⟨mZ,0,none⟩),.pointer (some ⟨sG,0,none⟩)]) (by kernel_rfl) pT ?_;clear pT;rintro _ bq ⟨rfl,aJ⟩;have Eb:=aJ.obj c9;have Zb:=ak9.ext aJ;have m5:=m4.trans aJ.mod;clear c9;cases Yp:p x with
 | true =>
  have ay:=next.1 Zb m5 Yp
  clear next Fg
  refine aa ?_;exact⟨(i,j+1,R),⟨aU,aU,trivial⟩,⟨by simp only;omega,by simp only;omega,zJ,ay⟩,by simp only;omega⟩
 | false =>
  refine aa ?_;refine AD9 (x:=x) (i:=i) Zb (by rw[bS]) (by rw[add_eq,Nat.zero_add,Nat.mul_comm]) (by omega) fun bB gn ajw=>?_;have ay:=Fg.1 ajw (m5.trans (gn.mod rfl)) Yp;clear next Fg
  refine aa ?_;exact⟨(i+1,j+1,R.set i x),⟨aU,aU,trivial⟩,⟨by simp only;omega,by simp only;omega,by rw[List.length_set];exact zJ,ay⟩,by simp only;omega⟩
theorem si.ext{w w':A_}{v:B_}{l:C_ o.kZ}(he:Ext w w')(h:si w v l):si w' v l:=bh.ext (R:=yD) (fun _ _ _ _ he h=>yD.ext he h) he h
end Go.Proofs.R
end
section
namespace bb
open Go Go.RowKit
theorem V9{α β:Type}{R:α->β->Prop}{f:α->Bool}{g:β->Bool}:∀(l:C_ α) (r:C_ β),l.length=r.length->(∀i (h1:i<l.length) (I:i<r.length),R l[i] r[i]/\f l[i]=g r[i])->(l.filter f).length=(r.filter g).length/\∀i (h1:i<(l.filter f).length) (I:i<(r.filter g).length),R (l.filter f)[i] (r.filter g)[i]
 | [],[],_,_=>⟨rfl,fun i h=>by cases h⟩
 | x :: l,[],h,_=>by simp at h
 | [],y :: r,h,_=>by simp at h
 | x :: l,y :: r,h,bE=>by
  obtain⟨af,h1⟩:=bE 0 (by simp) (by simp);obtain⟨cC,cS⟩:=V9 l r (by simpa using h) fun i a b=>bE (i+1) (by simpa using a) (by simpa using b);simp only[List.getElem_cons_zero] at af h1;by_cases aK:g y=true
  .have ax:=h1.trans aK;simp only[List.filter_cons_of_pos ax,List.filter_cons_of_pos aK];refine⟨by simp[cC],fun i a b=>?_⟩;cases i with
   | zero=>exact af
   | succ i=>exact cS i (by simpa using a) (by simpa using b)
  .have ax:¬f x=true:=fun e=>aK (h1.symm.trans e);simp only[List.filter_cons_of_neg ax,List.filter_cons_of_neg aK];exact⟨cC,cS⟩
end bb
namespace Go.Proofs.R
open Go Go.RowKit bb
theorem adl(x:o.kZ)(uP lS:B_)(m:o.Model)(i:Int)(ho dP:Nat)(w:A_)(k7:sq w lS (o.refs m))(hlen:(o.refs m).length<2147483648)(ag:x.cmd = -1\/(0<=x.cmd/\x.cmd.toNat<(o.refs m).length))(fV:ee w uP x.to)
  (c9:w.heap[ho]? = some (.cells #[lS] T.c))(b4:w.heap[dP]? = some (.cells #[.int .i64 i] T.a)) :
  a7 Tryz.prog F.e #[.agg #[.int .i64 x.cmd,.int .i64 x.gJ,uP],.pointer (some ⟨ho,0,none⟩),.pointer (some ⟨dP,0,none⟩)] w fun u w'=>u = .bool (!o.r4 m i x)/\Ext w w':=by
 obtain⟨gR,iz,rfl,_⟩:=k7.form;obtain⟨e4,fL,rfl,_⟩:=fV.form;refine bn E.e ?_;rcases ag with ag | ⟨mG,gp⟩
 .have ar:o.r4 m i x=false:=by unfold o.r4;rw[decide_eq_false (by omega)];rfl
  rw[ar,ag];refine aa ?_;intro w1 b0 fW al bu;refine aa ?_;intro aH ao;refine aa ?_;exact⟨aU,al.trans ao⟩
 .obtain⟨k,hk⟩:∃k:Nat,x.cmd=k:=⟨x.cmd.toNat,by omega⟩;have p2:k<(o.refs m).length:=by omega
  obtain⟨kD,rfl⟩:=k7.addr;have ar:o.r4 m i x=decide ((o.refs m)[k].inst=i):=by
   unfold o.r4 o.zF;rw[decide_eq_true mG,Bool.true_and,hk,Int.toNat_natCast,List.getElem?_eq_getElem p2]
  rw[ar,hk];clear ar hk mG gp;refine aa ?_;intro w1 b0 fW al bu;replace c9:=al.obj c9;replace b4:=al.obj b4;replace k7:=k7.ext Flat.ext al;refine aa ?_;intro aH ao;exact⟨aU,al.trans ao⟩
theorem ae9(ad:H_ Addr)(c mZ sG:Nat)(w:A_)(h:bh 3 (Flat jR) w (.slice ad 0 c) ([]:C_ (e1 3))) :
  a7 Tryz.prog F.j #[.slice ad 0 c,.func (.func F.e) #[] #[.pointer (some ⟨mZ,0,none⟩),.pointer (some ⟨sG,0,none⟩)]] w fun v w'=>v = .slice ad 0 c/\Ext w w':=by
 refine u1 E.j ?_;refine nO ?_;refine aa ?_;refine J_ (Pj lj E.y3 _ ([]:C_ (e1 3)) w h F.e (by kernel_rfl) [] [_,_] (fun _=>true) ?_) ?_
 .rintro i U;cases U
 rintro _ w1 ⟨rfl,al⟩;rw[show lE (fun _=>true) ([]:C_ (e1 3)) 0 = -1 from rfl];refine aa ?_;exact⟨aU,al⟩
def tP(m:o.Model)(i:Int)(c:e1 3):Bool:=match c.1 with
 | .int _ n :: _ => !(decide (0<=n)&&decide (o.zF m n.toNat=i))
 | _=>false
theorem LI(cs:C_ B_)(v:B_)(m:o.Model)(s:C_ Int)(w:A_)(h:o.dV w cs m)(aK:m.cN)(aM:gB w)(an:ee w v s) :
  a7 Tryz.prog F.iR #[.agg cs.toArray,v] w fun u w'=>((o.hb m s/\∃i,o.sk m s i/\si w' u (o.kT m s i))\/(¬o.hb m s/\u = .slice none 0 0))/\Ext w w':=by
 have dw:=h;obtain⟨cd,bw,bO,c1,bV,c2,b2,br,cj,bF,rfl,_⟩:=h.form;obtain⟨os,Dw,rfl,_⟩:=an.form;refine bn E.iR ?_;refine aa ?_;intro w1 bR dt al av;refine aa ?_;refine J_ (agr _ _ m s w1 (dw.ext al) aK (aM.ext al) (an.ext Flat.ext al)) ?_;rintro u aH ⟨hO,ao⟩;replace av:=ao.obj av;have aI:=al.trans ao;rcases hO with ⟨bE,xU⟩ | ⟨bE,rfl⟩
 rotate_left
 .refine aa ?_;refine J_ (GH _ _ m s aH (dw.ext aI) aK (aM.ext aI) (an.ext Flat.ext aI)) ?_;rintro _ aP ⟨⟨i,rfl,lF⟩,aj⟩;obtain rfl:=lF.bad bE;refine aa ?_;intro wn dP fX fm eQ;refine aa ?_;intro aR du b4;have aA:=du.ext fm fX;clear eQ;refine aa ?_;exact⟨.inr ⟨bE,aU⟩,(aI.trans aj).trans aA⟩
 obtain⟨B9,sI,rfl,_⟩:=xU.form;have jU:=o.ir bE.1;have akg:=o.yh jU.lim;refine aa ?_;refine J_ (GH _ _ m s aH (dw.ext aI) aK (aM.ext aI) (an.ext Flat.ext aI)) ?_;rintro _ aP ⟨⟨i,rfl,lF⟩,aj⟩;replace av:=aj.obj av;have ba:=aI.trans aj;refine aa ?_;intro wn dP fX fm eQ;refine aa ?_;intro aR du b4;have aA:=du.ext fm fX;replace b4:aR.heap[dP]? = some (.cells #[.int .i64 i] T.a):=b4;clear eQ;replace av:=aA.obj av;have bG:=ba.trans aA;have Ol:=(xU.ext aj).ext aA;have ch:=i_ xU.lt trivial;have z24:aH.heap.size<=aR.heap.size:=Nat.le_trans aj.size aA.size;clear xU;refine aa ?_;refine I_ (fun U=>?_) (fun U=>?_)
 .refine aa ?_;exact⟨.inl ⟨bE,i,lF,by unfold o.kT;rw[if_pos U];exact Ol.jH⟩,bG⟩
 refine aa ?_;refine J_ (yi _ m aR (dw.ext bG) jU.lim) ?_;rintro lS bq ⟨n0,aJ⟩;have k7:=aW.iv (enc:=o.Ref.enc) (fun _=>rfl) n0;obtain⟨gR,iz,rfl,_⟩:=k7.form;replace b4:=aJ.obj b4;have bU:=bG.trans aJ;refine aa ?_;intro wn ho h6 fm eQ;refine aa ?_;intro bB gn c9;have aT:=gn.ext fm h6;replace c9:bB.heap[ho]? = some (.cells #[.slice gR (o.refs m).length iz] T.c):=c9;clear eQ;replace b4:=aT.obj b4;replace k7:=k7.ext Flat.ext aT;have c8:=bU.trans aT;have EK:=i_ (aW.ext aT n0) trivial;have IT:=(Ol.ext aJ).ext aT;obtain⟨cm,aF,dB,h9⟩:=IT.ex;clear Ol n0 av;refine aa ?_;have OL:∀t (h1:t<cm.length) (I:t<(o.hT m s).length),∃uP,cm[t].1=[.int .i64 (o.hT m s)[t].cmd,.int .i64 (o.hT m s)[t].gJ,uP]:=fun t h1 I=>by
  obtain⟨uP,ab,_⟩:=(h9 t h1 I).here;exact⟨uP,ab⟩
 have Iw:∀t (h1:t<cm.length) (I:t<(o.hT m s).length),(!tP m i cm[t])=o.r4 m i (o.hT m s)[t]:=fun t h1 I=>by
  obtain⟨uP,ab⟩:=OL t h1 I;unfold tP;rw[ab];simp only[Bool.not_not];rfl
 by_cases af:cm=[]
 .subst af;have IM:(o.hT m s).length=0:=by rw[<-aF];rfl
  have IW:o.hT m s=[]:=List.eq_nil_of_length_eq_zero IM;have vS:o.kT m s i=o.hT m s:=by unfold o.kT;rw[if_neg U,IW];rfl
  have kQ:bh 3 (Flat jR) bB (.slice B9 0 sI) ([]:C_ (e1 3)):=by have:=aW.jH jS dB;rw[IM] at this;exact this
  have pT:a7 Tryz.prog F.j #[.slice B9 (o.hT m s).length sI,.func (.func F.e) #[] #[.pointer (some ⟨ho,0,none⟩),.pointer (some ⟨dP,0,none⟩)]] bB fun v w'=>v = .slice B9 (o.hT m s).length sI/\Ext bB w':=by rw[IM];exact ae9 B9 sI ho dP bB kQ
  refine J_ pT ?_;rintro _ bQ ⟨rfl,bz⟩;have sV:si bQ (.slice B9 (o.hT m s).length sI) (o.kT m s i):=by rw[vS];exact(IT.ext bz).jH
  have dK:=c8.trans bz;clear pT kQ IT dB h9 OL Iw;refine aa ?_;exact⟨.inl ⟨bE,i,lF,sV⟩,dK⟩
 .obtain⟨b,c,aG,asp,mF,dR,ni⟩:=amd dB af;injection aG with ll gP akv
  subst ll akv;have dt:b<aR.heap.size:=Nat.lt_of_lt_of_le (ch.1 b rfl).2 z24;have n7:ho≠b:=fun e=>by
   obtain⟨cur,cV,_⟩:=mF.ex;rw[<-e,c9] at cV;injection cV with cV
   injection cV with _ cV
   exact absurd cV (by decide)
  have n6:dP≠b:=fun e=>by
   obtain⟨cur,cV,_⟩:=mF.ex;rw[<-e,b4] at cV;injection cV with cV
   injection cV with _ cV
   exact absurd cV (by decide)
  have Nb:∀t (h1:t<cm.length) (I:t<(o.hT m s).length) w',Mod (fun k=>k=b) bB w'->w3 w' cm[t].1 (o.hT m s)[t]:=fun t h1 I w' hm=>(gT.mono (h9 t h1 I) fun k _ hk=>.inl (by rw[hk];rfl)) w' hm;have ar:∀x∈cm,∀w',Mod (fun k=>k=b) bB w'->a7 Tryz.prog F.e #[.agg x.1.toArray,.pointer (some ⟨ho,0,none⟩),.pointer (some ⟨dP,0,none⟩)] w' fun v bK=>v = .bool (tP m i x)/\Ext w' bK:=fun x ag w' hm=>by
   obtain⟨t,h1,rfl⟩:=List.mem_iff_getElem.1 ag;have I:t<(o.hT m s).length:=by omega
   obtain⟨uP,ah,fV⟩:=Nb t h1 I w' hm;have ahO:sq w' (.slice gR (o.refs m).length iz) (o.refs m):=aW.iv (enc:=o.Ref.enc) (fun _=>rfl) (aW.mod EK.1 hm fun k hk e=>by have e':k=b:=e;have:=(aW.lt EK.1 k hk).1;omega);have a6:=Iw t h1 I;have il:tP m i cm[t] = !o.r4 m i (o.hT m s)[t]:=by rw[<-a6,Bool.not_not]
   rw[ah,il];exact adl _ uP _ m i ho dP w' ahO (by omega) (o.amk bE.1 (List.getElem_mem I)) fV (hm.obj n7 c9) (hm.obj n6 b4)
  have pT:a7 Tryz.prog F.j #[.slice (some ⟨b,0,none⟩) (o.hT m s).length sI,.func (.func F.e) #[] #[.pointer (some ⟨ho,0,none⟩),.pointer (some ⟨dP,0,none⟩)]] bB fun v w'=>v = .slice (some ⟨b,0,none⟩) (cm.filter fun x => !tP m i x).length sI/\ik w' b (cm.filter fun x => !tP m i x)/\Mod (fun k=>k=b) bB w':=by rw[<-aF];exact afa b sI ho dP cm (tP m i) bB mF dR ni ar
  refine J_ pT ?_;rintro _ bQ ⟨rfl,akj,h8⟩;obtain⟨f1,f2⟩:=V9 (R:=fun(c:e1 3) x=>w3 bQ c.1 x) (f:=fun x => !tP m i x) (g:=o.r4 m i) cm (o.hT m s) aF fun t h1 I=>⟨Nb t h1 I bQ h8,Iw t h1 I⟩;have vS:o.kT m s i=(o.hT m s).filter (o.r4 m i):=by unfold o.kT;rw[if_neg U]
  have lI:(cm.filter fun x => !tP m i x).length<=sI:=Nat.le_trans (List.length_filter_le _ _) dR;have sV:si bQ (.slice (some ⟨b,0,none⟩) (cm.filter fun x => !tP m i x).length sI) (o.kT m s i):=by rw[vS];exact bh.Fj f1 (akj.jH lI ni) f2
  have dK:Ext w bQ:=h8.ext c8 fun k hk e=>by have:=(ch.1 b rfl).1;have:=al.size;omega
  clear pT ar Nb IT dB h9 OL Iw;refine aa ?_;exact⟨.inl ⟨bE,i,lF,sV⟩,dK⟩
def acK(w:A_):Prop := ∀w',Ext w w'->a7 Tryz.prog F.Fc #[] w' fun u bK=>u = .bool true/\Ext w' bK
end Go.Proofs.R
end
section
namespace o
open Go
def HF:C_ Node:=[⟨1,1⟩]
def vr:Act:=⟨3,0,0,[],HF⟩
def rD:dI:=⟨⟨#[117,112]⟩,0,1,[],[vr],false⟩
def vq:Var:=⟨⟨#[97]⟩,0,0,0,1,0⟩
def Bg:dz:=⟨⟨#[80]⟩,0,2,[vq],[rD]⟩
def Bh:dz:=⟨⟨#[81]⟩,0,2,[vq],[rD]⟩
def en:Model:=⟨[],[],[],[Bg,Bh],[]⟩
theorem xv:(check en).cA=0:=by decide +kernel
theorem DG:insts en=[⟨0,0⟩,⟨1,0⟩]:=by decide +kernel
theorem tT:refs en=[⟨0,0⟩,⟨1,0⟩]:=by decide +kernel
theorem Bf:eM en 0 0 0 0:=⟨xv,by decide,by rw[tT];decide,by
 have e:∀h,(refs en)[(0:Int).toNat]'h=⟨0,0⟩:=fun h=>by simp[tT]
 rw[e];exact⟨by rw[DG];decide,rfl,by simp[DG],by decide,rfl,by decide⟩⟩
theorem HE:eM en 1 1 1 0:=⟨xv,by decide,by rw[tT];decide,by
 have e:∀h,(refs en)[(1:Int).toNat]'h=⟨1,0⟩:=fun h=>by simp[tT]
 rw[e];exact⟨by rw[DG];decide,rfl,by simp[DG],by decide,rfl,by decide⟩⟩
theorem af2:q4 en 0 (bI en 0 0) (bI en 0 0).bY.length=[0]:=by decide +kernel
theorem af6:nB en 0 (bI en 0 0) (bI en 0 0).bY.length=[0,1]:=by decide +kernel
theorem af3:q4 en 1 (bI en 1 0) (bI en 1 0).bY.length=[2]:=by decide +kernel
theorem af7:nB en 1 (bI en 1 0) (bI en 1 0).bY.length=[2,3]:=by decide +kernel
theorem af4:qe en=[]:=by decide +kernel
theorem af5{L:C_ (C_ Int×C_ Int)}(h:mV en (refs en).length L):L=[([0],[0,1]),([2],[2,3])]:=by
 have aF:=h.len;rw[tT] at aF
 match L,aF with
 | [x,y],_ =>
  obtain⟨h1,I⟩:=(h.is 0 (by simp)).there _ _ _ Bf;obtain⟨ab,aD⟩:=(h.is 1 (by simp)).there _ _ _ HE;rw[af2] at h1;rw[af6] at I;rw[af3] at ab;rw[af7] at aD;have bt:=Ch _ [0] h1.mO (by decide) h1.mem;have aI:=Ch _ [0,1] I.mO (by decide) I.mem;have ba:=Ch _ [2] ab.mO (by decide) ab.mem;have bG:=Ch _ [2,3] aD.mO (by decide) aD.mem;simp only[List.getElem_cons_zero,List.getElem_cons_succ] at bt aI ba bG;obtain⟨j0,kX⟩:=x;obtain⟨j1,jK⟩:=y;simp only at bt aI ba bG;subst bt aI ba bG;rfl
theorem MJ:fI en 0 0:=Bf.inst
theorem afV:fI en 1 1:=HE.inst
theorem afX{q:Nat}(au:q<2){t:Bool}{L:C_ (C_ Int×C_ Int)}(k8:mV en (refs en).length L)(h:ot en q 0 t):t=true:=by
 have dh:oT en q 0:=by
  match q,au with
  | 0,_=>exact EZ xv MJ (by decide) (by decide)
  | 1,_=>exact EZ xv afV (by decide) (by decide)
 have cI:=af5 k8;refine(h.there dh L k8).2 ?_;intro i U j aE cw x y ag bS;subst cI;have l7:j<2:=by rw[tT] at aE;exact aE
 obtain⟨eX,p,k,bC,bt,_⟩:=U;have p0:i<2:=by have:=bC.told.2.2;rw[tT] at this;simp at this;omega
 have gD:=bC.at_.pw;simp only[tT] at cw gD
 match i,p0,j,l7 with
 | 0,_,0,_=>simp at cw gD;omega
 | 1,_,1,_=>simp at cw gD;omega
 | 0,_,1,_ =>
  simp only[List.getElem?_cons_zero,List.getElem?_cons_succ,Option.some.injEq] at ag bS;subst ag bS;decide
 | 1,_,0,_ =>
  simp only[List.getElem?_cons_zero,List.getElem?_cons_succ,Option.some.injEq] at ag bS;subst ag bS;decide
theorem aga:vr.cN:=by
 exact⟨oJ (by simp[vr]),oJ (by simp[vr]),oJ (by simp[vr]),by simp[vr,ei],by simp[vr,HF,ei]⟩
theorem af8:rD.cN:=by
 refine⟨oJ (by simp[rD]),oJ (by simp[rD]),by simp[rD,ei],by simp[rD,ei],?_⟩;intro b ak;simp[rD] at ak;subst ak;exact aga
theorem afU:en.cN:=by
 refine⟨by simp[en,ei],by simp[en,ei],by simp[en,ei],by simp[en,ei],by simp[en,ei],by simp[en],by simp[en],by simp[en],?_,by simp[en]⟩;have aG:∀a∈[vq],a.cN:=by
  intro a aV;simp at aV;subst aV;exact⟨oJ (by simp[vq]),oJ (by simp[vq]),oJ (by simp[vq]),oJ (by simp[vq]),oJ (by simp[vq])⟩
 have ah:∀c∈[rD],c.cN:=by
  intro c ah;simp at ah;subst ah;exact af8
 intro a aV;simp[en] at aV;rcases aV with rfl | rfl
 .exact⟨oJ (by simp[Bg]),oJ (by simp[Bg]),by simp[Bg,ei],by simp[Bg,ei],aG,ah⟩
 .exact⟨oJ (by simp[Bh]),oJ (by simp[Bh]),by simp[Bh,ei],by simp[Bh,ei],aG,ah⟩
theorem afY:(hT en [1,1,1,1]).length=1:=by decide +kernel
theorem afW:(bX en).map (fun c=>(c.aO,c.U))=[(0,1),(0,1),(0,1),(0,1)]:=by decide +kernel
theorem VY{x:Int}(af:0<=x)(h1:x<=1):Fits en [x,x,x,x]:=by
 refine⟨by have:dW en=4:=(by decide +kernel);rw[this];rfl,fun i h=>absurd h (Nat.not_lt_zero _),fun i h bd=>?_⟩;have e:=congrArg (fun l=>l[i]?) afW;simp only[List.getElem?_map,List.getElem?_eq_getElem bd,Option.map_some] at e
 match i,h,bd,e with
 | 0,_,_,e=>simp at e;simp[e.1,e.2];omega
 | 1,_,_,e=>simp at e;simp[e.1,e.2];omega
 | 2,_,_,e=>simp at e;simp[e.1,e.2];omega
 | 3,_,_,e=>simp at e;simp[e.1,e.2];omega
 | n+4,h,_,_=>simp at h;omega
theorem V1:hb en [0,0,0,0]:=⟨xv,VY (by decide) (by decide)⟩
theorem V2:hb en [1,1,1,1]:=⟨xv,VY (by decide) (by decide)⟩
theorem afT:qk en [0,0,0,0] 0:=by
 have aF:mL en [0,0,0,0] 0=0:=by decide +kernel
 refine⟨?_,fun r aL=>?_,0,?_,?_⟩
 .rw[aF];unfold E0;refine(@decide_eq_true_iff _ (Classical.propDecidable _)).2 ⟨EZ xv MJ (by decide) (by decide),fun L k8=>?_⟩;have dh:oT en ((0:Nat):Int) 0:=EZ xv MJ (by decide) (by decide)
  have:=afX (q:=0) (by decide) k8 (ot.of (t := @decide (Az en L ((0:Nat):Int) 0) (Classical.propDecidable _)) dh k8 (@decide_eq_true_iff _ (Classical.propDecidable _)))
  exact @of_decide_eq_true _ (Classical.propDecidable _) this
 .obtain⟨q,p,k,bC,_⟩:=aL;have I:=bC.told.2.2;rw[tT] at I;unfold uM;refine(@decide_eq_false_iff_not _ (Classical.propDecidable _)).2 ?_;rintro⟨eX,gz,k',a,b,xA,bE,hk | ⟨x,_,hk⟩⟩
  .have:r=0\/r=1:=by simp at I;omega
   rcases this with rfl | rfl
   .obtain⟨rfl,rfl,rfl⟩:=xA.one Bf
    revert hk
    decide
   .obtain⟨rfl,rfl,rfl⟩:=xA.one HE
    revert hk
    decide
  .rw[af4] at hk;cases hk
 .rw[aF];exact⟨0,0,0,Bf,rfl,rfl⟩
 .exact⟨0,0,0,Bf,by decide +kernel⟩
theorem V0{i:Int}(h:sk en [0,0,0,0] i):i=0:=by
 have k:sk en [0,0,0,0] 0:=⟨fun ay=>absurd V1 ay,fun _ h=>absurd h (by decide),fun _ _=>⟨by rw[DG];decide,afT,fun j aE=>absurd aE (Nat.not_lt_zero _)⟩⟩;exact h.eq k
theorem VZ:(kT en [0,0,0,0] 0).map (·.cmd)=[0]:=by decide +kernel
theorem af0:hp en [1,1,1,1] 0 (bI en 0 0)=none:=by decide +kernel
theorem af1:hp en [1,1,1,1] 1 (bI en 1 0)=none:=by decide +kernel
theorem afZ{i:Int}(h:sk en [1,1,1,1] i):(kT en [1,1,1,1] i).length=1:=by
 by_cases U:i<0
 .unfold kT;rw[if_pos U];exact afY
 .obtain⟨_,dK,_⟩:=h.some V2 (by omega);obtain⟨r,_,q,p,k,bC,ay⟩:=dK.on;have I:=bC.told.2.2;rw[tT] at I
  have:r=0\/r=1:=by simp at I;omega
  rcases this with rfl | rfl
  .obtain⟨rfl,rfl,rfl⟩:=bC.one Bf;exact absurd af0 ay
  .obtain⟨rfl,rfl,rfl⟩:=bC.one HE;exact absurd af1 ay
end o
end
section
namespace Go.Proofs.R
open Go Go.RowKit bb
theorem alQ(w:A_)(aM:gB w):a7 Tryz.prog F.Fc #[] w fun v w'=>v = .bool true/\Ext w w':=by
 refine bn E.Fc ?_;refine aa ?_;intro w1 ho h6 al ai;refine aa ?_;intro aH j7 l4 ao av;refine aa ?_;intro aP o2 Bw aj bu;refine aa ?_;intro aR tK D2 aA bH;refine aa ?_;intro bq bR dt aJ cc;replace cc:bq.heap[bR]? = some (.cells #[.string ⟨#[80]⟩,.int .i64 0,.int .i64 2,.slice (some ⟨o2,0,none⟩) 1 1,.slice (some ⟨tK,0,none⟩) 1 1] T.l):=cc;refine aa ?_;intro bB b0 fW aT b4;replace b4:bB.heap[b0]? = some (.cells #[.string ⟨#[80]⟩,.int .i64 0,.int .i64 2,.slice (some ⟨o2,0,none⟩) 1 1,.slice (some ⟨tK,0,none⟩) 1 1] T.l):=b4;have aii:=aT.obj cc;refine aa ?_;intro bQ dT c9;replace c9:bQ.heap[b0]? = some (.cells #[.string ⟨#[81]⟩,.int .i64 0,.int .i64 2,.slice (some ⟨o2,0,none⟩) 1 1,.slice (some ⟨tK,0,none⟩) 1 1] T.l):=c9;have bz:Ext bq bQ:=dT.ext aT fW;have aij:=bz.obj cc;clear b4 aii;refine aa ?_;intro de UM asf bP c4;refine aa ?_;intro dc cF fy ck dX;replace dX:dc.heap[cF]? = some (.cells #[.slice none 0 0,.slice none 0 0,.slice none 0 0,.slice (some ⟨UM,0,none⟩) 2 2,.slice none 0 0] T.g):=dX;have CN:=(bz.trans bP).trans ck;have gS:=(((al.trans ao).trans aj).trans aA).trans (aJ.trans CN);have wa:=(((ao.trans aj).trans aA).trans (aJ.trans CN)).obj ai;have ET:=((aj.trans aA).trans (aJ.trans CN)).obj av;have ES:=(aA.trans (aJ.trans CN)).obj bu;have Zd:=(aJ.trans CN).obj bH;have Ze:=ck.obj c4;have Pp:o.hP dc (.slice (some ⟨o2,0,none⟩) 1 1) [o.vq]:=o.hP.cu ES rfl (by decide) (by intro x ag;simp only[List.mem_singleton] at ag;subst ag;decide);have Zh:o.eV dc (.slice (some ⟨ho,0,none⟩) 1 1) o.HF:=bh.cu (enc:=o.Node.enc) (fun _=>rfl) wa rfl (by decide) fun a x ag ah=>⟨ah,o.af9 x (by simp[o.HF] at ag;subst ag;simp)⟩;have Zg:o.mQ dc (.slice (some ⟨j7,0,none⟩) 1 1) [o.vr]:=bh.LY [⟨o.vr.enc (.slice none 0 0) (.slice (some ⟨ho,0,none⟩) 1 1),rfl,by simp[o.Act.enc,Value.oneCell']⟩] ET rfl rfl rfl (by decide) (by
  intro i h1 I
  have:i=0:=by simp at h1;omega
  subst this;exact⟨_,_,rfl,bh.nil,Zh⟩)
 have Po:o.rk dc (.slice (some ⟨tK,0,none⟩) 1 1) [o.rD]:=bh.LY [⟨o.rD.enc (.slice none 0 0) (.slice (some ⟨j7,0,none⟩) 1 1),rfl,by simp[o.dI.enc,Value.oneCell']⟩] Zd rfl rfl rfl (by decide) (by
  intro i h1 I
  have:i=0:=by simp at h1;omega
  subst this;exact⟨(show o.jo o.rD.name by decide),_,_,rfl,bh.nil,Zg⟩)
 have Zi:o.qp dc (.slice (some ⟨UM,0,none⟩) 2 2) o.en.procs:=bh.LY [⟨o.Bg.enc (.slice (some ⟨o2,0,none⟩) 1 1) (.slice (some ⟨tK,0,none⟩) 1 1),rfl,by simp[o.dz.enc,Value.oneCell']⟩,⟨o.Bh.enc (.slice (some ⟨o2,0,none⟩) 1 1) (.slice (some ⟨tK,0,none⟩) 1 1),rfl,by simp[o.dz.enc,Value.oneCell']⟩] Ze rfl rfl rfl (by decide) (by
  intro i h1 I
  match i,h1 with
  | 0,_=>exact⟨(show o.jo ⟨#[80]⟩ by decide),_,_,rfl,Pp,Po⟩
  | 1,_=>exact⟨(show o.jo ⟨#[81]⟩ by decide),_,_,rfl,Pp,Po⟩
  | n+2,h1=>simp at h1;omega)
 have a1:o.dV dc _ o.en:=⟨_,_,_,_,_,rfl,bh.nil,bh.nil,bh.nil,Zi,bh.nil⟩;have aK:=o.afU;clear wa ET ES Zd Ze Pp Zh Zg Po Zi ai av bu bH cc c9 aij c4;refine aa ?_;intro eY LW ash cG ko;replace ko:eY.heap[LW]? = some (.cells #[.int .i64 0,.int .i64 0,.int .i64 0,.int .i64 0] T.a):=ko;replace dX:=cG.obj dX;have rl:=gS.trans cG;have an:ee eY (.slice (some ⟨LW,0,none⟩) 4 4) [0,0,0,0]:=bh.cu (enc:=cR) (fun _=>rfl) ko rfl (by decide) fun a x ag ah=>ah;refine aa ?_;refine J_ (LI _ _ o.en [0,0,0,0] eY (a1.ext cG) aK (aM.ext rl) an) ?_;rintro u gw ⟨hO,e8⟩;rcases hO with ⟨_,i,lF,xU⟩ | ⟨bE,_⟩
 rotate_left
 .exact absurd o.V1 bE
 obtain rfl:=o.V0 lF;have iq:(o.kT o.en [0,0,0,0] 0).length=1:=by have:=congrArg List.length o.VZ;simpa using this
 obtain⟨B9,sI,rfl,_⟩:=xU.form;replace dX:=e8.obj dX;have se:=rl.trans e8;have Na:=(a1.ext cG).ext e8;clear ko a1;refine aa ?_;intro jr UN asi fz iC;replace iC:jr.heap[UN]? = some (.cells #[.int .i64 0,.int .i64 0,.int .i64 0,.int .i64 0] T.a):=iC;replace dX:=fz.obj dX;have pE:=se.trans fz;have eE:ee jr (.slice (some ⟨UN,0,none⟩) 4 4) [0,0,0,0]:=bh.cu (enc:=cR) (fun _=>rfl) iC rfl (by decide) fun a x ag ah=>ah;refine aa ?_;refine J_ (GH _ _ o.en [0,0,0,0] jr (Na.ext fz) aK (aM.ext pE) eE) ?_;rintro _ nA ⟨⟨i,rfl,ahH⟩,iD⟩;obtain rfl:=o.V0 ahH;replace dX:=iD.obj dX;have wT:=pE.trans iD;have WU:=(Na.ext fz).ext iD;have Oj:=si.ext iD (si.ext fz xU);obtain⟨am,rfl⟩:=Oj.addr;obtain⟨uP,ag,_⟩:=Oj.at 0 (by omega);have YD:(o.kT o.en [0,0,0,0] 0)[0].cmd=0:=by
  have:=congrArg (fun l=>l[0]?) o.VZ
  simp only[List.getElem?_map,List.getElem?_eq_getElem (show 0<(o.kT o.en [0,0,0,0] 0).length by omega),Option.map_some,List.getElem?_cons_zero] at this;injection this
 clear xU Oj iC eE Na;refine aa ?_;refine K_ 0 rfl (by omega) ?_;refine aa ?_;intro wM UO asl nj pf;replace pf:wM.heap[UO]? = some (.cells #[.int .i64 1,.int .i64 1,.int .i64 1,.int .i64 1] T.a):=pf;have yA:=wT.trans nj;have gE:ee wM (.slice (some ⟨UO,0,none⟩) 4 4) [1,1,1,1]:=bh.cu (enc:=cR) (fun _=>rfl) pf rfl (by decide) fun a x ag ah=>ah;refine aa ?_;refine J_ (LI _ _ o.en [1,1,1,1] wM (WU.ext nj) aK (aM.ext yA) gE) ?_;rintro u Rm ⟨hO,pV⟩;rcases hO with ⟨_,i,ahI,Yf⟩ | ⟨bE,_⟩
 rotate_left
 .exact absurd o.V2 bE
 have aju:=o.afZ ahI;obtain⟨atM,arS,rfl,_⟩:=Yf.form;clear gE pf WU Yf;refine aa ?_;exact⟨by first | trivial | rfl | (rw[aju];rfl),yA.trans pV⟩
end Go.Proofs.R
end
section
namespace o
open Go
def Kp(m:Model)(i:Int)(x:kZ):Bool:=decide (i<0)||r4 m i x
theorem anA(m:Model)(s:C_ Int)(i:Int):kT m s i=(hT m s).filter (Kp m i):=by
 unfold kT Kp;split
 .rename_i h;exact(List.filter_eq_self.2 fun x _=>by simp[h]).symm
 .rename_i h;simp[h]
theorem anB{m:Model}{i:Int}{x:kZ}(U:0<=i)(h:Kp m i x=true):0<=x.cmd/\∃aL:x.cmd.toNat<(refs m).length,(refs m)[x.cmd.toNat].inst=i:=by
 unfold Kp r4 at h;rw[Bool.or_eq_true,decide_eq_true_eq,Bool.and_eq_true,decide_eq_true_eq,decide_eq_true_eq] at h;rcases h with h | ⟨h1,I⟩
 .omega
 .refine⟨h1,?_⟩;unfold zF at I;split at I
  .rename_i y bS;obtain⟨aL,rfl⟩:=List.getElem?_eq_some_iff.1 bS;exact⟨aL,I⟩
  .omega
end o
end
section
namespace Go.Proofs.R
open Go Go.RowKit bb
theorem alP{w:A_}(aM:gB w):acK w:=fun w' e=>alQ w' (aM.ext e)
theorem anD{m:o.Model}{s:C_ Int}{w:A_}{u:B_}(h:(o.hb m s/\∃i,o.sk m s i/\si w u (o.kT m s i))\/(¬o.hb m s/\u = .slice none 0 0)){i:Int}(U:o.sk m s i){l:C_ o.kZ}
  (h1:o.hb m s->l=o.kT m s i)(I:¬o.hb m s->l=[]):si w u l:=by
 rcases h with ⟨bE,j,aE,hm⟩ | ⟨bE,rfl⟩
 .rw[h1 bE,<-aE.eq U];exact hm
 .rw[I bE];exact bh.nil
theorem aof(cs ys:C_ B_)(m:o.Model)(v:B_)(s:C_ Int)(w:A_)(h:o.dV w cs m)(aK:m.cN)(cI:o.jN w ys (o.layout m))(bE:o.hb m s)(an:ee w v s) :
  a7 Tryz.prog F.Kc #[.agg cs.toArray,.agg ys.toArray,v] w fun u w'=>u = .int .u64 (o.told m s:Nat)/\Ext w w':=by
 have dw:=h;have zg:=cI;obtain⟨cd,bw,bO,c1,bV,c2,b2,br,cj,bF,rfl,af,h1,I,ab,aD,eU,ek,ev,ef,ew⟩:=h.form;obtain⟨ff,d0,dZ,d1,eK,d2,e5,d3,fu,d4,rfl,_⟩:=cI.form;have jU:=o.ir bE.1;have sU:=o.aat bE.1;have di:=o.afJ jU bE.2;refine bn E.Kc ?_;refine aa ?_;intro w1 b0 fW al bu;refine aa ?_;intro aH cF fy ao bH;replace bu:=ao.obj bu;have aI:=al.trans ao;refine aa ?_;refine J_ (aoY _ _ v m s (-1) aH (dw.ext aI) aK jU (zg.ext aI) (an.ext Flat.ext aI) bE.2 (by omega) (by omega)) ?_;rintro _ aP ⟨⟨es,rfl,dK⟩,aj⟩;have WJ:=dK.here;have ahu:=VU WJ di;obtain⟨ab0,Rc,yu,Re,rfl,gF,cC,cS,eT⟩:=WJ.ex;obtain⟨_,_,rfl,_⟩:=gF.form;obtain⟨_,_,rfl,_⟩:=cC.form;obtain⟨_,_,rfl,_⟩:=cS.form;obtain⟨_,_,rfl,_⟩:=eT.form;clear gF cC cS eT;have ba:=aI.trans aj;replace bu:=aj.obj bu;refine aa ?_;intro aR ho h6 aA c9;have bG:=ba.trans aA;replace bu:=aA.obj bu;have qI:=ahu.ext aA;refine aa ?_;refine L_ 9 m.props.length [3,7] (fun u:Nat=>[(8,.int .u64 (u:Nat))]) 0 (fun k u W=>u=o.ra m s k/\Ext aR W) bc bc ⟨rfl,Ext.refl _⟩ ?_;rintro k u S bq hk ⟨rfl,aJ⟩;have ast:=aJ.obj bu;have Eb:=aJ.obj c9;have bU:=bG.trans aJ;refine aa ?_;apply I_<;>intro g2
 .have cH:k<m.props.length:=by omega
  obtain⟨a4,rfl⟩:=aD.addr;obtain⟨lM,gI,dD,hh⟩:=aD.at k cH;obtain⟨Km,ce,rfl,_⟩:=hh.form;unfold o.k0.enc at dD;have Ym:=dD.ext bU;refine aa ?_;refine P_ (.tuple #[.int .i64 (o.eval m.props[k].expr (o.cr m s (-1))).1,.int .i64 (o.eval m.props[k].expr (o.cr m s (-1))).2]) (fun w' hR=>aox _ m.props[k].expr _ (o.cr m s (-1)) w' (hh.ext (bU.trans hR)) (qI.ext (aJ.trans hR))) ?_;refine aa ?_;intro bQ bz;refine aa ?_;apply I_<;>intro g3
  .refine aa ?_;apply I_<;>intro g4
   .refine aa ?_;refine⟨cH,aU,_,⟨rfl,trivial⟩,(o.abO cH (fun cU=>cU.2 g4)).symm,aJ.trans bz⟩
   .refine aa ?_;refine AD0 k rfl (by omega) ?_;refine aa ?_;refine AD1 (by omega) ?_;refine aa ?_;refine AD2 (by have:=o.aqi (m:=m) (s:=s) (k:=k) (by omega);omega) (by have:=o.anL (k:=k) (by omega);omega) ?_;refine aa ?_;refine⟨cH,aU,_,⟨rfl,trivial⟩,(o.aqj cH ⟨g3,g4⟩).symm,aJ.trans bz⟩
  .refine aa ?_;refine⟨cH,aU,_,⟨rfl,trivial⟩,(o.abO cH (fun cU=>g3 cU.1)).symm,aJ.trans bz⟩
 .have kq:k=m.props.length:=by omega
  refine aa ?_;exact⟨by rw[kq,o.aqg],bU⟩
theorem aaM(cs:C_ B_)(m:o.Model)(v:B_)(s:C_ Int)(w:A_)(h:o.dV w cs m)(aK:m.cN)(an:ee w v s) :
  a7 Tryz.prog F.Kb #[.agg cs.toArray,v] w fun u w'=>u = .tuple #[.int .u64 ((o.qa m s).1:Nat),.int .i64 (o.qa m s).2]/\Ext w w':=by
 have dw:=h;obtain⟨cd,bw,bO,c1,bV,c2,b2,br,cj,bF,rfl,_⟩:=h.form;refine bn E.Kb ?_;refine aa ?_;intro w1 bR dt al av;refine aa ?_;refine J_ (ZR _ m w1 (dw.ext al) aK) ?_;rintro _ aH ⟨rfl,ao⟩;replace av:=ao.obj av;have aI:=al.trans ao;refine aa ?_;apply I_<;>intro g1;rotate_left
 .refine aa ?_;exact⟨by rw[o.alq g1]<;>rfl,aI⟩
 refine aa ?_;refine J_ (Qv _ m aH (dw.ext aI) aK) ?_;rintro _ aP ⟨⟨ys,rfl,cI⟩,aj⟩;have ba:=aI.trans aj;replace av:=aj.obj av;have jU:=o.ir g1;have zx:o.lay m=o.layout m:=by unfold o.lay;rw[if_pos g1]
 rw[zx] at cI;have WR:=cI.here;obtain⟨ff,d0,dZ,d1,eK,d2,e5,d3,fu,d4,rfl,_⟩:=WR.form;refine aa ?_;intro aR dP fX aA b4;have bG:=ba.trans aA;replace av:=aA.obj av;have xD:=WR.ext aA;refine aa ?_;refine J_ (aaL _ _ m v s aR (dw.ext bG) xD jU (an.ext Flat.ext bG)) ?_;rintro _ bq ⟨⟨t,rfl,aB⟩,aJ⟩;have bU:=bG.trans aJ;replace av:=aJ.obj av;replace b4:=aJ.obj b4;cases t with
 | false =>
  have ajB:¬o.Fits m s:=fun ax=>by have:=aB.2 ax;cases this
  refine aa ?_;exact⟨by rw[o.alr g1 ajB]<;>rfl,bU⟩
 | true =>
  have ax:=aB.1 rfl;refine aa ?_;refine J_ (aof _ _ m v s bq (dw.ext bU) aK (xD.ext aJ) ⟨g1,ax⟩ (an.ext Flat.ext bU)) ?_;rintro _ bB ⟨rfl,aT⟩;refine aa ?_;exact⟨by rw[o.Pu g1 ax]<;>rfl,bU.trans aT⟩
theorem alx(cs:C_ B_)(v:B_)(m:o.Model)(s:C_ Int)(w:A_)(h:o.dV w cs m)(aK:m.cN)(aM:gB w)(an:ee w v s) :
  a7 Tryz.prog F.Fb #[.agg cs.toArray,v] w fun u w'=>u = .bool true/\Ext w w':=by
 have dw:=h;obtain⟨cd,bw,bO,c1,bV,c2,b2,br,cj,bF,rfl,_⟩:=h.form;obtain⟨os,Dw,rfl,_⟩:=an.form;have cI:=i_ (alP aM) trivial;refine bn E.Fb ?_;refine aa ?_;intro w1 bR dt al av;refine aa ?_;refine J_ (GH _ _ m s w1 (dw.ext al) aK (aM.ext al) (an.ext Flat.ext al)) ?_;rintro _ aH ⟨⟨i,rfl,lF⟩,ao⟩;replace av:=ao.obj av;have aI:=al.trans ao;refine aa ?_;apply I_<;>intro g1
 .refine aa ?_;refine J_ (cI.1 aH aI) ?_;rintro _ aP ⟨rfl,aj⟩;refine aa ?_;exact⟨aU,aI.trans aj⟩
 have bE:o.hb m s:=Classical.byContradiction fun ay=>by have:=lF.bad ay;omega
 have jU:=o.ir bE.1;obtain⟨q,rfl⟩:=Int.eq_ofNat_of_zero_le (show 0<=i by omega);obtain⟨au,dK,_⟩:=lF.some bE (by omega);rw[Int.toNat_natCast] at au dK;have gU:=o.zG jU;have zx:o.lay m=o.layout m:=o.x7 bE.1;obtain⟨f6,f7,f8⟩:=o.s6 m;have hlen:=bE.2.len;obtain⟨p,hIn⟩:=o.BY au;have M9:=hIn.room;refine aa ?_;refine J_ (Qv _ m aH (dw.ext aI) aK) ?_;rintro _ aP ⟨⟨ys,rfl,xD⟩,aj⟩;rw[zx] at xD;obtain⟨ff,d0,dZ,d1,eK,d2,e5,d3,fu,d4,rfl,_,_,dG,_⟩:=xD.here.form;replace av:=aj.obj av;have ba:=aI.trans aj;refine aa ?_;refine _A (v:=.slice eK (o.layout m).insts.length d2) rfl ?_;refine aa ?_;refine J_ (Qs _ m aP (dw.ext ba) aK) ?_;rintro _ aR ⟨rfl,aA⟩;replace av:=aA.obj av;have bG:=ba.trans aA;have hk:=bE.1;unfold xw;refine aa ?_;refine _A (v:=.int .i64 (o.check m).cA) rfl ?_;refine aa ?_;refine J_ (aoe _ m _ s aR (dw.ext bG) aK (an.ext Flat.ext bG)) ?_;rintro _ bq ⟨⟨t,rfl,aB⟩,aJ⟩;obtain rfl:t=true:=aB.2 bE;replace av:=aJ.obj av;have bU:=bG.trans aJ;obtain⟨IH,sW⟩:=o.rV au;have asT:q<(o.layout m).insts.length:=by omega
 refine aa ?_;refine J_ (aaM _ m _ s bq (dw.ext bU) aK (an.ext Flat.ext bU)) ?_;rintro _ bB ⟨rfl,aT⟩;replace av:=aT.obj av;have c8:=bU.trans aT;refine aa ?_;refine J_ (LI _ _ m s bB (dw.ext c8) aK (aM.ext c8) (an.ext Flat.ext c8)) ?_;rintro u bQ ⟨hO,bz⟩;have ar:=anD hO lF (l:=o.kT m s q) (fun _=>rfl) (fun ay=>absurd bE ay);clear hO;obtain⟨op,Dv,rfl,arN⟩:=ar.form;have gp:∀{W},Ext bQ W->W.heap[bR]? = _:=fun e=>e.obj (bz.obj av);have dQ:=c8.trans bz;have aaJ:=dG.ext Flat.ext (((aA.trans aJ).trans aT).trans bz);clear av dG;refine aa ?_;refine L_ 48 (o.kT m s q).length [1,2,5,6,7,8,46,47] (fun _:Unit=>[]) () (fun _ _ W=>Ext bQ W) bc bc (Ext.refl _) ?_;rintro j _ S de aE bP;have av:=gp bP;have gm:=dQ.trans bP;have Yl:=si.ext bP ar;refine aa ?_;apply I_<;>intro g2;rotate_left
 .refine aa ?_;refine J_ (cI.1 de gm) ?_;rintro _ dc ⟨rfl,ck⟩;refine aa ?_;exact⟨aU,gm.trans ck⟩
 have et:j<(o.kT m s q).length:=by omega
 obtain⟨ap,rfl⟩:=ar.addr;obtain⟨aua,VB,th⟩:=Yl.at j et;obtain⟨x,ag⟩:∃x,x=(o.kT m s q)[j]:=⟨_,rfl⟩;rw[<-ag] at VB th;obtain⟨P2,cX,rfl,_⟩:=th.form;have zD:x∈o.kT m s q:=by rw[ag];exact List.getElem_mem et
 rw[o.anA] at zD;obtain⟨akF,akG⟩:=List.mem_filter.1 zD;obtain⟨t1,t2,t3⟩:=o.anB (by omega) akG;obtain⟨Rc,yu,Re,Rf⟩:=o.anC bE dK akF (r:=x.cmd.toNat) (by omega) t2 t3;have s5:=Rf.2.len;refine aa ?_;intro dc tJ Bv ck ko;have gS:=bP.trans ck;have jQ:=dQ.trans gS;have Kl:=th.ext Flat.ext ck;replace av:=gp gS;clear VB th Yl;refine aa ?_;refine J_ (aaM _ m _ x.to dc (dw.ext jQ) aK Kl) ?_;rintro _ eY ⟨rfl,cG⟩;replace ko:=cG.obj ko;have atH:=Kl.ext Flat.ext cG;have rl:=gS.trans cG;have aaH:=aaJ.ext Flat.ext rl;have asX:=an.ext Flat.ext (dQ.trans rl);obtain⟨a2,rfl⟩:∃a,eK=some a:=aaJ.addr;obtain⟨UB,rfl⟩:=an.addr (by have:=M9;omega);obtain⟨oz,rfl⟩:=Kl.addr;rw[<-Rc] at yu ⊢;rw[yu];clear av Kl;have g3:s[o.dj m q]'(by omega)<x.to[o.dj m q]'(by omega):=by
  have h1:o.mL m s q=s[o.dj m q]'(by omega):=by unfold o.mL;rw[List.getElem?_eq_getElem (by omega)];rfl
  have I:o.mL m x.to q=x.to[o.dj m q]'(by omega):=by unfold o.mL;rw[List.getElem?_eq_getElem (by omega)];rfl
  rw[h1,I] at Re;exact Re
 refine aa ?_;refine K_ (o.dj m q) (by rw[sW]) (by omega) ?_;refine aa ?_;refine K_ (o.dj m q) (by rw[sW]) (by omega) ?_;refine aa ?_;intro gw e8;refine aa ?_;exact⟨et,aU,(),trivial,rl.trans e8⟩
end Go.Proofs.R
end
section
namespace bb
open Go Go.RowKit Go.ChangeShapes Go.WideShapes Go.Deep
section
variable{H:Type}{enc:TypeId×Value->H}{P:Program}{w:World}{base:Nat}{spare:Nat->Bool}{held:Bool}
theorem vt{t:F_}{fM:Array Field}{n:Nat}{cs:C_ B_}{y:DataW H×C_ MemPlace}(aB:P.underlying t=some (.struct fM))(vQ:oneCellFields P fM=true)(bC:P.cellsOf t=fM.size)
  (h:DataW.trod enc P w base spare held n t cs=some y):cs.length=fM.size/\∃j9 ds,y.1 = .agg ds/\∀(j:Nat) (f:Field),fM[j]? = some f->∃v z,cs[j]? = some v/\DataW.trod enc P w base spare held j9 f.type [v]=some z/\ds[j]? = some z.1:=by
 obtain⟨ys,j9,IU,bS,hlen,as4,ax⟩:=DataW.trod_struct aB h;refine⟨by omega,j9,_,by rw[bS],fun j f aE=>?_⟩;obtain⟨aM,hk⟩:=hone_of vQ j f aE;have np:j<fM.size:=(Array.getElem?_eq_some_iff.1 aE).1;have aG:cs[j]? = some (cs[j]'(by omega)):=List.getElem?_eq_getElem (by omega);have h1:=ax j f aE;rw[aM,hk] at h1;have ajM:(cs.drop j).take 1=[cs[j]'(by omega)]:=by
  rw[List.drop_eq_getElem_cons (by omega)];rfl
 rw[ajM,List.getElem?_eq_getElem (l:=ys) (by omega)] at h1;exact⟨_,_,aG,h1,by rw[List.getElem?_map,List.getElem?_eq_getElem (by omega)];rfl⟩
def Small(P:D_)(t:F_)(d:DataW H):Prop := ∀q∈d.weights P t,q<=reachBytes
theorem Small.field{t u:F_}{fM:Array Field}{ds:C_ (DataW H)}{j:Nat}{d:DataW H}{f:Field}(h:Small P t (.agg ds))(aB:P.underlying t=some (.struct fM))(ax:fM[j]? = some f)(hu:f.type=u)(a6:ds[j]? = some d):Small P u d:=by
 subst hu;intro q au;refine h q ?_;simp only[DataW.weights,aB];exact DataW.weights_mem_each (j:=j) (by simp[ax]) a6 q au
theorem aeh{α:Type}{R:A_->Addr->α->Prop}{t e:F_}{v:B_}{n:Nat}{z:DataW H×C_ MemPlace}(sz:Nat)(aB:P.underlying t=some (.slice e))(bC:P.cellsOf e=sz)(km:0<P.bytesOf e)
  (bE:∀(a:Addr) (cs:C_ B_) (n:Nat) (y:DataW H×C_ MemPlace),e0 w a cs->cs.length=sz->DataW.trod enc P w 0 (fun _=>true) true n e cs=some y->∃x,R w a x)
  (h:DataW.trod enc P w 0 (fun _=>true) true n t [v]=some z):∃xs,bh sz R w v xs/\(Small P t z.1->xs.length<=140737488355328):=by
 rcases open_slice aB h with ⟨gx,_⟩ | ⟨a,len,cap,m,n,D,acR,gx,ak,aF,hm,Ew,ag,U⟩
 .simp at gx;subst gx;exact⟨[],bh.nil,fun _=>by simp⟩
 .simp at gx;subst gx;simp only[if_true] at Ew;subst Ew;obtain⟨xs,s5,p7⟩:=PF len (fun i x=>R w (a.add (i*sz)) x) fun i cE=>by
   obtain⟨iS,ah,x0⟩:=U i (by omega);rw[bC] at ah;obtain⟨_,dR,kJ⟩:=World.cells?_some ah;refine bE _ iS n _ (fun j u aE=>?_) dR x0;have Oa:j<sz:=dR ▸ (List.getElem?_eq_some_iff.1 aE).1;rw[<-aE];exact kJ j Oa
  refine⟨xs,⟨some a,_,by rw[s5],by omega,hm,fun _=>rfl,fun cD aV=>by injection aV with aV;subst aV;exact p7⟩,fun an=>?_⟩;have h1:=an ((len+(m - len))*P.bytesOf e) (by rw[ag];simp[DataW.weights,aB]);have I:=reachBytes_lt;have ab:len<=(len+(m - len))*P.bytesOf e:=Nat.le_trans (Nat.le_add_right len _) (Nat.le_mul_of_pos_right _ km);rw[s5];omega
theorem adq{r:Reach}{l0:Nat}{t e:F_}{v:B_}{d:DataW H}{p:C_ MemPlace}(aB:P.underlying t=some (.slice e))(vX:Value.okWide P w r l0 t v)(h:DataW.Trod enc P w 0 (fun _=>true) true t v d p) :
  ∃n,DataW.trod enc P w 0 (fun _=>true) true n t [v]=some (d,p):=by
 obtain⟨a0,atD,arP,rfl⟩:=okWide_slice aB vX;obtain⟨n,ay⟩:=h;exact⟨n,ay⟩
end
end bb
namespace Go.Proofs.R
open Go Go.RowKit bb Go.ChangeShapes
variable{H:Type}{enc:TypeId×Value->H}{w:World}{cs:List Value}{n:Nat}{y:DataW H×List MemPlace}{v:Value}
theorem mj{z:Int}(h:(Lit.int .i64 z).wf=true):o.dH z:=by
 simp only[Lit.wf,Bool.and_eq_true,decide_eq_true_eq] at h;exact⟨h.1,h.2⟩
theorem amu(h:DataW.trod enc Tryz.prog w 0 (fun _=>true) true n T.f cs=some y):∃x:o.Node,cs=x.enc/\x.ok:=by
 obtain⟨aF,j9,ds,_,ax⟩:=vt (t:=T.f) rfl (by kernel_rfl) (by kernel_rfl) h
 match cs,aF with
 | [bw,c1],_ =>
  obtain⟨_,_,ej,af,_⟩:=ax 0 _ rfl;obtain⟨_,_,bt,h1,_⟩:=ax 1 _ rfl;cases ej;cases bt;obtain⟨z0,ej,_,gF⟩:=DataW.trod_int (k:=.i64) (by kernel_rfl) af;obtain⟨gj,bt,_,cC⟩:=DataW.trod_int (k:=.i64) (by kernel_rfl) h1;cases ej;cases bt;exact⟨⟨z0,gj⟩,rfl,mj gF,mj cC⟩
end Go.Proofs.R
end
section
namespace bb
open Go Go.RowKit Go.ChangeShapes Go.WideShapes Go.Deep
section
variable{H:Type}{enc:TypeId×Value->H}{P:Program}{w:World}{base:Nat}{spare:Nat->Bool}{held:Bool}
theorem ab9{e:F_}:∀{ds:C_ (DataW H)} {d:DataW H},d∈ds->∀n∈d.weights P e,n∈DataW.weightsAll P e ds
 | [],_,h=>by cases h
 | x :: r,d,h=>fun n ay=>by
  simp only[DataW.weightsAll];rcases List.mem_cons.1 h with rfl | h
  .exact List.mem_append_left _ ay
  .exact List.mem_append_right _ (ab9 h n ay)
theorem xh{α:Type}{R:A_->Addr->α->Prop}{G:α->Prop}{t e:F_}{v:B_}{n:Nat}{z:DataW H×C_ MemPlace}(sz B:Nat)(aB:P.underlying t=some (.slice e))(bC:P.cellsOf e=sz)(km:P.bytesOf e=B)
  (bE:∀(a:Addr) (cs:C_ B_) (n:Nat) (y:DataW H×C_ MemPlace),e0 w a cs->cs.length=sz->DataW.trod enc P w 0 (fun _=>true) true n e cs=some y->∃x,R w a x/\(Small P e y.1->G x))
  (h:DataW.trod enc P w 0 (fun _=>true) true n t [v]=some z):∃xs,bh sz R w v xs/\(Small P t z.1->o.ei xs.length B/\∀x∈xs,G x):=by
 rcases open_slice aB h with ⟨gx,_⟩ | ⟨a,len,cap,m,n,D,acR,gx,ak,aF,hm,Ew,ag,U⟩
 .simp at gx;subst gx;exact⟨[],bh.nil,fun _=>⟨by simp[o.ei],fun x ag=>by cases ag⟩⟩
 .simp at gx;subst gx;simp only[if_true] at Ew;subst Ew;obtain⟨xs,s5,p7⟩:=PF len (fun i x=>R w (a.add (i*sz)) x/\(Small P e (D i)->G x)) fun i cE=>by
   obtain⟨iS,ah,x0⟩:=U i (by omega);rw[bC] at ah;obtain⟨_,dR,kJ⟩:=World.cells?_some ah;refine bE _ iS n _ (fun j u aE=>?_) dR x0;have Oa:j<sz:=dR ▸ (List.getElem?_eq_some_iff.1 aE).1;rw[<-aE];exact kJ j Oa
  refine⟨xs,⟨some a,_,by rw[s5],by omega,hm,fun _=>rfl,fun cD aV i U=>by injection aV with aV;subst aV;exact(p7 i U).1⟩,fun an=>⟨?_,fun x uk=>?_⟩⟩
  .have h1:=an ((len+(m - len))*P.bytesOf e) (by rw[ag];simp[DataW.weights,aB]);have I:len*B<=(len+(m - len))*P.bytesOf e:=by rw[km];exact Nat.mul_le_mul_right _ (by omega)
   have ab:reachBytes=140737488351232:=rfl;unfold o.ei;rw[s5];omega
  .obtain⟨i,cE,rfl⟩:=List.mem_iff_getElem.1 uk;refine(p7 i cE).2 fun q au=>an q ?_;rw[ag];simp only[DataW.weights,aB];refine List.mem_cons_of_mem _ (List.mem_append_left _ (ab9 ?_ q au));exact List.mem_map.2 ⟨i,by simp;omega,rfl⟩
theorem amX{r:Reach}{l0:Nat}{t:F_}{fM:Array Field}{v:B_}{d:DataW H}{p:C_ MemPlace}(aB:P.underlying t=some (.struct fM))
  (vX:Value.okWide P w r l0 t v)(h:DataW.Trod enc P w base spare held t v d p):∃cs n,v = .agg cs/\DataW.trod enc P w base spare held n t cs.toList=some (d,p):=by
 obtain⟨cs,rfl,dy⟩:=okWide_struct aB vX;obtain⟨fuel,ax⟩:=h;exact⟨cs,fuel,rfl,ax⟩
end
end bb
namespace Go.Proofs.R
open Go Go.RowKit bb Go.ChangeShapes
variable{H:Type}{enc:TypeId×Value->H}{w:World}{cs:List Value}{n:Nat}{y:DataW H×List MemPlace}{v:Value}
theorem ahe(h:DataW.trod enc Tryz.prog w 0 (fun _=>true) true n T.pM cs=some y):∃x:o.Scalar,cs=x.enc/\o.jo x.name/\x.cN:=by
 obtain⟨aF,j9,ds,_,ax⟩:=vt (t:=T.pM) rfl (by kernel_rfl) (by kernel_rfl) h
 match cs,aF with
 | [bw,c1],_ =>
  obtain⟨_,_,ej,af,_⟩:=ax 0 _ rfl;obtain⟨_,_,bt,h1,_⟩:=ax 1 _ rfl;cases ej;cases bt;obtain⟨s,ej,_,an⟩:=DataW.trod_string (by kernel_rfl) af;obtain⟨z,bt,_,cC⟩:=DataW.trod_int (k:=.i64) (by kernel_rfl) h1;cases ej;cases bt;exact⟨⟨s,z⟩,rfl,an,⟨mj cC⟩⟩
theorem ahh(h:DataW.trod enc Tryz.prog w 0 (fun _=>true) true n T.m cs=some y):∃x:o.Var,cs=x.enc/\o.jo x.name/\x.cN:=by
 obtain⟨aF,j9,ds,_,ax⟩:=vt (t:=T.m) rfl (by kernel_rfl) (by kernel_rfl) h
 match cs,aF with
 | [bw,c1,c2,br,bF,yW],_ =>
  obtain⟨_,_,ej,af,_⟩:=ax 0 _ rfl;obtain⟨_,_,bt,h1,_⟩:=ax 1 _ rfl;obtain⟨_,_,aI,I,_⟩:=ax 2 _ rfl;obtain⟨_,_,ba,ab,_⟩:=ax 3 _ rfl;obtain⟨_,_,bG,aD,_⟩:=ax 4 _ rfl;obtain⟨_,_,bU,aY,_⟩:=ax 5 _ rfl;cases ej;cases bt;cases aI;cases ba;cases bG;cases bU;obtain⟨s,ej,_,an⟩:=DataW.trod_string (by kernel_rfl) af;obtain⟨gj,bt,_,cC⟩:=DataW.trod_int (k:=.i64) (by kernel_rfl) h1;obtain⟨z2,aI,_,cS⟩:=DataW.trod_int (k:=.i64) (by kernel_rfl) I;obtain⟨z3,ba,_,eT⟩:=DataW.trod_int (k:=.i64) (by kernel_rfl) ab;obtain⟨z4,bG,_,hI⟩:=DataW.trod_int (k:=.i64) (by kernel_rfl) aD;obtain⟨z5,bU,_,B0⟩:=DataW.trod_int (k:=.i64) (by kernel_rfl) aY;cases ej;cases bt;cases aI;cases ba;cases bG;cases bU;exact⟨⟨s,gj,z2,z3,z4,z5⟩,rfl,an,⟨mj cC,mj cS,mj eT,mj hI,mj B0⟩⟩
theorem ag4(h:DataW.trod enc Tryz.prog w 0 (fun _=>true) true n T.t cs=some y):∃x:o.dv,cs=x.enc/\o.jo x.name/\x.cN:=by
 obtain⟨aF,j9,ds,_,ax⟩:=vt (t:=T.t) rfl (by kernel_rfl) (by kernel_rfl) h
 match cs,aF with
 | [bw,c1,c2,br,bF,yW],_ =>
  obtain⟨_,_,ej,af,_⟩:=ax 0 _ rfl;obtain⟨_,_,bt,h1,_⟩:=ax 1 _ rfl;obtain⟨_,_,aI,I,_⟩:=ax 2 _ rfl;obtain⟨_,_,ba,ab,_⟩:=ax 3 _ rfl;obtain⟨_,_,bG,aD,_⟩:=ax 4 _ rfl;obtain⟨_,_,bU,aY,_⟩:=ax 5 _ rfl;cases ej;cases bt;cases aI;cases ba;cases bG;cases bU;obtain⟨s,ej,_,an⟩:=DataW.trod_string (by kernel_rfl) af;obtain⟨gj,bt,_,cC⟩:=DataW.trod_int (k:=.i64) (by kernel_rfl) h1;obtain⟨z2,aI,_,cS⟩:=DataW.trod_int (k:=.i64) (by kernel_rfl) I;obtain⟨z3,ba,_,eT⟩:=DataW.trod_int (k:=.i64) (by kernel_rfl) ab;obtain⟨z4,bG,_,hI⟩:=DataW.trod_int (k:=.i64) (by kernel_rfl) aD;obtain⟨z5,bU,_⟩:=DataW.trod_bool (by kernel_rfl) aY;cases ej;cases bt;cases aI;cases ba;cases bG;cases bU;exact⟨⟨s,gj,z2,z3,z4,z5⟩,rfl,an,⟨mj cC,mj cS,mj eT,mj hI⟩⟩
theorem H4(h:DataW.trod enc Tryz.prog w 0 (fun _=>true) true n T.u [v]=some y):∃l,o.eV w v l/\(Small Tryz.prog T.u y.1->o.ei l.length 16/\∀x∈l,True) :=
 xh (G:=fun _=>True) (e:=T.f) 2 16 (by kernel_rfl) (by kernel_rfl) (by kernel_rfl) (fun a cs n y ah aF aB=>by obtain⟨x,rfl,ag⟩:=amu aB;exact⟨x,⟨ah,ag⟩,fun _=>trivial⟩) h
theorem ahf(h:DataW.trod enc Tryz.prog w 0 (fun _=>true) true n T.ru [v]=some y):∃l,o.h2 w v l/\(Small Tryz.prog T.ru y.1->o.ei l.length 24/\∀x∈l,x.cN) :=
 xh (e:=T.pM) 2 24 (by kernel_rfl) (by kernel_rfl) (by kernel_rfl) (fun a cs n y ah aF aB=>by obtain⟨x,rfl,ag,aK⟩:=ahe aB;exact⟨x,⟨ah,ag⟩,fun _=>aK⟩) h
theorem Wy(h:DataW.trod enc Tryz.prog w 0 (fun _=>true) true n T.sx [v]=some y):∃l,o.hP w v l/\(Small Tryz.prog T.sx y.1->o.ei l.length 56/\∀x∈l,x.cN) :=
 xh (e:=T.m) 6 56 (by kernel_rfl) (by kernel_rfl) (by kernel_rfl) (fun a cs n y ah aF aB=>by obtain⟨x,rfl,ag,aK⟩:=ahh aB;exact⟨x,⟨ah,ag⟩,fun _=>aK⟩) h
theorem ag5(h:DataW.trod enc Tryz.prog w 0 (fun _=>true) true n T.GJ [v]=some y):∃l,o.mS w v l/\(Small Tryz.prog T.GJ y.1->o.ei l.length 56/\∀x∈l,x.cN) :=
 xh (e:=T.t) 6 56 (by kernel_rfl) (by kernel_rfl) (by kernel_rfl) (fun a cs n y ah aF aB=>by obtain⟨x,rfl,ag,aK⟩:=ag4 aB;exact⟨x,⟨ah,ag⟩,fun _=>aK⟩) h
theorem ag2{a:Addr}(ah:e0 w a cs)(h:DataW.trod enc Tryz.prog w 0 (fun _=>true) true n T.y cs=some y):∃x:o.Act,o.yJ w a x/\(Small Tryz.prog T.y y.1->x.cN):=by
 obtain⟨aF,j9,ds,he,ax⟩:=vt (t:=T.y) rfl (by kernel_rfl) (by kernel_rfl) h
 match cs,aF with
 | [bw,c1,c2,br,bF],_ =>
  obtain⟨_,_,ej,af,_⟩:=ax 0 _ rfl;obtain⟨_,_,bt,h1,_⟩:=ax 1 _ rfl;obtain⟨_,_,aI,I,_⟩:=ax 2 _ rfl;obtain⟨_,_,ba,ab,d3⟩:=ax 3 _ rfl;obtain⟨_,_,bG,aD,d4⟩:=ax 4 _ rfl;cases ej;cases bt;cases aI;cases ba;cases bG;obtain⟨z0,ej,_,gF⟩:=DataW.trod_int (k:=.i64) (by kernel_rfl) af;obtain⟨gj,bt,_,cC⟩:=DataW.trod_int (k:=.i64) (by kernel_rfl) h1;obtain⟨z2,aI,_,cS⟩:=DataW.trod_int (k:=.i64) (by kernel_rfl) I;cases ej;cases bt;cases aI;obtain⟨ef,ab,g3⟩:=H4 ab;obtain⟨ew,aD,g4⟩:=H4 aD;exact⟨⟨z0,gj,z2,ef,ew⟩,⟨br,bF,ah,ab,aD⟩,fun an=>by
   rw[he] at an;exact⟨mj gF,mj cC,mj cS,(g3 (an.field rfl rfl rfl d3)).1,(g4 (an.field rfl rfl rfl d4)).1⟩⟩
theorem ag3(h:DataW.trod enc Tryz.prog w 0 (fun _=>true) true n T.oz [v]=some y):∃l,o.mQ w v l/\(Small Tryz.prog T.oz y.1->o.ei l.length 72/\∀x∈l,x.cN) :=
 xh (e:=T.y) 5 72 (by kernel_rfl) (by kernel_rfl) (by kernel_rfl) (fun a cs n y ah aF aB=>ag2 ah aB) h
theorem ag6(h:DataW.trod enc Tryz.prog w 0 (fun _=>true) true n T.k cs=some y):∃x:o.dI,o.Au w cs x/\(Small Tryz.prog T.k y.1->x.cN):=by
 obtain⟨aF,j9,ds,he,ax⟩:=vt (t:=T.k) rfl (by kernel_rfl) (by kernel_rfl) h
 match cs,aF with
 | [bw,c1,c2,br,bF,yW],_ =>
  obtain⟨_,_,ej,af,_⟩:=ax 0 _ rfl;obtain⟨_,_,bt,h1,_⟩:=ax 1 _ rfl;obtain⟨_,_,aI,I,_⟩:=ax 2 _ rfl;obtain⟨_,_,ba,ab,d3⟩:=ax 3 _ rfl;obtain⟨_,_,bG,aD,d4⟩:=ax 4 _ rfl;obtain⟨_,_,bU,aY,_⟩:=ax 5 _ rfl;cases ej;cases bt;cases aI;cases ba;cases bG;cases bU;obtain⟨s,ej,_,an⟩:=DataW.trod_string (by kernel_rfl) af;obtain⟨gj,bt,_,cC⟩:=DataW.trod_int (k:=.i64) (by kernel_rfl) h1;obtain⟨z2,aI,_,cS⟩:=DataW.trod_int (k:=.i64) (by kernel_rfl) I;obtain⟨z5,bU,_⟩:=DataW.trod_bool (by kernel_rfl) aY;cases ej;cases bt;cases aI;cases bU;obtain⟨ef,ab,g3⟩:=H4 ab;obtain⟨ew,aD,g4⟩:=ag3 aD;exact⟨⟨s,gj,z2,ef,ew,z5⟩,⟨an,br,bF,rfl,ab,aD⟩,fun an=>by
   rw[he] at an;exact⟨mj cC,mj cS,(g3 (an.field rfl rfl rfl d3)).1,(g4 (an.field rfl rfl rfl d4)).1,(g4 (an.field rfl rfl rfl d4)).2⟩⟩
theorem ag7(h:DataW.trod enc Tryz.prog w 0 (fun _=>true) true n T.UJ [v]=some y):∃l,o.rk w v l/\(Small Tryz.prog T.UJ y.1->o.ei l.length 88/\∀x∈l,x.cN) :=
 xh (e:=T.k) 6 88 (by kernel_rfl) (by kernel_rfl) (by kernel_rfl) (fun a cs n y ah aF aB=>by
  obtain⟨x,⟨af,gu,ea,rfl,h1,I⟩,aK⟩:=ag6 aB;exact⟨x,⟨af,gu,ea,ah,h1,I⟩,aK⟩) h
theorem ahb(h:DataW.trod enc Tryz.prog w 0 (fun _=>true) true n T.l cs=some y):∃x:o.dz,o.w6 w cs x/\(Small Tryz.prog T.l y.1->x.cN):=by
 obtain⟨aF,j9,ds,he,ax⟩:=vt (t:=T.l) rfl (by kernel_rfl) (by kernel_rfl) h
 match cs,aF with
 | [bw,c1,c2,br,bF],_ =>
  obtain⟨_,_,ej,af,_⟩:=ax 0 _ rfl;obtain⟨_,_,bt,h1,_⟩:=ax 1 _ rfl;obtain⟨_,_,aI,I,_⟩:=ax 2 _ rfl;obtain⟨_,_,ba,ab,d3⟩:=ax 3 _ rfl;obtain⟨_,_,bG,aD,d4⟩:=ax 4 _ rfl;cases ej;cases bt;cases aI;cases ba;cases bG;obtain⟨s,ej,_,an⟩:=DataW.trod_string (by kernel_rfl) af;obtain⟨gj,bt,_,cC⟩:=DataW.trod_int (k:=.i64) (by kernel_rfl) h1;obtain⟨z2,aI,_,cS⟩:=DataW.trod_int (k:=.i64) (by kernel_rfl) I;cases ej;cases bt;cases aI;obtain⟨ef,ab,g3⟩:=Wy ab;obtain⟨ew,aD,g4⟩:=ag7 aD;exact⟨⟨s,gj,z2,ef,ew⟩,⟨an,br,bF,rfl,ab,aD⟩,fun an=>by
   rw[he] at an;exact⟨mj cC,mj cS,(g3 (an.field rfl rfl rfl d3)).1,(g4 (an.field rfl rfl rfl d4)).1,(g3 (an.field rfl rfl rfl d3)).2,(g4 (an.field rfl rfl rfl d4)).2⟩⟩
theorem ahc(h:DataW.trod enc Tryz.prog w 0 (fun _=>true) true n T.UH [v]=some y):∃l,o.qp w v l/\(Small Tryz.prog T.UH y.1->o.ei l.length 80/\∀x∈l,x.cN) :=
 xh (e:=T.l) 5 80 (by kernel_rfl) (by kernel_rfl) (by kernel_rfl) (fun a cs n y ah aF aB=>by
  obtain⟨x,⟨af,gu,ea,rfl,h1,I⟩,aK⟩:=ahb aB;exact⟨x,⟨af,gu,ea,ah,h1,I⟩,aK⟩) h
theorem ahd(h:DataW.trod enc Tryz.prog w 0 (fun _=>true) true n T.yR [v]=some y):∃l,o.AF w v l/\(Small Tryz.prog T.yR y.1->o.ei l.length 40/\∀x∈l,x.cN) :=
 xh (e:=T.a0) 2 40 (by kernel_rfl) (by kernel_rfl) (by kernel_rfl) (fun a cs n y ah aF aB=>by
  obtain⟨aF,j9,ds,he,ax⟩:=vt (t:=T.a0) rfl (by kernel_rfl) (by kernel_rfl) aB
  match cs,aF with
  | [bw,c1],_ =>
   obtain⟨_,_,ej,af,_⟩:=ax 0 _ rfl;obtain⟨_,_,bt,h1,d1⟩:=ax 1 _ rfl;cases ej;cases bt;obtain⟨s,ej,_,an⟩:=DataW.trod_string (by kernel_rfl) af;cases ej;obtain⟨ek,h1,g1⟩:=H4 h1;exact⟨⟨s,ek⟩,⟨an,c1,ah,h1⟩,fun an=>by rw[he] at an;exact⟨(g1 (an.field rfl rfl rfl d1)).1⟩⟩) h
theorem amU{r:Reach}{l0:Nat}{v:B_}{d:DataW H}{p:C_ MemPlace}(vX:Value.okWide Tryz.prog w r l0 T.g v)(h:DataW.Trod enc Tryz.prog w 0 (fun _=>true) true T.g v d p)(an:Small Tryz.prog T.g d) :
  ∃cs m,v = .agg cs.toArray/\o.dV w cs m/\m.cN:=by
 obtain⟨cs,n,rfl,aB⟩:=amX (t:=T.g) rfl vX h;obtain⟨aF,j9,ds,rfl,ax⟩:=vt (t:=T.g) rfl (by kernel_rfl) (by kernel_rfl) aB;obtain⟨cs⟩:=cs
 match cs,aF with
 | [bw,c1,c2,br,bF],_ =>
  obtain⟨_,_,ej,af,d0⟩:=ax 0 _ rfl;obtain⟨_,_,bt,h1,d1⟩:=ax 1 _ rfl;obtain⟨_,_,aI,I,d2⟩:=ax 2 _ rfl;obtain⟨_,_,ba,ab,d3⟩:=ax 3 _ rfl;obtain⟨_,_,bG,aD,d4⟩:=ax 4 _ rfl;cases ej;cases bt;cases aI;cases ba;cases bG;obtain⟨eU,eF,l0⟩:=ahf af;obtain⟨ek,eb,bo⟩:=Wy h1;obtain⟨ev,dG,bR⟩:=ag5 I;obtain⟨ef,fg,b0⟩:=ahc ab;obtain⟨ew,gq,cF⟩:=ahd aD;have gF:=l0 (an.field rfl rfl rfl d0);have cC:=bo (an.field rfl rfl rfl d1);have cS:=bR (an.field rfl rfl rfl d2);have eT:=b0 (an.field rfl rfl rfl d3);have hI:=cF (an.field rfl rfl rfl d4);exact⟨[bw,c1,c2,br,bF],⟨eU,ek,ev,ef,ew⟩,rfl,⟨⟨bw,c1,c2,br,bF,rfl,eF,eb,dG,fg,gq⟩⟩,⟨gF.1,cC.1,cS.1,eT.1,hI.1,gF.2,cC.2,cS.2,eT.2,hI.2⟩⟩
end Go.Proofs.R
end
section
namespace Go.Proofs.R
open Go Go.RowKit bb Go.ChangeShapes
variable{H:Type}{enc:TypeId×Value->H}{w:World}{r:Reach}{l0:Nat}{v:Value}{d:DataW H}{p:List MemPlace}
theorem akY{n:Nat}{y:DataW H×C_ MemPlace}(h:DataW.trod enc Tryz.prog w 0 (fun _=>true) true n T.b [v]=some y):∃l,oq w v l/\(Small Tryz.prog T.b y.1->l.length<=140737488355328) :=
 aeh (e:=T.a) 1 (by kernel_rfl) (by kernel_rfl) (by decide +kernel) (fun a cs n y ah aF aB=>by
  obtain⟨z,e,_,alo⟩:=DataW.trod_int (k:=.i64) (by kernel_rfl) aB;cases e;exact⟨z,ah,mj alo⟩) h
theorem open_ints(vX:Value.okWide Tryz.prog w r l0 T.b v)(h:DataW.Trod enc Tryz.prog w 0 (fun _=>true) true T.b v d p):∃l,oq w v l:=by
 obtain⟨n,ay⟩:=adq (e:=T.a) (by kernel_rfl) vX h;obtain⟨l,aF,_⟩:=akY ay;exact⟨l,aF⟩
end Go.Proofs.R
end
section
namespace Go.Proofs.R
open Go Go.RowKit bb Go.ChangeShapes
variable{H:Type}{enc:TypeId×Value->H}{w:World}{r:Reach}{l0:Nat}{v:Value}{d:DataW H}{p:List MemPlace}
theorem amV(vX:Value.okWide Tryz.prog w r l0 T.b v)(h:DataW.Trod enc Tryz.prog w 0 (fun _=>true) true T.b v d p):∃l,bh 1 (Flat cR) w v l:=by
 obtain⟨l,aF⟩:=open_ints vX h;obtain⟨aQ,cap,e,h1,I,ab,aD⟩:=aF.ex;exact⟨l,aQ,cap,e,h1,I,ab,fun a aV i U=>(aD a aV i U).1⟩
end Go.Proofs.R
end
section
namespace Go.Proofs.R
open Go Go.RowKit bb Go.ChangeShapes Go.WideShapes Go.Deep
theorem aui{H:Type}{enc:F_×B_->H}{r:Reach}{l0:Nat}{d0 d1:DataW H}{ff dZ:C_ MemPlace}(v0 v1:B_)(W:A_)(aM:gB W)
  (gF:Value.okWide Tryz.prog W r l0 T.g v0)(af:DataW.Trod enc Tryz.prog W 0 (fun _=>true) true T.g v0 d0 ff)(jZ:Small Tryz.prog T.g d0)
  (cC:Value.okWide Tryz.prog W r l0 T.b v1)(h1:DataW.Trod enc Tryz.prog W 0 (fun _=>true) true T.b v1 d1 dZ)(_s1:Small Tryz.prog T.b d1) :
  a7 Tryz.prog F.Fb #[v0,v1] W fun v w'=>v = .bool true/\Ext W w':=by
 obtain⟨cs,m,rfl,hm,aK⟩:=amU gF af jZ;obtain⟨s,an⟩:=amV cC h1;exact alx cs v1 m s W hm aK aM an
end Go.Proofs.R
end
section
namespace bb
open Go Go.RowKit Go.ChangeShapes
theorem atx{P:D_}{f:E_}{fn:Func}{s:ChangeSpec}{c:OpenClaim}(h1:(c.wf (OpenSpec.ofChange s)&&laidOutB P&&mapsRowed P)=true)
  (I:(fn.params.all (P.readableRec ·)&&namedTie P c.named s.vars)=true)(ab:((c.stops == [])&&(P.stops == [])&&(c.knobs == [])&&(P.stopKnobs == []))=true)
  (aD:(c.inPlace == P.inPlace f)=true)(aY:(c.unfollowed == P.unfollowed f)=true)(bx:(c.recurses == P.recurses f)=true)(b1:(c.named == P.varsNamed f)=true)
  (dC:((c.maps == (fn.params.toList++s.plain.varTypes P).any (P.mapsRec ·))&&(c.ifaces == (fn.params.toList++s.plain.varTypes P).any (P.ifacesRec ·))&&(c.mapsOut == P.mapsAmong fn.resultTypes.toList))=true)
  (jj:((c.loops == (fn.params.toList++s.plain.varTypes P).any (P.loopsFrom ·))&&(c.wideKeys == (fn.params.toList++s.plain.varTypes P++fn.resultTypes.toList).any (P.wideKeysFrom ·)))=true)
  (kl:(s.vars.all (P.varReadable ·)&&fn.resultTypes.all (fun t=>P.readableRec t&&decide (t<P.types.size))&&(c.ifacesOut == fn.resultTypes.toList.any (P.ifacesRec ·))&&(c.loopsOut == fn.resultTypes.toList.any (P.loopsFrom ·)))=true)
  (H6:(c.plainKeys == P.plainKeys)=true)(rF:(c.shortTexts.isNone&&P.stopsHeard)=true)(DN:P.mayEnter=true)
  (WB:((c.lifted == P.liftsFinal)&&(P.make == some c.make))=true)
  (nh:((c.kinds == (if c.domain.isEmpty then [] else fn.params.toList.map fun t=>match P.underlying t with | some (.int k)=>some k | _=>none))&&(c.pinned == c.pinnedBy))=true)
  (nU:((c.veiled == (fn.params.toList++s.plain.varTypes P++fn.resultTypes.toList).any (P.veiledRec ·))&&c.veiledFits P fn.params.toList (fn.params.toList++s.plain.varTypes P++fn.resultTypes.toList))=true) :
  joinedFacts P f fn s c=true:=by
 simp only[Bool.and_eq_true] at h1 I ab dC jj kl rF WB nh nU;unfold joinedFacts;simp only[Bool.and_eq_true];obtain⟨⟨df,a2⟩,a3⟩:=h1;obtain⟨bo,bR⟩:=I;obtain⟨⟨⟨d1,d2⟩,d3⟩,d4⟩:=ab;obtain⟨⟨bt,aI⟩,ba⟩:=dC;obtain⟨f1,f2⟩:=jj;obtain⟨⟨⟨g1,g2⟩,g3⟩,g4⟩:=kl;obtain⟨i1,i2⟩:=rF;obtain⟨qW,mI⟩:=WB;obtain⟨cC,cS⟩:=nh;obtain⟨ek,ev⟩:=nU;exact⟨⟨⟨⟨⟨⟨⟨⟨⟨⟨⟨⟨⟨⟨⟨⟨⟨⟨⟨⟨⟨⟨⟨⟨⟨⟨⟨⟨⟨⟨⟨df,a2⟩,a3⟩,bo⟩,bR⟩,d1⟩,d2⟩,d3⟩,d4⟩,aD⟩,aY⟩,bx⟩,b1⟩,bt⟩,aI⟩,ba⟩,f1⟩,f2⟩,g1⟩,g2⟩,g3⟩,g4⟩,H6⟩,i1⟩,i2⟩,DN⟩,qW⟩,mI⟩,cC⟩,cS⟩,ek⟩,ev⟩
end bb
end