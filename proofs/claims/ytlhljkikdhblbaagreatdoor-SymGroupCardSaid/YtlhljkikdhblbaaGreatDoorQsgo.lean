/- Parts. -/
import Derived.Test.YtlhljkikdhblbaaGreatDoorQsgn
set_option linter.all false
set_option maxRecDepth 4000
set_option maxHeartbeats 16000000
namespace o
open Go
def rV(a:C_ (C_ (C_ Int)))(n:Nat):C_ (C_ (C_ Int)):=a.flatMap λb=>(hF n).map λc=>b++[c]
theorem abx:∀(a:C_ Nat) (b:C_ (C_ (C_ Int))),a.foldl rV b=b.flatMap λc=>(kI a).map λd=>c++d
 | [],b=>by simp[kI]
 | e :: a,b=>by
  rw[List.foldl_cons,abx a,rV,List.flatMap_assoc];congr 1;funext c;simp[kI,List.flatMap_map,List.map_flatMap,List.map_map,Function.comp_def]
def ans(s:C_ Scalar):(j3 s).foldl rV [[]]=dE s:=by
 rw[abx];simp[dE]
theorem ahX(a:C_ (C_ (C_ Int)))(n:Nat):(rV a n).length=a.length*dA n:=by
 induction a with
 | nil=>simp[rV]
 | cons c a b =>
  unfold rV at b ⊢;rw[AJ5,Jv,b,AH3,Nat.succ_mul,AK9];simp[hF]
def axM{b:C_ (C_ (C_ Int))}{n k:Nat}(h:∀a∈b,a.length=k):∀a∈rV b n,a.length=k+1:=λa c=>by
 simp only[rV,List.mem_flatMap,List.mem_map] at c;obtain⟨d,e,f,_,rfl⟩:=c;simp[h d e]
def mq(s:C_ Scalar)(k:Nat):C_ (C_ (C_ Int)):=((j3 s).take k).foldl rV [[]]
theorem aaj(s:C_ Scalar):mq s 0=[[]]:=rfl
def aai{s:C_ Scalar}{k:Nat}(h:k<s.length):mq s (k+1)=rV (mq s k) s[k].size.toNat:=by
 unfold mq;have a:k<(j3 s).length:=by simpa[j3] using h
 rw[NZ a,AL3];simp[j3]
def als{s:C_ Scalar}{k:Nat}(h:s.length<=k):mq s k=dE s:=by
 unfold mq;rw[Im (by simpa[j3] using h),ans]
theorem aah{s:C_ Scalar}(b:pD s):∀a,a<=s.length->(mq s a).length<=24 ^ a/\∀d∈mq s a,d.length=a
 | 0,_=>by simp[aaj]
 | a+1,h=>by
  have e:∀c,c<=4->dA c<=24:=Ae
  obtain⟨f,g⟩:=aah b a AW;rw[aai AW];refine⟨?_,axM g⟩;rw[ahX,Nat.pow_succ]
  have:=b.2 _ (ID (show a<s.length by omega))
  exact AI0 f (e _ AW)
def qV(a:C_ (C_ (C_ Int)))(n i j:Nat):C_ (C_ (C_ Int)):=rV (a.take i) n++((hF n).take j).map λb=>(a[i]?.getD [])++[b]
def axS(a:C_ (C_ (C_ Int)))(n:Nat):qV a n 0 0=[]:=by simp[qV,rV]
def axQ{a:C_ (C_ (C_ Int))}{n i j:Nat}(h:i<a.length)(b:j<(hF n).length):qV a n i (j+1)=qV a n i j++[a[i]++[(hF n)[j]]]:=by
 unfold qV;rw[NZ b,AF8,<-VA,List.getElem?_eq_getElem h];rfl
def axR{a:C_ (C_ (C_ Int))}{n i j:Nat}(h:i<a.length)(b:(hF n).length<=j):qV a n (i+1) 0=qV a n i j:=by
 unfold qV;rw[Im b,NZ h,List.getElem?_eq_getElem h];simp only[rV,List.flatMap_append,List.flatMap_cons,List.flatMap_nil,List.take_zero,List.map_nil,List.append_nil,Option.getD_some]
def axO{a:C_ (C_ (C_ Int))}{n i:Nat}(h:a.length<=i):qV a n i 0=rV a n:=by
 unfold qV;rw[Im h];simp
def axP{a:C_ (C_ (C_ Int))}{n i j:Nat}(b:n<=4)(h:i<a.length)(e:j<=(hF n).length)(f:a.length<=24):(qV a n i j).length<=600:=by
 have c:∀i,i<=4->dA i<=24:=Ae
 have g:(hF n).length=dA n:=by simp[hF]
 have d:=c n b;unfold qV;rw[Jv,ahX,AG7,NU,NU]
 have:min i a.length*dA n<=24*24:=AI0 AW d
 omega
end o
namespace Go.Proofs.R
open Go Go.RowKit a8 o
attribute [local irreducible] hF mq qV dE
def ald(cs:C_ B_)(m:o.Model)(w:A_)(h:eu w cs m)(O:pD m.scalars):EG F.NN #[.agg cs.toArray] w λae g=>r8 (λa=>a<w.heap.size) g ae (dE m.scalars)/\Ext w g:=by
 obtain⟨dd,de,df,bg,dg,bj,dh,di,dj,dr,rfl,bB⟩:=h.form;refine bm E.NN ?_;refine aa ?_;intro dt du bC aF aG;refine aa ?_;intro aH aI dv af bE;have dw:=aF.size;have dx:=af.size;have ag:=aF.trans af;have bC:=ca aG;have bF:r8 (λa=>a<w.heap.size) aH (.slice (some ⟨aI,0,none⟩) 1 1) (mq m.scalars 0):=by
  rw[aaj];exact⟨[⟨[.slice none 0 0],rfl,by simp[Value.oneCell']⟩],rfl,λah aJ=>a4.b0 (enc:=iO) hs (aJ.obj (λe=>AW) bE) rfl (by simp[maxLen]) λ_ _ _ h=>h,λb P aK=>by
   obtain rfl:b=0:=by simp at P;omega
   exact⟨_,rfl,[],rfl,λah aJ=>(aR.nil iO T.a 1 0 ah).iw hs,λb h=>by cases h⟩⟩
 refine K_ 4 m.scalars.length [1] (λc:ef=>[(3,.slice c.1 c.2.1 c.2.2)]) (some ⟨aI,0,none⟩,1,1) (λa c g=>r8 (λa=>a<w.heap.size) g (.slice c.1 c.2.1 c.2.2) (mq m.scalars a)/\Ext aH g) aV aV ⟨bF,Ext.refl _⟩ ?_;rintro a ⟨bG,dz,bH⟩ aM bI A ⟨B,Q⟩;dsimp only at B;have aP:=ag.trans Q;have ai:=(af.trans Q).obj aG;have dB:=Q.size;obtain⟨dC,dF,bJ,_⟩:=B.A2.form;injection bJ with aj ag bK
 subst aj ag bK;refine aa ?_;refine I_ (λC=>?_) (λC=>?_);rotate_left
 .refine aa ?_;have aQ:mq m.scalars a=dE m.scalars:=als AW;have aS:=B;rw[aQ] at aS;exact⟨by rw[aQ];exact aS,aP⟩
 have ak:a<m.scalars.length:=AW
 have bL:=bB.1.ext aP;obtain⟨dG,rfl⟩:=bL.addr;have dJ:=O.2 _ (ID ak);obtain⟨bM,bN⟩:=aah O a AW;obtain⟨d,bO⟩:∃d,d=m.scalars[a].size.toNat:=⟨_,rfl⟩;have bP:m.scalars[a].size=(d:Int):=AW
 refine aa ?_;rw[bP];refine J_ (aw2 d bI AW AW) ?_;rintro al i ⟨aT,G⟩;have dK:=G.size;have aU:np (λa=>a<w.heap.size) i al (hF d):=eo.ahZ aT AW;have aW:r8 (λa=>a<w.heap.size) i (.slice bG (mq m.scalars a).length bH) (mq m.scalars a):=B.move (A:=λ_=>False) G.mod (λ_ _ e=>e.elim) λ_ _ e=>e;have S:=aU.N2;have an:=aW.A2;obtain⟨bR,dL,rfl,_⟩:=S.form;have bV:∀b,b<=4->dA b<=24:=Ae
 have dN:(hF d).length<=24:=by simpa[hF] using bV d AW
 have bW:(mq m.scalars a).length<=24:=T6 bM (by have:=O.1;have:a=0\/a=1:=AW;rcases this with v | v<;>simp[v]);clear aT B;refine aa ?_;refine K_ 7 (mq m.scalars a).length [1,3,4,5] (λc:ef=>[(6,.slice c.1 c.2.1 c.2.2)]) (none,0,0) (λb c g=>mP T.k w.heap.size i.heap.size g (.slice c.1 c.2.1 c.2.2) (qV (mq m.scalars a) d b 0)/\Ext i g) aV aV ⟨by rw[axS];exact mP.nil _ _ _ _,Ext.refl _⟩ ?_;rintro b ⟨aX,aY,a0⟩ aM dP l ⟨U,ao⟩;dsimp only at U;have bX:=(G.trans ao).obj ai;refine aa ?_;refine I_ (λC=>?_) (λC=>?_);rotate_left
 .have bY:b=(mq m.scalars a).length:=AW
  subst bY;refine aa ?_;refine⟨ak,aZ,(aX,aY,a0),aV,?_,(Q.trans G).trans ao⟩;rw[axO (Fy _)] at U;rw[aai ak,<-bO];exact mP.OM U AW
 have j:b<(mq m.scalars a).length:=AW
 obtain⟨bZ,rfl⟩:=an.addr (AK2 (AG2 _) j);refine aa ?_;refine K_ 8 (hF d).length [1,3,4,5,7] (λc:ef=>[(6,.slice c.1 c.2.1 c.2.2)]) (aX,aY,a0) (λf c g=>mP T.k w.heap.size i.heap.size g (.slice c.1 c.2.1 c.2.2) (qV (mq m.scalars a) d b f)/\Ext i g) aV aV ⟨U,ao⟩ ?_;rintro f ⟨aq,ar,au⟩ aM dQ dR ⟨av,p⟩;dsimp only at av;have b0:=(G.trans p).obj ai;refine aa ?_;refine I_ (λC=>?_) (λC=>?_);rotate_left
 .have b1:f=(hF d).length:=AW
  subst b1;refine aa ?_;refine⟨j,aZ,(aq,ar,au),aV,?_,p⟩;rw[axR j (Fy _)];exact av
 have q:f<(hF d).length:=AW
 have aw:∃e,bR=some e:=a4.addr S (AK2 (AG2 _) q);obtain⟨b3,aw⟩:=aw;subst aw;have b4:vk i (bZ.add (b*1)) ((mq m.scalars a)[b]'j):=a4.at an b j;have b5:oY i (b3.add (f*1)) ((hF d)[f]'q):=a4.at S f q;obtain⟨b6,r,H⟩:=b4;obtain⟨al,s,ax⟩:=b5;replace r:=p.cell r;replace s:=p.cell s;replace H:=kW p H;refine aa ?_;intro t x;replace r:=x.cell r;replace s:=x.cell s;replace H:=kW x H;replace ax:=ax.ext Flat.ext (p.trans x);have a2:=av.ext x;have I:=p.trans x;refine aa ?_;refine L_ r ?_;refine aa ?_;refine L_ s ?_;have b8:=aW.ex;obtain⟨b9,dS,cb,a5⟩:=b8;have cc:=a5 b AW j;obtain⟨a6,ch,cj⟩:=cc;have ck:=aU.ex;obtain⟨cm,dT,cp,a7⟩:=ck;have cq:=a7 f AW q;obtain⟨a9,cr,ct⟩:=cq;have cu:b6=a6:=by
  have:=a4.at cb.here b AW 0 a6 (by show(b9[b].1)[0]? = _;rw[ch];rfl)
  rw[add_zero] at this
  have:=I.cell this
  rw[r] at this;injection this
 subst cu;have cv:al=a9:=by
  have:=a4.at cp.here f AW 0 a9 (by show(cm[f].1)[0]? = _;rw[cr];rfl)
  rw[add_zero] at this
  have:=I.cell this
  rw[s] at this;injection this
 subst cv;have cw:=cj.ex;obtain⟨ba,az,cx,cB⟩:=cw;have V:=a4.ext Flat.ext I cx.here;have cC:=V.form;obtain⟨dV,dW,rfl,_⟩:=cC;have cD:=ax.form;obtain⟨bb,bf,rfl,_⟩:=cD;have dX:=bN _ (ID j);have dZ:=O.1;clear r s H S an b0 bX ai a7 a5;have ea:=I.size;refine aa ?_;refine⟨?HU,?UH⟩
 case' HU =>
  refine aa ?_;intro bk cF cI k J;have W:ng T.b 1 t.heap.size bk (.slice (some ⟨cF,0,none⟩) 0 0) []:=aR.empty cI J;refine⟨k,?_⟩;refine aa ?_;refine⟨?UI,?auq⟩
 case' UI =>
  refine aa ?_;refine _D (enc:=iO) W (a4.ext Flat.ext k V) hs rp (by simp only[List.length_nil];omega) (by simp only[List.length_nil];unfold maxLen;omega) k.size λbn X aA cJ=>?_;have fT:Ext t X:=k.grown cJ λb l=>(W.lt b l).1;rw[AH2] at aA;have cL:=aA.form;obtain⟨bo,bp,rfl,_⟩:=cL;refine⟨fT,?_⟩;refine aa ?_;intro Y Z br bt y;have n:=aA.ext bt;have u:=fT.trans bt;refine⟨u,?_⟩;refine aa ?_
 case' auq =>
  refine aa ?_;intro X Z br L ab;have fT:=k.trans L;refine⟨fT,?_⟩;refine aa ?_;refine _D (enc:=iO) (W.ext L) (a4.ext Flat.ext fT V) hs rp (by simp only[List.length_nil];omega) (by simp only[List.length_nil];unfold maxLen;omega) fT.size λbn Y n M=>?_;have u:Ext t Y:=fT.grown M λb l=>(W.lt b l).1;rw[AH2] at n;have cM:=n.form;obtain⟨bo,bp,rfl,_⟩:=cM;have y:=ab;rw[<-M.block Z (ca ab) (by intro v;simp only[Value.ownBlock,Option.some.injEq] at v;have:=ca J;omega)] at y;refine⟨u,?_⟩;refine aa ?_
 case' UH =>
  refine aa ?_;intro bk Z br k J;refine⟨k,?_⟩;refine aa ?_;intro X cN eb L ab;have eg:=k.size;have bu:ng T.b 1 t.heap.size X (.slice (some ⟨cN,0,none⟩) 0 0) []:=aR.empty AW ab;have fT:=k.trans L;refine⟨fT,?_⟩;refine aa ?_;refine _D (enc:=iO) bu (a4.ext Flat.ext fT V) hs rp (by simp only[List.length_nil];omega) (by simp only[List.length_nil];unfold maxLen;omega) fT.size λbn Y n M=>?_;have u:Ext t Y:=fT.grown M λb l=>(bu.lt b l).1;rw[AH2] at n;have cO:=n.form;obtain⟨bo,bp,rfl,_⟩:=cO;have y:=L.obj J;rw[<-M.block Z (ca y) (by intro v;simp only[Value.ownBlock,Option.some.injEq] at v;have:=ca J;omega)] at y;refine⟨u,?_⟩;refine aa ?_
 all_goals
  refine T_ (enc:=iO) (y:=(⟨[.slice bb (hF d)[f].length bf],rfl,by simp[Value.oneCell']⟩:hp 1)) n y rfl hs rp AW (by unfold maxLen;omega) u.size λcP cQ cS cT cU cW=>?_;have cX:Ext t cT:=u.grown cW λb l=>(n.lt b l).1;refine aa ?_;intro cY eh ek bw cZ;have aB:=cX.trans bw;have bx:=a2.ext aB;have bz:=cU.ext bw;have dO:=I.trans aB;have aC:∀a,qm (.slice aq ar au) w.heap.size a->a<t.heap.size/\(a<i.heap.size->a<w.heap.size):=λa A=>by
   rcases A with A | A
   .have:=a2.lt a A
    omega
   .omega
  have c1:np (qm (.slice aq ar au) w.heap.size) cY (.slice cP cQ cS) ((mq m.scalars a)[b]++[(hF d)[f]]):=by
   refine⟨_,by rw[Jv,Jv,az];rfl,λah c2=>(bz.mod c2 λz N e=>?_).iw hs,λaD P aK=>?_⟩
   .have:=bz.lt z N
    have:=aC z e
    omega
   .rw[Jv] at P aK;by_cases aE:aD<ba.length
    .obtain⟨ae,hu,c3⟩:=cB aD aE AW;exact⟨ae,by simpa[List.getElem_append,aE] using hu,by simpa[List.getElem_append,az ▸ aE] using c3.move (A:=λ_=>False) dO.mod (λ_ _ e=>e.elim) λz N e=>(aC z e).2 N⟩
    .have aj:aD=ba.length:=by simp at P;omega
     subst aj;exact⟨.slice bb (hF d)[f].length bf,Ah,by simpa[List.getElem_append,az] using ct.move (A:=λ_=>False) dO.mod (λ_ _ e=>e.elim) λz N e=>(aC z e).2 N⟩
  have en:=axP (n:=d) AW j (Nat.le_of_lt q) bW;have ep:=aB.size;refine aa ?_;refine K.Zz bx cZ c1 (by simp[Value.oneCell']) AW (by unfold maxLen;omega) AW AW λer ev bA c4=>?_;have c5:=bx.hN dO c4 (Fy _);have c9:=bA.form;obtain⟨db,dc,rfl,_⟩:=c9;refine aa ?_;refine⟨q,aZ,(db,_,dc),aV,?_,c5⟩;rw[axQ j q];exact bA
structure PW(w:World)(zs:List Value)(m:o.Model):Prop where
 ex:∃ys dI e1,zs=ys++[dI,e1]/\ys.length=13/\nR w ys m/\a4 6 (Flat o.Cell.enc) w dI (bD m)/\q5 w e1 (dE m.scalars)
def Pa:C_ B_:=[.slice none 0 0,.slice none 0 0,.slice none 0 0,.slice none 0 0,.slice none 0 0,.slice none 0 0,.slice none 0 0,.slice none 0 0,.int .i64 0,.slice none 0 0,.slice none 0 0,.slice none 0 0,.slice none 0 0,.slice none 0 0,.slice none 0 0]
def av4(cs:C_ B_)(m:o.Model)(w:A_)(h:eu w cs m)(k:m.cS) :
  EG F.Ea #[.agg cs.toArray] w λq r=>((¬(o.check m).bN=0/\q = .tuple #[.agg Wb.toArray,.bool false])\/((o.check m).bN=0/\∃s,q = .tuple #[.agg s.toArray,.bool true]/\gF (λd=>d<w.heap.size) (λe=>eu e cs m->nR e s m) r))/\Ext w r:=by
 have l:=h;obtain⟨X,Y,Z,bg,ab,bj,ae,af,ag,ah,rfl,_⟩:=h.form;refine bm E.Ea ?_;refine aa ?_;intro ai aj ak t c;refine aa ?_;intro L al an u a;have ao:=ca a;have aq:=t.size;replace c:=u.obj c;have v:=t.trans u;refine aa ?_;refine J_ (Vc _ m L (l.ext v) k) ?_;rintro _ ar ⟨rfl,f⟩;replace c:=f.obj c;replace a:=f.obj a;have x:=v.trans f;unfold zh;refine aa ?_;refine _d (v:=.I (o.check m).bN) rfl ?_;refine aa ?_;refine I_ (λb=>?_) (λb=>?_);rotate_left
 .refine aa ?_;intro y M au;refine aa ?_;exact⟨.inl ⟨b,aZ⟩,M.ext x AW⟩
 have z:=g6 b;refine aa ?_;intro y g;replace c:=g.obj c;replace a:=g.obj a;have A:=x.trans g;refine aa ?_;refine J_ (agE _ m y (l.ext A) k z) ?_;rintro _ N ⟨⟨ys,rfl,B⟩,i⟩;have C:=B.here;have G:=A.trans i;refine⟨i,?_⟩;refine aa ?_;refine J_ (agv _ ys m N (l.ext G) k z C) ?_;rintro _ av ⟨⟨aw,ax,rfl,H,I⟩,n⟩;have O:=G.trans n;replace a:=(i.trans n).obj a;obtain⟨az,aA,aB,aC,aD,aE,aF,aG,aH,aI,rfl,_⟩:=C.form;obtain⟨aJ,aK,rfl,_⟩:=H.form;obtain⟨aM,aP,rfl,_⟩:=I.form;have aQ:=g.size;have aS:=f.size;have P:=i.size;have aT:=ca a;refine aa ?_;intro Q j aU;have S:Ext w Q:=j.ext O AW;have U:=(B.ext n P).wr j AW;have J:=aR.wr j AW H;have K:=aR.wr j AW I;refine aa ?_;exact⟨.inr ⟨b,_,rfl,λe p V=>⟨_,_,_,_,rfl,V,(U.mono λaW _ aX=>AW) e p,aR.kF (enc:=c7.enc) (λ_=>rfl) (aR.mod J p λd b W=>by have:=(J.lt d b).1;omega),aR.kF (enc:=o.Ref.enc) (λ_=>rfl) (aR.mod K p λd b W=>by have:=(K.lt d b).1;omega)⟩⟩,S⟩
def auF(cs:C_ B_)(m:o.Model)(w:A_)(h:eu w cs m)(v:m.cS) :
  EG F.NM #[.agg cs.toArray] w λq x=>((¬(o.check m).bN=0/\q = .tuple #[.agg Pa.toArray,.bool false])\/((o.check m).bN=0/\∃r,q = .tuple #[.agg r.toArray,.bool true]/\PW x r m))/\Ext w x:=by
 have f:=h;obtain⟨ak,al,an,bg,ao,bj,aq,ar,au,av,rfl,_⟩:=h.form;refine bm E.NM ?_;refine aa ?_;intro aw ax az y b;refine aa ?_;intro K z aA A a;have L:=ca a;have aB:=y.size;replace b:=A.obj b;have s:=y.trans A;refine aa ?_;refine J_ (av4 _ m K (f.ext s) v) ?_;rintro q aC ⟨M,j⟩;replace b:=j.obj b;replace a:=j.obj a;have t:=s.trans j;rcases M with ⟨g,rfl⟩ | ⟨g,r,rfl,B⟩
 .unfold Wb;refine aa ?_;intro N O P c u;replace a:=c.obj a;refine V_ (cs:=Pa) rfl ?_;unfold Pa;refine aa ?_;intro k Q aD;refine aa ?_;exact⟨.inl ⟨g,aZ⟩,Q.ext (t.trans c) AW⟩
 .have S:=(B.here (f.ext t)).form;obtain⟨aE,aF,aG,aH,aI,aJ,aK,aM,aP,aQ,aS,aT,aU,aW,aX,aY,a0,a2,a5,a6,a7,a9,ba,bb,rfl,_⟩:=S;refine aa ?_;intro N O P c u;have U:=t.trans c;replace b:=c.obj b;replace a:=c.obj a;have V:=g6 g;refine aa ?_;intro k e;replace b:=e.obj b;replace a:=e.obj a;replace u:=e.obj u;have l:=U.trans e;refine aa ?_;refine J_ (agD _ m k (f.ext l) v V) ?_;rintro dI W ⟨X,n⟩;refine⟨n,?_⟩;refine aa ?_;refine J_ (ald _ m W (f.ext (l.trans n)) (ko g)) ?_;rintro Y C ⟨Z,G⟩;have hh:=n.trans G;have bf:=n.size;have H:aR o.Cell.enc T.tB 6 k.heap.size C dI (bD m):=X.ext G;have I:r8 (λi=>i<k.heap.size) C Y (dE m.scalars):=Z.move (A:=λ_=>False) (Mod.refl _ _) (λ_ _ d=>d.elim) λ_ _ d=>AW
  have ab:=H.form;obtain⟨bk,bn,rfl,_⟩:=ab;have ae:=I.A2.form;obtain⟨bo,bp,rfl,_⟩:=ae;replace a:=hh.obj a;refine⟨hh,?_⟩;refine aa ?_;intro af p br;have bt:=s.size;have bu:=l.size;have bw:=j.size;have bx:=(c.trans e).size;have J:=p.ext (l.trans hh) AW;have ag:=I.move (A:=λi=>i=z) (A':=λ_=>False) (p.mod rfl) (λ_ _ d=>AW) λ_ _ d=>d.elim;have ah:=aR.wr p AW H;have ai:=B af (Mod.comp (A:=λ_=>False) (A':=λi=>i=z) ((c.trans e).trans hh).mod (p.mod rfl) (λ_ _ d=>d.elim) λbz _ aj=>by subst aj;exact L) (f.ext J);refine aa ?_;exact⟨.inr ⟨g,_,rfl,_,_,_,rfl,rfl,ai,aR.kF (enc:=o.Cell.enc) (λ_=>rfl) ah,ag.A2⟩,J⟩
end Go.Proofs.R
namespace o
open Go
def En(m:Model)(p:Int):Int:=match m.procs[p.toNat]? with | some a=>a.over | none=>0
def HA(m:Model)(f:Int->Int->Int)(q:Nat):Nat:=match (insts m)[q]? with
 | some a=>(insts m).idxOf ⟨a.proc,f (En m a.proc) a.elem⟩
 | none=>q
def Jz(m:Model)(f:Int->Int->Int)(c:Nat):Nat:=match (bD m)[c]? with
 | some a=>if a.sort=1 then dU m a.jm.toNat+(f (match m.vars[a.jm.toNat]? with | some b=>b.over | none=>0) (a.place+1) - 1).toNat
  else if a.sort=3 then b7 m (HA m f a.jm.toNat)+a.place.toNat else c
 | none=>c
def asl(m:Model):(insts m).Nodup:=by
 refine(L5 (m:=m) m.procs 0).1.imp λ{c d} a b=>?_;subst b;exact absurd a (AK4 _)
theorem jK.g{m:Model}{f:Int->Int->Int}{q q' p:Nat}(h:jK m f q q' p):HA m f q=q':=by
 have b:(insts m)[q']'h.b.av=⟨((insts m)[q]'h.a.av).proc,f (En m ((insts m)[q]'h.a.av).proc) ((insts m)[q]'h.a.av).elem⟩:=by
  have c:=h.elem;have a:=h.a.eq;have d:=h.b.eq;have e:En m ((insts m)[q]'h.a.av).proc=(m.procs[p]'h.a.aC).over:=by
   unfold En;rw[a,AG4,List.getElem?_eq_getElem h.a.aC]
  rw[e,<-c,a,<-d]
 unfold HA;rw[List.getElem?_eq_getElem h.a.av];simp only;rw[<-b];exact(asl m).idxOf_getElem q' h.b.av
theorem gE.g{m:Model}{f:Int->Int->Int}{c b:Nat}(h:gE m f c b):Jz m f c=b:=by
 unfold Jz;cases h with
 | @var g d i h a e =>
  rw[sF h a];simp only[if_true,Int.toNat_natCast];rw[List.getElem?_eq_getElem h];simp only;rw[e];omega
 | chan h a=>rw[uQ h a];rfl
 | @inst j k l d h a =>
  rw[p0 h.a a];simp only[Int.toNat_natCast,h.g];rfl
def Fu(m:Model)(f b:Int->Int->Int)(s:C_ Int):C_ Int:=(List.range (cG m)).map λa=>fl f (pZ m a) (s.getD (Jz m b a) 0)
def ajr{m:Model}{f b:Int->Int->Int}(a:eN m.scalars f b){s:C_ Int}(d:s.length=cG m):fL m f s (Fu m f b s):=⟨d,by simp[Fu],λg h c=>by
 obtain⟨i,e⟩:=c.lt a;unfold Fu;rw[List.getElem?_map,List.getElem?_range e,AI3,(c.symm a).g,c.kind a,List.getD,List.getElem?_eq_getElem AW];rfl⟩
def hK(m:Model)(g:C_ (C_ Int))(s:C_ Int):C_ Int:=Fu m (gI g) (gI (l3 g)) s
def CT{m:Model}(a:(check m).bN=0){g:C_ (C_ Int)}(b:hi m.scalars g){s:C_ Int}(c:s.length=cG m):fL m (gI g) s (hK m g s):=ajr (b.qS (ko a)) c
def Fv{m:Model}(a:(check m).bN=0){g:C_ (C_ Int)}(b:hi m.scalars g){s t:C_ Int}(h:fL m (gI g) s t):t=hK m g s:=h.eq (g6 a) (b.qS (ko a)) (CT a b h.ls)
def ajt{m:Model}(e:(check m).bN=0){s:C_ Int}(f:s.length=cG m):hK m (BJ m.scalars) s=s:=by
 refine(Fv e (Hz _) ⟨f,f,λp g h=>?_⟩).symm;have v:=(Hz m.scalars).qS (ko e);rw[amh] at h ⊢;have b:g=p:=by
  cases h with
  | @var w i q a r j =>
   have j:(i:Int)+1=q+1:=j;omega
  | chan=>rfl
  | @inst c d x i a r =>
   have:c=d:=L4 a.a.av a.b.av (by
    have k:((insts m)[d]'a.b.av).elem=((insts m)[c]'a.a.av).elem:=a.elem;have l:=a.a.eq;have n:=a.b.eq;generalize (insts m)[c]'a.a.av=t at *;generalize (insts m)[d]'a.b.av=u at *;cases t;cases u;simp only at k l n;rw[k,l,n])
   rw[this]
 subst b
 have:fl (λ_ b=>b) (pZ m g)=id:=by
  funext y;unfold fl;split<;>rfl
 rw[this,Option.map_id];rfl
def PZ{m:Model}(a:(check m).bN=0){g h:C_ (C_ Int)}(b:hi m.scalars g)(c:hi m.scalars h){s:C_ Int}(f:s.length=cG m):hK m h (hK m g s)=hK m (x6 g h) s:=by
 have d:=CT a b f;have i:=CT a c d.lt;have e:=d.trans (b.qS (ko a)) (c.qS (ko a)) i;rw[<-ami b c] at e;exact Fv a (Ef b c) e
def Zi{m:Model}(a:(check m).bN=0){g:C_ (C_ Int)}(b:hi m.scalars g){s:C_ Int}(c:s.length=cG m):hK m (l3 g) (hK m g s)=s:=by
 have d:=CT a b c;exact(Fv a (xX b) (d.symm (b.qS (ko a)))).symm
def Jj(m:Model)(g:C_ (C_ Int))(s:C_ Int):(hK m g s).length=cG m:=by simp[hK,Fu]
def ajs{m:Model}(a:(check m).bN=0){g:C_ (C_ Int)}(b:hi m.scalars g){s:C_ Int}(c:Fits m s):Fits m (hK m g s):=(CT a b c.len).fits (g6 a) (b.qS (ko a)) c
def kk:C_ Int->C_ Int->Bool
 | _,[]=>false
 | [],_ :: _=>true
 | a :: c,b :: d=>if a=b then kk c d else decide (a<b)
theorem HM:∀a,kk a a=false
 | []=>rfl
 | a :: b=>by simp only[kk,if_true];exact HM b
theorem Uf:∀b c e,kk b c=true->kk c e=true->kk b e=true
 | b,c,[],_,a=>by cases c<;>simp[kk] at a
 | b,[],e,a,_=>by cases b<;>simp[kk] at a
 | [],_ :: _,_ :: _,_,_=>rfl
 | j :: b,h :: c,i :: e,a,d=>by
  simp only[kk] at a d ⊢;by_cases g:j=h
  .rw[if_pos g] at a;by_cases f:h=i
   .rw[if_pos f] at d;rw[if_pos (g.trans f)];exact Uf b c e a d
   .rw[if_neg f] at d;rw[if_neg AW,g];exact d
  .rw[if_neg g,decide_eq_true_eq] at a;by_cases f:h=i
   .rw[if_neg AW,decide_eq_true_eq];omega
   .rw[if_neg f,decide_eq_true_eq] at d;rw[if_neg AW,decide_eq_true_eq];omega
theorem Ue:∀b c,kk b c=false->kk c b=false->b=c
 | [],[],_,_=>rfl
 | [],_ :: _,a,_=>by cases a
 | _ :: _,[],_,a=>by cases a
 | f :: b,g :: c,a,e=>by
  simp only[kk] at a e;by_cases d:f=g
  .rw[if_pos d] at a;rw[if_pos d.symm] at e;rw[d,Ue b c a e]
  .rw[if_neg d,decide_eq_false_iff_not] at a;rw[if_neg (Ne.symm d),decide_eq_false_iff_not] at e;omega
def p1(a b:C_ Int):C_ Int:=if kk b a=true then b else a
def p2(a:C_ Int)(l:C_ (C_ Int)):C_ Int:=l.foldl p1 a
theorem Un:∀(b:C_ (C_ Int)) (a:C_ Int),p2 a b∈a :: b/\∀f∈a :: b,kk f (p2 a b)=false
 | [],a=>⟨AG3 ..,λf d=>by
  rw[AH0] at d;subst d;exact HM _⟩
 | c :: b,a=>by
  obtain⟨m,j⟩:=Un b (p1 a c);have n:p2 a (c :: b)=p2 (p1 a c) b:=rfl;rw[n];have p:=j _ (AG3 ..);refine⟨?_,λf d=>?_⟩
  .rcases List.mem_cons.1 m with e | e
   .rw[e];unfold p1;split
    .simp
    .simp
   .simp[e]
  .have key:∀h,kk h (p1 a c)=false->kk h (p2 (p1 a c) b)=false:=λh i=>by
    cases g:kk h (p2 (p1 a c) b) with
    | false=>rfl
    | true =>
     by_cases k:p1 a c=p2 (p1 a c) b
     .rw[<-k,i] at g;cases g
     .cases l:kk (p2 (p1 a c) b) (p1 a c) with
      | true=>rw[Uf _ _ _ g l] at i;cases i
      | false=>exact absurd (Ue _ _ p l) k
   simp only[List.mem_cons] at d;rcases d with rfl | rfl | d
   .refine key _ ?_;unfold p1;split
    .rename_i e;cases g:kk f c with
     | false=>rfl
     | true =>
      have:=Uf _ _ _ g e
      rw[HM] at this;cases this
    .exact HM _
   .refine key _ ?_;unfold p1;split
    .exact HM _
    .rename_i e;simpa using e
   .exact j f (AG6 _ d)
def atF{P:C_ Int->Prop}{a b:C_ Int}(d:P a)(e:P b)(f:∀c,P c->kk c a=false)(g:∀c,P c->kk c b=false):a=b:=Ue _ _ (g a d) (f b e)
def fj(m:Model)(s:C_ Int):C_ Int:=p2 s ((dE m.scalars).map λa=>hK m a s)
def Alike(m:Model)(s t:C_ Int):Prop := ∃a,hi m.scalars a/\t=hK m a s
def C1{m:Model}(e:(check m).bN=0){s:C_ Int}(g:s.length=cG m):Alike m s (fj m s)/\∀b,Alike m s b->kk b (fj m s)=false:=by
 have f:=ko e;obtain⟨h,i⟩:=Un ((dE m.scalars).map λa=>hK m a s) s;refine⟨?_,λb j=>?_⟩
 .rcases List.mem_cons.1 h with c | c
  .exact⟨BJ m.scalars,Hz _,by rw[ajt e g];exact c⟩
  .obtain⟨a,d,k⟩:=List.mem_map.1 c;exact⟨a,(uV f).1 d,k.symm⟩
 .obtain⟨a,d,rfl⟩:=j;exact i _ (AG6 _ (List.mem_map.2 ⟨a,(uV f).2 d,rfl⟩))
def Zv{m:Model}(c:(check m).bN=0){s:C_ Int}(e:s.length=cG m){g:C_ (C_ Int)}(a:hi m.scalars g){t:C_ Int}:Alike m (hK m g s) t↔Alike m s t:=by
 constructor
 .rintro⟨d,b,rfl⟩;exact⟨x6 g d,Ef a b,PZ c a b e⟩
 .rintro⟨d,b,rfl⟩;refine⟨x6 (l3 g) d,Ef (xX a) b,?_⟩;rw[<-PZ c (xX a) b (Jj ..),Zi c a e]
def akA{m:Model}(a:(check m).bN=0){s:C_ Int}(b:s.length=cG m){g:C_ (C_ Int)}(c:hi m.scalars g):fj m (hK m g s)=fj m s:=by
 obtain⟨d,e⟩:=C1 a b;obtain⟨f,h⟩:=C1 a (s:=hK m g s) (Jj ..);exact atF (P:=Alike m s) ((Zv a b c).1 f) d (λi j=>h i ((Zv a b c).2 j)) e
def Z4{m:Model}(a:(check m).bN=0){s:C_ Int}(b:Fits m s):Fits m (fj m s):=by
 obtain⟨⟨e,c,d⟩,_⟩:=C1 a b.len;rw[d];exact ajs a c b
def vx(m:Model)(s:C_ Int):C_ (C_ Int):=((dE m.scalars).find? λa=>decide (hK m a s=fj m s)).getD []
theorem Qz{m:Model}(a:(check m).bN=0){s:C_ Int}(d:s.length=cG m):hi m.scalars (vx m s)/\hK m (vx m s) s=fj m s:=by
 obtain⟨⟨b,e,f⟩,_⟩:=C1 a d;unfold vx;cases c:(dE m.scalars).find? λb=>decide (hK m b s=fj m s) with
 | none =>
  have:=List.find?_eq_none.1 c b ((uV (ko a)).2 e)
  simp[f] at this
 | some i =>
  have g:=List.mem_of_find?_eq_some c;have h:=List.find?_some c;exact⟨(uV (ko a)).1 g,by simpa using h⟩
end o
namespace Go.Proofs.R
open Go Go.RowKit a8 o
def FB(v:B_)(l:C_ Int)(n:Int)(w:A_)(a:q7 w v l):EG F.KN #[v,.I n] w λv b=>v = .tuple #[.I (gW l n).1,.I (gW l n).2]/\b=w:=by
 obtain⟨d,e,rfl,f⟩:=a.form;refine bm E.KN ?_;refine aN ?_;apply I_<;>intro c
 .refine aN ?_;rw[gW,hz (.inl c)];exact⟨rfl,trivial⟩
 refine aN ?_;apply I_<;>intro g
 .refine aN ?_;rw[gW,hz (.inr AW)];exact⟨rfl,trivial⟩
 obtain⟨h,rfl⟩:=T7 (show 0<=n by omega);obtain⟨i,rfl⟩:=a.addr;refine aN ?_;rw[gW,ir AW AW];simp only[Int.toNat_natCast];exact⟨aZ,trivial⟩
def ayG(l:C_ Int)(b:l.length<=9223372036854775807)(n:Int)(h:eA n):o.nth l (IntKind.i64.wrap (n - 1))=o.nth l (n - 1):=by
 obtain⟨c,d⟩:=h;by_cases a:n = -9223372036854775808
 .subst a
  have:IntKind.i64.wrap (-9223372036854775808 - 1)=9223372036854775807:=Ae
  rw[this,hz (.inr AW),hz (.inl AW)]
 .rw[IntWalk.i64_in (n - 1) AW]
def ayL(x:o.Node)(cs:C_ B_)(v:o.Env)(base b:Nat)(w:A_)(m:B_)(st:C_ Int)(P:x.ok)(h:q4 w cs v)(Q:r2 base b w m st)(S:x.op=3->0<st.length)(U:∀V∈st,eA V) :
  EG F.KL #[.pointer (some ⟨b,0,none⟩),.agg x.enc.toArray,.agg cs.toArray] w λW e=>W = .tuple #[.I (fm x v (st.getLastD 0)).1,.I (fm x v (st.getLastD 0)).2]/\Ext w e:=by
 obtain⟨au,av,aw,bg,ax,bj,az,aA,rfl,y,X,Y,z,aB,aC,aD,aE,aF⟩:=h.form;refine bm E.KL ?_;refine aN ?_;refine O_ λaG Z aH ab A=>?_;refine aN ?_;refine O_ λj aI aJ B aK=>?_;have c:=ab.trans B;have ae:j.heap[Z]? = some (.cells #[.I x.op,.I x.n] T.j):=B.obj A;clear A;refine aN ?_;apply I_<;>intro r
 .have g:fm x v (st.getLastD 0)=if o.within x.n then (x.n,0) else (0,10):=by rw[fm,if_pos r]
  have af:(o.tell (· + ·) x.n 0).2=o.within x.n:=by
   unfold o.tell
   have:o.within 0=true:=rfl
   simp only[Int.add_zero,this,Bool.and_true,Bool.and_self];split<;>simp_all
  rw[g];refine aN ?_;refine J_ (P4 x.n 0 j) ?_;rintro _ C ⟨rfl,G⟩;rw[af];refine aN ?_;refine N_ (λk=>?_) (λk=>?_)
  all_goals
   refine aN ?_;rw[k];exact cf
 by_cases aM:x.op=2\/x.op=3
 .have g:fm x v (st.getLastD 0)=(match o.nth v.vars x.n with | some p=>if x.op=2 then gW p 0 else (match o.nth p (st.getLastD 0 - 1) with | some l=>(l,0) | none=>(0,10)) | none=>(0,8)):=by
   rw[fm,if_neg r];split
   .rename_i d;cases o.nth v.vars x.n<;>simp[d]
   .rename_i d;rw[if_pos AW];cases o.nth v.vars x.n with
    | none=>rfl
    | some p=>simp only[d,if_false];cases o.nth p (st.getLastD 0 - 1)<;>rfl
  by_cases ag:x.n<0\/(v.vars.length:Int)<=x.n
  .rw[g,hz ag]
   (repeat' (refine aN ?_;first | (refine I_ (λ_=>?_) (λ_=>?_)<;>try (exfalso;omega)) | refine N_ (λ_=>?_) (λ_=>?_)))<;>try refine aN ?_
   all_goals exact cf
  obtain⟨a,i⟩:=T7 (show 0<=x.n by omega);have ah:a<v.vars.length:=AW
  obtain⟨ai,rfl⟩:=y.addr;obtain⟨aj,q,n⟩:=y.at a ah;have H:o.nth v.vars x.n=some v.vars[a]:=by rw[i,ir AW AW];simp only[Int.toNat_natCast]
  rw[i] at ae;by_cases k:x.op=2
  .have ak:fm x v (st.getLastD 0)=gW v.vars[a] 0:=by rw[g,H];simp only[k,if_true]
   rw[ak];refine aN ?_;refine L_ (c.cell q) ?_;refine aN ?_;refine J_ (FB _ v.vars[a] 0 j (n.ext c)) ?_;rintro _ _ ⟨rfl,rfl⟩;refine aN ?_;exact cf
  .have al:x.op=3:=AW
   have I:=S al;have J:fm x v (st.getLastD 0)=(match o.nth v.vars[a] (st.getLastD 0 - 1) with | some l=>(l,0) | none=>(0,10)):=by rw[g,H];simp only[k,if_false]
   rw[J];clear J g;refine aN ?_;refine L_ (c.cell q) ?_;refine aN ?_;refine P_ _ (λe d=>ah9 base b e m st (Q.ext (c.trans d)) I) ?_;refine aN ?_;refine _n ?_;refine aN ?_;refine P_ _ (λe d=>(FB _ v.vars[a] _ e (n.ext (c.trans d))).mono λ_ _ ⟨s,t⟩=>⟨s,t ▸ Ext.refl _⟩) ?_;refine aN ?_;intro C G;have an:eA (st.getLastD 0):=by rw[Gg _ I];exact U _ (ID _)
   obtain⟨aP,aQ,rfl,ao⟩:=n.form;have K:=ayG _ ao _ an;cases f:o.nth v.vars[a] (IntKind.i64.wrap (st.getLastD 0 - 1)) with
   | none =>
    have u:gW v.vars[a] (IntKind.i64.wrap (st.getLastD 0 - 1))=(0,8):=by rw[gW,f]
    rw[u];refine aN ?_;rw[<-K,f];exact cf
   | some l =>
    have u:gW v.vars[a] (IntKind.i64.wrap (st.getLastD 0 - 1))=(l,0):=by rw[gW,f]
    rw[u];refine aN ?_;rw[<-K,f];exact cf
 rw[fm,if_neg r,if_neg AW,if_neg AW];refine aN ?_;apply I_<;>intro L
 .rw[if_pos L];refine aN ?_;refine J_ (FB _ v.locals x.n j (Y.ext c)) ?_;rintro _ _ ⟨rfl,rfl⟩;refine aN ?_;exact cf
 rw[if_neg L];refine aN ?_;apply I_<;>intro M
 .rw[if_pos M];refine aN ?_;refine J_ (FB _ v.lens x.n j (X.ext c)) ?_;rintro _ _ ⟨rfl,rfl⟩;refine aN ?_;exact cf
 rw[if_neg M];refine aN ?_;apply I_<;>intro N
 .rw[if_pos N];refine aN ?_;exact cf
 rw[if_neg N];refine aN ?_;apply I_<;>intro O;rotate_left
 .rw[if_neg O];refine aN ?_;exact cf
 rw[if_pos O];refine aN ?_;apply I_<;>intro aS
 .refine aN ?_;rw[if_neg AW];exact cf
 rw[if_pos AW];obtain⟨a,i⟩:=T7 (show 0<=x.n by omega);obtain⟨_,aq⟩:=P.n;rw[i] at aq;have f:x.n.tdiv 16=((a / 16:Nat):Int):=by rw[i];rfl
 have aT:x.n.tmod 16=((a % 16:Nat):Int):=by rw[i];rfl
 refine aN ?_;refine _P AW ?_;rw[f];refine aN ?_;apply I_<;>intro aU
 .refine aN ?_;rw[hz (.inr AW)];exact cf
 have ar:a / 16<v.at_.length:=AW
 obtain⟨ai,rfl⟩:=z.addr;obtain⟨aj,q,n⟩:=z.at (a / 16) ar;rw[ir AW AW];simp only[Int.toNat_natCast];refine aN ?_;refine _P AW ?_;rw[f];refine aN ?_;refine L_ (c.cell q) ?_;refine aN ?_;refine _o AW ?_;refine aN ?_;refine P_ _ (λe d=>(FB _ v.at_[a / 16] _ e (n.ext (c.trans d))).mono λ_ _ ⟨s,t⟩=>⟨s,t ▸ Ext.refl _⟩) ?_;refine aN ?_;intro C G;refine aN ?_;exact cf
end Go.Proofs.R
namespace o
open Go Go.RowKit a8
structure Env.ok(v:Env):Prop where
 vars:∀l∈v.vars,∀z∈l,eA z
 lens:∀z∈v.lens,eA z
 locals:∀z∈v.locals,eA z
 at_:∀l∈v.at_,∀z∈l,eA z
 self:eA v.self
def ag3{w:A_}{v:B_}{l:C_ (C_ Int)}(h:wU w v l):∀a∈l,∀b∈a,eA b:=by
 intro a c;obtain⟨d,e,rfl⟩:=List.mem_iff_getElem.1 c;obtain⟨g,i,rfl,_⟩:=h.form;obtain⟨j,rfl⟩:=h.addr;obtain⟨k,_,f⟩:=h.at d e;exact f.ok
def q4.ok{w:A_}{cs:C_ B_}{v:Env}(h:q4 w cs v):v.ok:=by
 obtain⟨f,g,i,j,_,a,b,c,d,e⟩:=h.ex;exact⟨ag3 a,b.ok,c.ok,ag3 d,e⟩
def B2{α:Type}{l:C_ α}{n:Int}{x:α}(h:nth l n=some x):x∈l:=by
 unfold nth at h;split at h
 .exact List.mem_of_getElem? h
 .cases h
def L3:eA 0:=⟨Ae,Ae⟩
def ayT{n:Int}(h:within n=true):eA n:=by simp[within] at h;exact⟨AW,AW⟩
def ax4(f:Int->Int->Int)(a b:Int):eA (tell f a b).1:=by
 unfold tell;split
 .rename_i c;simp only[Bool.and_eq_true] at c;exact ayT c.2
 .exact L3
def akn(b:Bool):eA (bit b):=by cases b<;>exact⟨Ae,Ae⟩
def al0{x:Int}{c:pA}(h:gS x=some c)(a b:Int):eA (c.xa a b).1:=by
 unfold gS at h
 repeat' split at h
 all_goals first | (cases h;first | exact ax4 _ _ _ | exact akn _) | cases h
def OZ{l:C_ Int}{n:Int}(h:∀a∈l,eA a):eA (gW l n).1:=by
 unfold gW;split
 .rename_i b c;exact h b (B2 c)
 .exact L3
def am1{v:Env}(a:v.ok){x:Node}{st:C_ Int}(e:x.ok):eA (gk v x st).1:=by
 unfold gk;split
 .rename_i g f;unfold wH;simp only;split
  .exact al0 f _ _
  .exact L3
 .unfold fm
  (repeat' split)
  all_goals first
   | exact e.n
   | exact L3
   | exact a.self
   | exact OZ a.locals
   | exact OZ a.lens
   | (rename_i b;exact OZ (a.vars _ (B2 b)))
   | (rename_i b;exact OZ (a.at_ _ (B2 b)))
   | (rename_i c _ _ d;exact a.vars _ (B2 c) _ (B2 d))
   | (rename_i d;rename_i c;exact a.vars _ (B2 c) _ (B2 d))
end o
namespace Go.Proofs.R
open Go Go.RowKit a8 o
def ayN(a:pA)(d e:B_)(l:C_ Int)(w:A_)(b:nO w e l)(c:0<l.length)(i:yC w d a.xa) :
  EG F.KM #[.agg #[.I a.parts,.I a.iZ,.I a.makes,d],e] w λj f=>j = .tuple #[.I (wH a l).1,.I (wH a l).2]/\Ext w f:=by
 obtain⟨s,k,rfl,t⟩:=b.form;refine bm E.KM ?_;refine aN ?_;refine O_ λm u v g x=>?_;obtain⟨n,rfl⟩:=b.addr c;have y:nO m (.slice (some n) l.length k) l:=b.ext g;refine aN ?_;refine M_ (l.length - 1) AW AW ?_;refine aN ?_;refine AA3 _ (λf p=>AC2 (i.ext (g.trans p)) λz q=>⟨rfl,q⟩) ?_;have r:l[0]=l.headD 0:=by
  cases l with
  | nil=>simp at c
  | cons A l=>rfl
 rw[r,<-Gg l c];rw[wH];generalize a.xa (l.headD 0) (l.getLastD 0)=B;refine aN ?_;intro C G;refine aN ?_;refine N_ (λh=>?_) (λh=>?_)
 all_goals
  refine aN ?_;simp only[h,if_true,Bool.false_eq_true,if_false];exact cf
def amF(x:o.Node)(cs:C_ B_)(v:o.Env)(base b c d:Nat)(w:A_)(m:B_)(st:C_ Int)(f:F_)(g:x.ok)(h:q4 w cs v)(i:r2 base b w m st)(j:x.op=3->0<st.length)(k:∀l∈st,eA l)
  (u:w.heap[c]? = some (.cells #[.pointer (some ⟨b,0,none⟩)] f))(n:w.heap[d]? = some (.cells cs.toArray T.s)) :
  EG F.KK #[.agg x.enc.toArray,.pointer (some ⟨c,0,none⟩),.pointer (some ⟨d,0,none⟩)] w λp q =>
   p = .tuple #[.I (fm x v (st.getLastD 0)).1,.I (fm x v (st.getLastD 0)).2]/\Ext w q:=by
 obtain⟨y,z,A,B,rfl,_⟩:=h.ex;refine bm E.KK ?_;refine aN ?_;refine O_ λe r C a s=>?_;have t:e.heap[r]? = some (.cells x.enc.toArray T.j):=s;refine aN ?_;refine R_ (c:=x.enc) t (Ext.refl _) rfl ?_;refine aN ?_;refine R_ n a rfl ?_;refine aN ?_;refine J_ (ayL x _ v base b e m st g (h.ext a) (i.ext a) j k) ?_;rintro _ G ⟨rfl,H⟩;refine aN ?_;exact cf
def am2(v:o.Env):OL (gk v) wH λa b=>fm a v (b.getLastD 0):=λ_ _=>rfl
def amG(j:B_)(e:C_ o.Node)(cs:C_ B_)(v:o.Env)(w:A_)(H:fH w j e)(h:q4 w cs v) :
  EG F.gs #[j,.agg cs.toArray] w λk d=>k = .tuple #[.I (o.eval e v).1,.I (o.eval e v).2]/\Ext w d:=by
 have I:=h.ok;obtain⟨ai,aj,ak,al,rfl,_⟩:=h.ex;refine bm E.gs ?_;refine aN ?_;refine O_ λan t ao u x=>?_;refine aN ?_;refine V_ (cs:=[.slice none 0 0,.map none]) (by simp[gu]) ?_;refine aN ?_;refine O_ λJ l aq y z=>?_;refine aN ?_;refine O_ λar m K A B=>?_;refine aN ?_;refine _j B Ae rfl λf C G=>?_;have L:f.heap[m]? = some (.cells #[.pointer (some ⟨l,0,none⟩)] T.ns):=G;have n:Ext J f:=C.ext A K;have au:=ca z;have av:=ca x;have p:Ext w f:=(u.trans y).trans n;clear G C A B;have M:=n.obj z;have N:=n.obj (y.obj x);have aw:=u.size;refine aN ?_;refine J_ (ahf (gk v) wH (λa g=>fm a v (g.getLastD 0)) (am2 v) eA l w f p AW j _ _ e H M (λa g b _ _ _ _=>am1 I b) ?_ ?_) ?_
 .intro a g base O d b hm P Q ax az aA S U V i c;refine W_ (first:=[]) (cap:=[.pointer (some ⟨m,0,none⟩),.pointer (some ⟨t,0,none⟩)]) Cg
   (amF a _ v base l m t S O g _ b (h.ext ((hm.ext p (by intro W c e;omega)).trans i)) (P.ext i) ?_ Q (i.obj (hm.obj AW L)) (i.obj (hm.obj AW N))) λv q ⟨r,s⟩=>by subst r;exact c q s
  intro X
  have:ej a.op=1:=by rw[X];rfl
  omega
 .rintro Y aB Z ab d U V hm ⟨k,rfl,ae⟩ ⟨a,b⟩ aC af c;exact _u (first:=[]) (cap:=[]) Cg (ayN Y k Z ab d af (by have:=UD b;omega) ae) λv q ⟨r,s⟩=>by subst r;exact c q s
 rintro _ ag ⟨rfl,ah⟩;have aD:Ext w ag:=ah.ext p (by intro W c e;omega);refine aN ?_;exact cf
def Oj(v:B_)(l:C_ Int)(n:Int)(w:A_)(a:q7 w v l):EG F.MK #[v,.I n] w λv b=>v = .tuple #[.I (gW l n).1,.bool (decide ((gW l n).2=0))]/\Ext w b:=by
 obtain⟨d,e,rfl,f⟩:=a.form;refine bm E.MK ?_;refine aN ?_;apply I_<;>intro c
 .refine aN ?_;rw[gW,hz (.inl c)];exact cf
 refine aN ?_;apply I_<;>intro g
 .refine aN ?_;rw[gW,hz (.inr AW)];exact cf
 obtain⟨h,rfl⟩:=T7 (show 0<=n by omega);obtain⟨i,rfl⟩:=a.addr;refine aN ?_;rw[gW,ir AW AW];simp only[Int.toNat_natCast];exact cf
def ayF(l:C_ Int)(n:Int):(gW l n).2=0\/gW l n=(0,8):=by
 unfold gW;split
 .exact .inl rfl
 .exact .inr rfl
def Cr(b:Bool)(w:A_):EG F.MI #[.bool b] w λc d=>c = .I (o.bit b)/\d=w:=by
 refine bm E.MI ?_;refine aN ?_;refine N_ (λa=>?_) (λa=>?_)
 all_goals
  subst a;refine aN ?_;exact⟨rfl,trivial⟩
def Vt(n:Int)(w:A_):EG F.My #[.I n] w λa b=>a = .bool (o.within n)/\b=w:=by
 refine bm E.My ?_
 (repeat' (refine aN ?_;first | (refine I_ (λ_=>?_) (λ_=>?_)<;>try (exfalso;omega)) | refine N_ (λ_=>?_) (λ_=>?_)))<;>try refine aN ?_
 all_goals
  refine⟨?_,aZ⟩;congr 1
  first | (rw[AH4];simp[o.within];omega) | (simp[o.within];omega)
theorem VY(a b n:Int)(w:A_):EG F.Mx #[.I a,.I b,.I n] w
  λc d=>c = .tuple #[.I (if o.within a&&o.within b&&o.within n then n else 0),.bool (o.within a&&o.within b&&o.within n)]/\d=w:=by
 refine bm E.Mx ?_;refine aN ?_;refine J_ (Vt a w) ?_;rintro _ _ ⟨rfl,rfl⟩;refine aN ?_;cases e:o.within a with
 | false =>
  refine aN ?_;exact⟨Ah,trivial⟩
 | true =>
  refine aN ?_;refine J_ (Vt b _) ?_;rintro _ _ ⟨rfl,rfl⟩;refine aN ?_;cases f:o.within b with
  | false =>
   refine aN ?_;exact⟨Ah,trivial⟩
  | true =>
   refine aN ?_;refine J_ (Vt n _) ?_;rintro _ _ ⟨rfl,rfl⟩;refine aN ?_;cases g:o.within n with
   | false =>
    refine aN ?_;exact⟨Ah,trivial⟩
   | true =>
    refine aN ?_;exact⟨Ah,trivial⟩
theorem VZ(f:Int->Int->Int)(a b n:Int)(h:o.within a=true->o.within b=true->n=f a b) :
  (if (o.within a&&o.within b&&o.within n)=true then n else 0)=(o.tell f a b).1/\(o.within a&&o.within b&&o.within n)=(o.tell f a b).2:=by
 unfold o.tell;cases c:o.within a with
 | false=>simp
 | true =>
  cases d:o.within b with
  | false=>simp
  | true =>
   rw[h c d];cases e:o.within (f a b)<;>simp
def av9:vj F.Mu (o.tell (· + ·)):=by
 intro a b e;refine bm E.Mu ?_;refine aN ?_;refine _n ?_;refine aN ?_;refine J_ (VY a b _ e) ?_;rintro _ _ ⟨rfl,rfl⟩;obtain⟨c,d⟩:=VZ (· + ·) a b (IntKind.i64.wrap (a+b)) (λc d=>by simp[o.within] at c d;exact IntWalk.i64_in _ AW);rw[c,d];refine aN ?_;exact cf
def ag6:vj F.Mw (o.tell (· - ·)):=by
 intro a b e;refine bm E.Mw ?_;refine aN ?_;refine _n ?_;refine aN ?_;refine J_ (VY a b _ e) ?_;rintro _ _ ⟨rfl,rfl⟩;obtain⟨c,d⟩:=VZ (· - ·) a b (IntKind.i64.wrap (a - b)) (λc d=>by simp[o.within] at c d;exact IntWalk.i64_in _ AW);rw[c,d];refine aN ?_;exact cf
def awQ:vj F.Mv (o.tell (· * ·)):=by
 intro c d e;refine bm E.Mv ?_;refine aN ?_;refine _n ?_;refine aN ?_;refine J_ (VY c d _ e) ?_;rintro _ _ ⟨rfl,rfl⟩;obtain⟨a,b⟩:=VZ (· * ·) c d (IntKind.i64.wrap (c*d)) (λa b=>by simp[o.within] at a b;have:=aft a b;exact IntWalk.i64_in _ AW);rw[a,b];refine aN ?_;exact cf
def sS(op a b:Int):Int×Int:=match gS op with | some c=>wH c [a,b] | none=>(0,0)
def awf(op a b:Int)(w:A_)(m:11<=op/\op<=19) :
  EG F.ML #[.I op,.I a,.I b] w λj k=>j = .tuple #[.I (sS op a b).1,.I (sS op a b).2]/\Ext w k:=by
 have num:∀f:Int->Int->Int×Bool,(if (f a b).2=true then ((f a b).1,(0:Int)) else (0,10))=(let g:=f a b;if g.2=true then (g.1,0) else (0,10)):=λ_=>rfl;have l:op=11\/op=12\/op=13\/op=14\/op=15\/op=16\/op=17\/op=18\/op=19:=AW
 refine bm E.ML ?_;rcases l with e | e | e | e | e | e | e | e | e
 .have key:sS op a b=if (o.tell (· + ·) a b).2=true then ((o.tell (· + ·) a b).1,0) else (0,10):=by subst e;rfl
  rw[key];refine aN ?_;refine J_ (av9 a b w) ?_;rintro _ h ⟨rfl,i⟩;refine aN ?_;refine N_ (λc=>?_) (λc=>?_)
  all_goals
   refine aN ?_;rw[c];exact cf
 .have key:sS op a b=if (o.tell (· - ·) a b).2=true then ((o.tell (· - ·) a b).1,0) else (0,10):=by subst e;rfl
  rw[key];refine aN ?_;refine J_ (ag6 a b w) ?_;rintro _ h ⟨rfl,i⟩;refine aN ?_;refine N_ (λc=>?_) (λc=>?_)
  all_goals
   refine aN ?_;rw[c];exact cf
 .have key:sS op a b=if (o.tell (· * ·) a b).2=true then ((o.tell (· * ·) a b).1,0) else (0,10):=by subst e;rfl
  rw[key];refine aN ?_;refine J_ (awQ a b w) ?_;rintro _ h ⟨rfl,i⟩;refine aN ?_;refine N_ (λc=>?_) (λc=>?_)
  all_goals
   refine aN ?_;rw[c];exact cf
 .have key:sS op a b=(o.bit (decide (a=b)),0):=by subst e;rfl
  rw[key];refine aN ?_;refine J_ (Cr _ w) ?_;rintro _ _ ⟨rfl,rfl⟩;refine aN ?_;exact cf
 .have key:sS op a b=(o.bit (!decide (a=b)),0):=by subst e;rfl
  rw[key];refine aN ?_;refine J_ (Cr _ w) ?_;rintro _ _ ⟨rfl,rfl⟩;refine aN ?_;exact cf
 .have key:sS op a b=(o.bit (decide (a<b)),0):=by subst e;rfl
  rw[key];refine aN ?_;refine J_ (Cr _ w) ?_;rintro _ _ ⟨rfl,rfl⟩;refine aN ?_;exact cf
 .have key:sS op a b=(o.bit (decide (a<=b)),0):=by subst e;rfl
  rw[key];refine aN ?_;refine J_ (Cr _ w) ?_;rintro _ _ ⟨rfl,rfl⟩;refine aN ?_;exact cf
 .have key:sS op a b=(o.bit (!decide (a=0) && !decide (b=0)),0):=by subst e;rfl
  rw[key];refine aN ?_;refine I_ (λd=>?_) (λd=>?_)
  all_goals
   refine aN ?_;refine J_ (Cr _ w) ?_;rintro _ _ ⟨rfl,rfl⟩;refine aN ?_;refine⟨?_,fU⟩;simp[d]
 .have key:sS op a b=(o.bit (!decide (a=0) || !decide (b=0)),0):=by subst e;rfl
  rw[key];refine aN ?_;refine I_ (λd=>?_) (λd=>?_)
  all_goals
   refine aN ?_;refine J_ (Cr _ w) ?_;rintro _ _ ⟨rfl,rfl⟩;refine aN ?_;refine⟨?_,fU⟩;simp[d]
def O0(l:C_ Int)(n:Int):(decide ((gW l n).2=0)=true->gW l n=((gW l n).1,0))/\(decide ((gW l n).2=0)=false->gW l n=(0,8)):=by
 rcases ayF l n with a | a
 .exact⟨λ_=>Prod.ext rfl a,λb=>by simp[a] at b⟩
 .exact⟨λb=>by simp[a] at b,λ_=>a⟩
def axc(x:o.Node)(cs:C_ B_)(v:o.Env)(w:A_)(I:x.ok)(h:q4 w cs v)(k:x.op≠3)(t:Int) :
  EG F.MR #[.agg x.enc.toArray,.agg cs.toArray] w λJ n=>J = .tuple #[.I (fm x v t).1,.I (fm x v t).2]/\Ext w n:=by
 obtain⟨ae,af,ag,bg,ah,bj,ai,aj,rfl,A,K,L,B,ak,al,an,ao,aq⟩:=h.form;refine bm E.MR ?_;refine aN ?_;refine O_ λar M au N C=>?_;refine aN ?_;refine O_ λm av aw G ax=>?_;have i:=N.trans G;have O:m.heap[M]? = some (.cells #[.I x.op,.I x.n] T.j):=G.obj C;clear C;refine aN ?_;apply I_<;>intro d
 .have a:fm x v t=if o.within x.n then (x.n,0) else (0,10):=by rw[fm,if_pos d]
  (repeat' (refine aN ?_;first | (refine I_ (λ_=>?_) (λ_=>?_)<;>try (exfalso;omega)) | refine N_ (λ_=>?_) (λ_=>?_)))<;>try refine aN ?_
  all_goals
   refine⟨?_,fU⟩;rw[a];unfold o.within;split<;>first | rfl | (rename_i P;simp at P;exfalso;omega)
 refine aN ?_;apply I_<;>intro e
 .by_cases Q:x.n<0\/(v.vars.length:Int)<=x.n
  .have a:fm x v t=(0,8):=by rw[fm,if_neg d,if_pos e,hz Q]
   rw[a]
   (repeat' (refine aN ?_;first | (refine I_ (λ_=>?_) (λ_=>?_)<;>try (exfalso;omega)) | refine N_ (λ_=>?_) (λ_=>?_)))<;>try refine aN ?_
   all_goals exact cf
  obtain⟨c,j⟩:=T7 (show 0<=x.n by omega);have S:c<v.vars.length:=AW
  obtain⟨U,rfl⟩:=A.addr;obtain⟨V,p,q⟩:=A.at c S;have W:o.nth v.vars x.n=some v.vars[c]:=by rw[j,ir AW AW];simp only[Int.toNat_natCast]
  have a:fm x v t=gW v.vars[c] 0:=by rw[fm,if_neg d,if_pos e,W]
  rw[a];rw[j] at O;refine aN ?_;refine L_ (i.cell p) ?_;refine aN ?_;refine J_ (Oj _ v.vars[c] 0 m (q.ext i)) ?_;rintro _ r ⟨rfl,s⟩;obtain⟨f,g⟩:=O0 v.vars[c] 0;refine aN ?_;refine N_ (λb=>?_) (λb=>?_)
  .refine aN ?_;rw[f b];exact cf
  .refine aN ?_;rw[g b];exact cf
 refine aN ?_;apply I_<;>intro l
 .have a:fm x v t=gW v.locals x.n:=by rw[fm,if_neg d,if_neg e,if_neg k,if_pos l]
  rw[a];refine aN ?_;refine J_ (Oj _ v.locals x.n m (L.ext i)) ?_;rintro _ r ⟨rfl,s⟩;obtain⟨f,g⟩:=O0 v.locals x.n;refine aN ?_;refine N_ (λb=>?_) (λb=>?_)
  .refine aN ?_;rw[f b];exact cf
  .refine aN ?_;rw[g b];exact cf
 refine aN ?_;apply I_<;>intro u
 .have a:fm x v t=(v.self,0):=by rw[fm,if_neg d,if_neg e,if_neg k,if_neg l,if_neg AW,if_pos u]
  rw[a];refine aN ?_;exact cf
 refine aN ?_;apply I_<;>intro y
 .have a:fm x v t=gW v.lens x.n:=by rw[fm,if_neg d,if_neg e,if_neg k,if_neg l,if_pos y]
  rw[a];refine aN ?_;refine J_ (Oj _ v.lens x.n m (K.ext i)) ?_;rintro _ r ⟨rfl,s⟩;obtain⟨f,g⟩:=O0 v.lens x.n;refine aN ?_;refine N_ (λb=>?_) (λb=>?_)
  .refine aN ?_;rw[f b];exact cf
  .refine aN ?_;rw[g b];exact cf
 refine aN ?_;apply I_<;>intro H;rotate_left
 .have a:fm x v t=(0,0):=by rw[fm,if_neg d,if_neg e,if_neg k,if_neg l,if_neg y,if_neg u,if_neg H]
  rw[a];refine aN ?_;exact cf
 have a:fm x v t=if 0<=x.n then (match o.nth v.at_ (x.n.tdiv 16) with | some X=>gW X (x.n.tmod 16) | none=>(0,8)) else (0,8):=by
  rw[fm,if_neg d,if_neg e,if_neg k,if_neg l,if_neg y,if_neg u,if_pos H];split
  .cases o.nth v.at_ (x.n.tdiv 16)<;>rfl
  .rfl
 refine aN ?_;apply I_<;>intro az
 .rw[a,if_neg AW];refine aN ?_;exact cf
 rw[if_pos AW] at a;obtain⟨c,j⟩:=T7 (show 0<=x.n by omega);obtain⟨_,Y⟩:=I.n;rw[j] at Y;have z:x.n.tdiv 16=((c / 16:Nat):Int):=by rw[j];rfl
 have aA:x.n.tmod 16=((c % 16:Nat):Int):=by rw[j];rfl
 refine aN ?_;refine _P AW ?_;rw[z];refine aN ?_;apply I_<;>intro aB
 .rw[a,hz (.inr AW)];refine aN ?_;exact cf
 have Z:c / 16<v.at_.length:=AW
 obtain⟨U,rfl⟩:=B.addr;obtain⟨V,p,q⟩:=B.at (c / 16) Z;rw[z,ir AW AW] at a;simp only[Int.toNat_natCast] at a;rw[a];refine aN ?_;refine _P AW ?_;rw[z];refine aN ?_;refine L_ (i.cell p) ?_;refine aN ?_;refine _o AW ?_;refine aN ?_;refine P_ _ (λn ab=>Oj _ v.at_[c / 16] _ n (q.ext (i.trans ab))) ?_;obtain⟨f,g⟩:=O0 v.at_[c / 16] (x.n.tmod 16);refine aN ?_;intro r s;refine aN ?_;refine N_ (λb=>?_) (λb=>?_)
 .refine aN ?_;rw[f b];exact cf
 .refine aN ?_;rw[g b];exact cf
def u3(x:o.Node)(k:Int)(v:o.Env):Int×Int:=match gS x.op with | some a=>wH a [k] | none=>fm x v k
def awO(x:o.Node)(k:Int)(cs:C_ B_)(v:o.Env)(w:A_)(h:q4 w cs v)(J:x.op=3\/x.op=9\/x.op=10) :
  EG F.MM #[.agg x.enc.toArray,.I k,.agg cs.toArray] w λs t=>s = .tuple #[.I (u3 x k v).1,.I (u3 x k v).2]/\Ext w t:=by
 obtain⟨K,L,M,bg,N,bj,O,P,rfl,i,Q,S,U,V,W,X,Y,Z⟩:=h.form;refine bm E.MM ?_;refine aN ?_;refine O_ λab u ae y j=>?_;refine aN ?_;refine O_ λd af ag l ah=>?_;have c:=y.trans l;have z:d.heap[u]? = some (.cells #[.I x.op,.I x.n] T.j):=l.obj j;clear j;refine aN ?_;apply I_<;>intro A
 .have a:u3 x k v=(o.bit (decide (k=0)),0):=by rw[u3,A];rfl
  rw[a];refine aN ?_;refine J_ (Cr _ d) ?_;rintro _ _ ⟨rfl,rfl⟩;refine aN ?_;exact cf
 refine aN ?_;apply I_<;>intro B
 .have a:u3 x k v=if (o.tell (· - ·) 0 k).2=true then ((o.tell (· - ·) 0 k).1,0) else (0,10):=by rw[u3,B];rfl
  rw[a];refine aN ?_;refine J_ (ag6 0 k d) ?_;rintro _ ai ⟨rfl,aj⟩;refine aN ?_;refine N_ (λm=>?_) (λm=>?_)
  all_goals
   refine aN ?_;rw[m];exact cf
 have n:x.op=3:=AW
 have p:u3 x k v=fm x v k:=by rw[u3,show gS x.op=none from by rw[n];rfl]
 have a:u3 x k v=(match o.nth v.vars x.n with | some b=>(match o.nth b (k - 1) with | some C=>(C,0) | none=>(0,10)) | none=>(0,8)):=by
  rw[p,fm,if_neg AW,if_neg AW,if_pos n];cases o.nth v.vars x.n with
  | none=>rfl
  | some b=>simp only;cases o.nth b (k - 1)<;>rfl
 clear p;by_cases G:x.n<0\/(v.vars.length:Int)<=x.n
 .rw[hz G] at a;rw[a]
  (repeat' (refine aN ?_;first | (refine I_ (λ_=>?_) (λ_=>?_)<;>try (exfalso;omega)) | refine N_ (λ_=>?_) (λ_=>?_)))<;>try refine aN ?_
  all_goals exact cf
 obtain⟨e,q⟩:=T7 (show 0<=x.n by omega);have H:e<v.vars.length:=AW
 obtain⟨ak,rfl⟩:=i.addr;obtain⟨al,f,g⟩:=i.at e H;obtain⟨an,ao,rfl,aq⟩:=g.form;rw[q,ir AW AW] at a;simp only[Int.toNat_natCast] at a;rw[q] at z;have ar:=g.ext c;generalize v.vars[e]=b at *;by_cases au:k<1\/(b.length:Int)<k
 .rw[hz AW] at a;simp only at a;rw[a];by_cases av:k<1
  .refine aN ?_;exact cf
  .refine aN ?_;refine L_ (c.cell f) ?_;refine aN ?_;exact cf
 obtain⟨r,I⟩:=T7 (show 0<=k - 1 by omega);have aw:r<b.length:=AW
 rw[ir AW AW] at a;simp only[I,Int.toNat_natCast] at a;rw[a];obtain⟨ax,rfl⟩:=g.addr;refine aN ?_;refine L_ (c.cell f) ?_;refine aN ?_;refine L_ (c.cell f) ?_;refine aN ?_;refine M_ r AW AW ?_;refine aN ?_;exact cf
def amY{v:o.Env}{x:o.Node}{st:C_ Int}(h:ej x.op=0):gk v x st=fm x v (st.getLastD 0):=by
 unfold gk;rw[(N0 h).2.2.2]
theorem amZ{v:o.Env}{x:o.Node}{st:C_ Int}(h:ej x.op=1)(a:1<=st.length):gk v x st=u3 x st[st.length - 1] v:=by
 unfold gk u3;cases b:gS x.op with
 | none=>simp only;rw[Gg st AW]
 | some c =>
  have:=(B5 b).1
  simp only;rw[show c.parts.toNat=1 from AW,QN a]
def am0{v:o.Env}{x:o.Node}{st:C_ Int}(h:ej x.op=2)(a:2<=st.length):gk v x st=sS x.op st[st.length - 2] st[st.length - 1]:=by
 unfold gk sS;obtain⟨b,c,d⟩:=afN (show 9<=x.op/\x.op<=19 by have:=N1 h;omega);rw[c];simp only;rw[show b.parts.toNat=2 from AW,aaK a]
def Vd(P:B_)(e:C_ o.Node)(cs:C_ B_)(v:o.Env)(w:A_)(A:fH w P e)(h:q4 w cs v) :
  EG F.MF #[P,.agg cs.toArray] w λq j=>q = .tuple #[.I (o.eval e v).1,.I (o.eval e v).2]/\Ext w j:=by
 obtain⟨aJ,aK,aM,aP,rfl,_⟩:=h.ex;obtain⟨aQ,aS,rfl,aT⟩:=A.form;refine bm E.MF ?_;refine aN ?_;refine O_ λn aU aW Q ak=>?_;refine aN ?_;apply I_<;>intro aX
 .refine aN ?_;rw[o.eval,ma,if_pos AW];exact cf
 refine aN ?_;apply I_<;>intro aY
 .refine aN ?_;rw[o.eval,ma,if_neg AW,if_pos AW];exact cf
 refine aN ?_;refine _k 7 e.length (λb S j => ∃q a,S 6=q/\vo n.heap.size j q a/\e7 (gk v) (e.take b) []=(0,a)/\(0<b->1<=a.length)/\a.length<=12/\Ext n j)
  (by simp -dsimp only[c8,cA,Nat.reduceAdd,Nat.reduceEqDiff,reduceIte,reduceCtorEq,dq]) ⟨.slice none 0 0,[],by simp -dsimp only[c8,cA,Nat.reduceAdd,Nat.reduceEqDiff,reduceIte,reduceCtorEq,dq],aR.nil _ _ _ _ _,by simp[e7],Ah,Ah,Ext.refl _⟩ ?_
 rintro b S U B a0 d ⟨a2,a,f,C,r,al,a5,s⟩;have c:=B 0 rfl;have g:=B 3 rfl;simp only[bS,Nat.reduceAdd,Nat.reduceEqDiff,reduceIte,kK,oE] at c g;clear B;obtain⟨a6,a7,rfl,V,an⟩:=C.form;have G:nO U _ a:=aR.iw (enc:=nW) (sz:=1) (λ_=>rfl) C;unfold maxLen at an;refine eG (i_ c (i_ g (i_ f d))) ?_;apply I_<;>intro a9;rotate_left
 .have l:b=e.length:=AW
  subst l;rw[AG9] at r;have W:=al AW;obtain⟨ao,rfl⟩:=G.addr W;have X:o.eval e v=if a.length > 1 then (0,5) else (a.headD 0,0):=by
   rw[o.eval,ma,if_neg AW,if_neg AW,r,if_neg Ah]
  rw[X];clear X;refine eG (i_ c (i_ g (i_ f d))) ?_;apply I_<;>intro t
  .refine aN ?_;rw[if_pos AW];exact cf
  .refine eG (i_ c (i_ g (i_ f d))) ?_;refine M_ 0 rfl AW ?_;refine aN ?_;rw[if_neg AW]
   have:a.headD 0=a[0]:=by
    cases a with
    | nil=>simp at W
    | cons ba a=>rfl
   rw[this];exact cf
 have l:b<e.length:=AW
 obtain⟨ao,rfl⟩:=A.addr;have aq:=(A.at b l).ok;have m:=λc=>Vq (f:=gk v) (e:=e) AW l r c;have ar:=EB l r;have Y:=Q.trans s;have Z:=s.obj ak;refine eG (i_ c (i_ g (i_ f d))) ?_;refine J_ (ah4 e[b].op U) ?_;rintro _ _ ⟨rfl,rfl⟩;generalize u:ej e[b].op=H at *;have bb : -1<=H/\H<=2:=by rw[<-u];unfold ej; (repeat' split)<;>omega
 refine eG (i_ c (i_ g (i_ f d))) ?_;apply I_<;>intro t
 .have I:o.stepG (gk v) e[b] a=(3,a):=by unfold o.stepG;rw[u,if_pos t]
  rw[I] at m;refine aN ?_;rw[o.eval,m Ah];exact cf
 refine eG (i_ c (i_ g (i_ f d))) ?_;apply I_<;>intro ab
 .have I:o.stepG (gk v) e[b] a=(4,a):=by unfold o.stepG;rw[u,if_neg t,if_pos ab]
  rw[I] at m;refine aN ?_;rw[o.eval,m Ah];exact cf
 obtain⟨i,rfl⟩:=T7 (show 0<=H by omega);have k:o.stepG (gk v) e[b] a=if (gk v e[b] a).2≠0 then ((gk v e[b] a).2,a) else if (a.take (a.length - i)++[(gk v e[b] a).1]).length > 12 then (12,a) else (0,a.take (a.length - i)++[(gk v e[b] a).1]):=by
  unfold o.stepG;rw[u,if_neg t,if_neg ab];simp only[Int.toNat_natCast]
 have x:(a.take (a.length - i)++[(gk v e[b] a).1]).length=a.length - i+1:=by simp[List.length_take]
 rw[x] at k;have au:i=0\/i=1\/i=2:=AW
 rcases au with zH | zH | zH
 case' inl =>
  have p:=amY (v:=v) (st:=a) (x:=e[b]) AW;obtain⟨bf,bk,av,bn⟩:=N0 (x:=e[b].op) AW;refine eG (i_ c (i_ g (i_ f d))) ?_;refine R_ (c:=[_,_,_,_,_]) Z (Ext.refl _) rfl ?_;refine eG (i_ c (i_ g (i_ f d))) ?_;refine P_ _ (λj y=>axc e[b] _ v j aq (h.ext (Y.trans y)) av (a.getLastD 0)) ?_;rw[<-p];refine eG (i_ c (i_ g (i_ f d))) ?_
 case' inr.inl =>
  have p:=amZ (v:=v) (st:=a) (x:=e[b]) AW AW;obtain⟨aw,rfl⟩:=G.addr;refine eG (i_ c (i_ g (i_ f d))) ?_;refine M_ (a.length - 1) AW AW ?_;refine eG (i_ c (i_ g (i_ f d))) ?_;refine R_ (c:=[_,_,_,_,_]) Z (Ext.refl _) rfl ?_;refine eG (i_ c (i_ g (i_ f d))) ?_;refine P_ _ (λj y=>awO e[b] _ _ v j (h.ext (Y.trans y)) (afD AW)) ?_;rw[<-p];refine eG (i_ c (i_ g (i_ f d))) ?_
 case' inr.inr =>
  have p:=am0 (v:=v) (st:=a) (x:=e[b]) AW AW;obtain⟨aw,rfl⟩:=G.addr;refine eG (i_ c (i_ g (i_ f d))) ?_;refine M_ (a.length - 2) AW AW ?_;refine eG (i_ c (i_ g (i_ f d))) ?_;refine M_ (a.length - 1) AW AW ?_;refine eG (i_ c (i_ g (i_ f d))) ?_;refine P_ _ (λj y=>awf e[b].op _ _ j (N1 AW)) ?_;rw[<-p];refine eG (i_ c (i_ g (i_ f d))) ?_
 all_goals
  intro ax J;refine eG (i_ c (i_ g (i_ f d))) ?_;apply I_<;>intro K;rotate_left
  .rw[if_pos K] at k;refine aN ?_;rw[o.eval,m (by rw[k];exact K),k];exact cf
  rw[if_neg (by simpa using K)] at k;have az:=C.ext J;refine eG (i_ c (i_ g (i_ f d))) ?_;refine _E (cs:=[]) (by simp[List.range,List.range.loop,gu]) λae aA bo L aB=>?_;have bp:=s.size;have br:=J.size;have bt:=L.size;have aC:vo n.heap.size ae (.slice (some ⟨aA,0,none⟩) 0 0) []:=aR.empty AW aB;have aD:=az.ext L;have aE:vo n.heap.size ae (.slice _ (a.length - i) _) (a.take (a.length - i)):=aR.head (enc:=nW) (sz:=1) (xs:=a) (λ_=>rfl) aD (a.length - i) (Nat.sub_le _ _);have z:(a.take (a.length - i)).length=a.length - i:=by simp[List.length_take]
  refine eG (i_ c (i_ g (i_ f d))) ?_;refine _l (a.length - i) (by simp -dsimp only[c8,cA,Nat.reduceAdd,Nat.reduceEqDiff,reduceIte,reduceCtorEq,dq,f];first | rfl | (congr 1;omega)) AW ?_;refine aN ?_;refine AA0 (xs:=[]) (ys:=a.take (a.length - i)) aC aE (λ_=>rfl) J5 (by rw[z];simp only[List.length_nil];omega) (by rw[z];simp only[List.length_nil,maxLen];omega) AW λbu aF af aG=>?_;have ag:Ext ax aF:=L.grown aG λah M=>by simp[Value.ownBlock] at M;omega
  rw[AH2] at af;have bw:=ag.size;refine aN ?_;refine _E (cs:=[(gk v e[b] a).1].flatMap nW) (by simp[List.range,List.range.loop,gu,lay,dy,bS,Value.cells,nW]) λbx bz bA N V=>?_;have bB:=N.size;have ai:=af.ext N;refine aN ?_;refine _m (xs:=a.take (a.length - i)) (ys:=[(gk v e[b] a).1]) ai (λ_=>rfl) (gP V) rfl J5 (by rw[z];simp only[List.length_cons,List.length_nil];omega) (by rw[z];simp only[List.length_cons,List.length_nil,maxLen];omega) AW λbC aH O aI=>?_;have aj:Ext n aH:=Ext.grown (((s.trans J).trans ag).trans N) aI λah M=>(ai.lt ah M).1;obtain⟨bE,bF,rfl,_⟩:=O.form;rw[x] at O ⊢;by_cases bG:12<a.length - i+1
  .rw[if_pos AW] at k
   first
    | (exfalso;omega)
    | (refine aN ?_
       rw[o.eval,m (by rw[k];simp),k];exact⟨aZ,Q.trans aj⟩)
  rw[if_neg AW] at k;refine eG d ?_;refine⟨l,aZ,_,_,rfl,O,by rw[ar,k],λ_=>by rw[x];omega,by rw[x];omega,aj⟩
end Go.Proofs.R
namespace o
open Go
def anm{m:Model}(e:gm m){s:C_ Int}(b:Fits m s):∀a∈s,-9223372036854775808<=a/\a<=9223372036854775807:=λa f=>by
 obtain⟨c,g,rfl⟩:=List.mem_iff_getElem.1 f;have d:c<(bD m).length:=by have:=b.len;unfold cG at this;omega
 have i:=b.cell c g d;have h:=akM e _ (ID d);obtain⟨j,k,l⟩:=h;omega
structure Xa(v:Env):Prop where
 vars:∀l∈v.vars,∀x∈l,eA x
 lens:∀x∈v.lens,eA x
 locals:∀x∈v.locals,eA x
 at_:∀l∈v.at_,∀x∈l,eA x
 self:eA v.self
def QZ{m:Model}(g:gm m){s:C_ Int}(h:Fits m s){q:Nat}(e:q<(insts m).length):Xa (cd m s q):=by
 have f:=anm g h;have n:=(qM _ (ID e)).elem;have p:=asj g;refine⟨λi b c a=>?_,λc a=>?_,λc a=>?_,λi b c a=>?_,?_⟩
 .simp only[cd,List.mem_map] at b;obtain⟨d,_,rfl⟩:=b;exact f c (List.mem_of_mem_drop (AK6 a))
 .simp only[cd,List.mem_map] at a;obtain⟨d,_,rfl⟩:=a;rw[List.getElem!_eq_getElem?_getD];cases j:s[bT m d]? with
  | none=>simp[eA]
  | some k=>exact f k (List.mem_of_getElem? j)
 .rw[(ym s e rfl).1] at a;exact f c (List.mem_of_mem_drop (AK6 a))
 .simp only[cd,List.mem_map] at b;obtain⟨d,_,rfl⟩:=b;unfold ka at a;obtain⟨l,_,rfl⟩:=List.mem_map.1 a
  have:=Qb m s d l (insts m).length
  unfold eA;omega
 .rw[(ym s e rfl).2];unfold eA;omega
end o
namespace a8
open Go Go.RowKit
def _W{b n k:Nat}{c:C_ B_}{e:F_}{w:A_}{d:B_->Prop}{t}(cs:C_ B_)(f:w.heap[b]? = some (.cells c.toArray e))(g:(c.drop k).take n=cs)(h:cs.length=n)(i:d (.agg cs.toArray)):yK n (.pointer (some (Addr.add ⟨b,0,none⟩ k))) w d t:=by
 refine Y_ (cs:=cs) (λj l a=>?_) h i;subst g;rw[List.getElem?_take] at a;split at a
 .rw[List.getElem?_drop] at a;rw[add_add];exact gD f (by simpa using a)
 .cases a
end a8
namespace Go.Proofs.R
open Go Go.RowKit a8 o
def TQ{w:A_}{v:B_}{l:C_ Int}(h:cH w v l)(b:∀c∈l,eA c):q7 w v l:=by
 obtain⟨d,e,f,g,i,j,k⟩:=h.ex;exact⟨d,e,f,g,i,j,λm n p a=>⟨k m n p a,b _ (ID a)⟩⟩
def ag2{w:A_}{v:B_}{l:C_ (C_ Int)}(h:hB w v l)(b:∀c∈l,∀d∈c,eA d):wU w v l:=by
 obtain⟨e,f,g,i,j,k,m⟩:=h.ex;refine⟨e,f,g,i,j,k,λn p q a=>?_⟩;obtain⟨r,s,t⟩:=m n p q a;exact⟨r,s,TQ t (b _ (ID a))⟩
def QY{w:A_}{cs:C_ B_}{x:o.Env}(h:Pm w cs x)(a:Xa x):q4 w cs x:=by
 obtain⟨b,c,d,e,rfl,f,g,i,j⟩:=h.ex;exact⟨b,c,d,e,rfl,ag2 f a.vars,TQ g a.lens,TQ i a.locals,ag2 j a.at_,a.self⟩
def YT(base:Nat)(a:H_ (C_ Int))(b:B_)(w:A_):Prop :=
 (a=none/\b = .tuple #[.slice none 0 0,.bool false])\/(∃c d,a=some c/\b = .tuple #[d,.bool true]/\fe base w d c)
def av0(cs:C_ B_)(v aT aU:B_)(m:o.Model)(s:C_ Int)(q p:Nat)(a:o.Act)(w:A_)(h:nR w cs m)(bL:m.cS)(i:gm m)(A:cH w v s)(av:o.Fits m s)(M:hI m q p)
  (aW:fH w aT a.index)(aX:fH w aU a.value)(N:q3 (o.inner (m.procs[p]'(M.aC)) (fw m)) a) :
  EG F.NF #[.agg cs.toArray,v,.I q,.agg (a.enc aT aU).toArray] w λr aY=>YT w.heap.size (hq m s q a) r aY/\Ext w aY:=by
 have G:=h;obtain⟨bM,bN,bO,bP,bR,bV,bW,bX,bY,bZ,b0,b1,b3,bg,b4,bj,b5,b6,b8,b9,dc,dd,de,df,rfl,cb,cc,ak,dg,al,dh,di,a0,dj,a2,dr,dt,du⟩:=h.form;obtain⟨dv,dw,rfl,dx⟩:=A.form;obtain⟨dz,dB,rfl,dC⟩:=aW.form;obtain⟨dF,dG,rfl,dJ⟩:=aX.form;have dK:=N.kind;have B:=av.len;have dL:cG m<=64:=iq i;have ch:=i.g2;have a5:=M.av;have dN:=M.awW i;obtain⟨dP,dQ,dR⟩:=uR m;obtain⟨dS,a6⟩:=qK a5;have cj:=QZ i av a5;refine bm E.NF ?_;refine aa ?_;intro dT dV dW ck b;refine aa ?_;intro a7 dX dZ a9 c;replace b:=a9.obj b;have I:=ck.trans a9;unfold o.Act.enc at c;refine aa ?_;apply I_<;>intro ab
 .obtain⟨ae,an⟩:=N.chan (.inr ab);have j:a.to.toNat<m.ay.length:=an;have aw:a.to=(a.to.toNat:Nat):=AW
  rw[aw] at c;refine aa ?_;refine J_ (U8 _ _ m s a.to.toNat a7 (G.ext I) i (A.ext Flat.ext I) B j) ?_;rintro r ba ⟨af,O⟩;obtain⟨cm,cp,rfl,_⟩:=af.form;have bb:(o.chanOf m s a.to.toNat).length=1+gq m a.to.toNat:=pI (by rw[B];exact mn j);have bf:=Z0 i j;have ea:=mn j;obtain⟨eb,cq⟩:=N.recv ab;have eg:a.loc.toNat<(m.procs[p]'(M.aC)).vars.length:=cq;have eh:=M.room;have ax:hq m s q a=yb m s q a:=by unfold hq;rw[if_pos ab]
  rw[ax];unfold yb;replace b:=O.obj b;replace c:=O.obj c;have az:=I.trans O;refine aa ?_;refine J_ (aw4 _ _ ba af AW) ?_;rintro r bk ⟨t,C⟩;replace b:=C.obj b;replace c:=C.obj c;have W:=az.trans C;rcases t with ⟨u,rfl⟩ | ⟨ag,J,bn,x,rfl,ah⟩
  .refine aa ?_;exact⟨.inl ⟨by rw[u],aZ⟩,W⟩
  obtain⟨cr,ct,rfl,_⟩:=ah.form;have aA:=Iw x;rw[x];obtain⟨aB,rfl⟩:=al.addr;have bo:=al.ext Flat.ext W;refine aa ?_;intro aC n;replace b:=n.obj b;replace c:=n.obj c;replace bo:=bo.ext Flat.ext n;have k:=W.trans n;refine aa ?_;rw[a6];refine aa ?_;refine J_ (Vk _ _ _ m s ag a.to.toNat aC (G.ext k) i (A.ext Flat.ext k) ((gT ah).ext Flat.ext n) B j AW) ?_;rintro r P ⟨bp,e⟩;obtain⟨cu,cv,rfl,_⟩:=bp.form;have d:=k.trans e;have cw:(hY s (bT m a.to.toNat) ag).length=cG m:=by rw[BM AW];exact B
  refine⟨e,?_⟩;refine aa ?_;refine J_ (Oq _ _ m (hY s (bT m a.to.toNat) ag) (b7 m q+1+a.loc.toNat) _ J P (G.ext d) i (gT bp) cw AW AW) ?_;rintro r X ⟨t,f⟩;rcases t with ⟨u,rfl⟩ | ⟨Q,aD,cx,rfl,y⟩
  .refine aa ?_;exact⟨.inl ⟨u,aZ⟩,d.trans f⟩
  .obtain⟨aE,aF,rfl,_⟩:=y.form;refine aa ?_;exact⟨.inr ⟨Q,_,cx,rfl,aR.low d.size y⟩,d.trans f⟩
 .refine aa ?_;refine _W [.slice bM m.scalars.length bN,.slice bO m.vars.length bP,.slice bR m.ay.length bV,.slice bW m.procs.length bX,.slice bY m.props.length bZ] b rfl rfl ?_;refine aa ?_;refine _W [.slice b0 (o.layout m).vars.length b1,.slice b3 (o.layout m).ay.length bg,.slice b4 (o.layout m).insts.length bj,.I (o.layout m).cells,.slice b5 (o.layout m).aQ.length b6,.slice b8 (o.layout m).ab.length b9] b rfl rfl ?_;refine aa ?_;refine J_ (ag5 _ _ _ m s q a7 (cb.ext I) bL i (cc.ext I) (A.ext Flat.ext I) av AW AW) ?_;rintro _ ba ⟨⟨ek,rfl,cB⟩,O⟩;have br:=QY cB.here cj;have bt:=br;obtain⟨en,ae,ep,er,ev,ew,ey,ez,rfl,bu,eB,eD,eE,eH,_⟩:=br.form;replace b:=O.obj b;replace c:=O.obj c;have az:=I.trans O;refine aa ?_;intro bk eI eJ C ao;replace b:=C.obj b;replace c:=C.obj c;have W:=az.trans C;refine aa ?_;refine J_ (Vd _ a.value _ (cd m s q) bk (aX.ext W) (bt.ext C)) ?_;rintro _ aC ⟨rfl,n⟩;obtain⟨g,bw⟩:∃g,g=(o.eval a.value (cd m s q)).1:=⟨_,rfl⟩;obtain⟨bx,aG⟩:∃bx,bx=(o.eval a.value (cd m s q)).2:=⟨_,rfl⟩;rw[<-bw,<-aG];replace b:=n.obj b;replace c:=n.obj c;replace ao:=n.obj ao;have k:=W.trans n;have eK:=I.size;refine aa ?_;refine I_ (λaH=>?_) (λaH=>?_);rotate_left
  .refine aa ?_;refine⟨.inl ⟨?_,aZ⟩,k⟩;unfold hq;rw[if_neg ab,<-aG,if_pos aH]
  have ax:hq m s q a=if a.kind=1 then o.putAt m s (dU m a.to.toNat) g else if a.kind=2 then wi m s a (o.eval a.index (cd m s q)) g else if a.kind=3 then o.putAt m s (b7 m q+1+a.to.toNat) g else u9 m s a.to.toNat g:=by
   unfold hq;rw[if_neg ab,<-aG,if_neg (by simpa using aH),<-bw]
  rw[ax];have eM:=A.ext Flat.ext k;have eQ:=G.ext k;refine aa ?_;apply I_<;>intro z
  .obtain⟨ae,cC,an,cD⟩:=N.set z;have l:a.to.toNat<m.vars.length:=(List.getElem?_eq_some_iff.1 an).1;obtain⟨cF,aI⟩:=Al l;have eR:=ayt i l;have cI:=qZ l;have cJ:=nu m;have cL:=BU l;have eS:o.cells m.vars[a.to.toNat] m.scalars=1:=by
    have cM:m.vars[a.to.toNat]=cC:=(List.getElem?_eq_some_iff.1 an).2;rw[cM];unfold o.cells;rw[if_pos cD]
   obtain⟨aB,rfl⟩:=ak.addr;have bz:=ak.ext Flat.ext k;refine aa ?_;intro P e;replace b:=e.obj b;replace c:=e.obj c;replace bz:=bz.ext Flat.ext e;have d:=k.trans e;refine aa ?_;refine M_ a.to.toNat AW AW ?_;refine aa ?_;refine J_ (Oq _ _ m s (dU m a.to.toNat) _ g P (G.ext d) i (A.ext Flat.ext d) B (by rw[aI]) AW) ?_;rintro r X ⟨t,f⟩;rcases t with ⟨u,rfl⟩ | ⟨Q,aD,x,rfl,y⟩
   .refine aa ?_;exact⟨.inl ⟨by rw[if_pos z];exact u,aZ⟩,d.trans f⟩
   .obtain⟨aE,aF,rfl,_⟩:=y.form;refine aa ?_;exact⟨.inr ⟨Q,_,by rw[if_pos z];exact x,rfl,aR.low d.size y⟩,d.trans f⟩
  refine aa ?_;apply I_<;>intro H
  .obtain⟨ae,cN,eU⟩:=N.item H;have l:a.to.toNat<m.vars.length:=cN;obtain⟨cF,aI⟩:=Al l;have cI:=qZ l;have cJ:=nu m;have cL:=BU l;have bb:=sg m.vars[a.to.toNat] m.scalars;have cO:=Cj (s:=s) (inst:=(q:Int)) l;have eV:=OF m s q;obtain⟨cP,cQ⟩:=List.getElem?_eq_some_iff.1 cO;have aA:((cd m s q).vars[a.to.toNat]).length=zY m a.to.toNat:=by rw[cQ,NU,AG5];omega
   obtain⟨aB,rfl⟩:=ak.addr;obtain⟨eW,rfl⟩:=bu.addr;obtain⟨bn,bA,cS⟩:=bu.at a.to.toNat cP;obtain⟨eX,eY,rfl,_⟩:=cS.form;rw[aA] at bA;refine aa ?_;refine J_ (Vd _ a.index _ (cd m s q) aC (aW.ext k) (bt.ext (C.trans n))) ?_;rintro _ P ⟨rfl,e⟩;obtain⟨Y,bB⟩:∃Y,Y=(o.eval a.index (cd m s q)).1:=⟨_,rfl⟩;obtain⟨aJ,bC⟩:∃aJ,aJ=(o.eval a.index (cd m s q)).2:=⟨_,rfl⟩;have bE:∀g,wi m s a (o.eval a.index (cd m s q)) g=if aJ≠0\/Y<1\/(zY m a.to.toNat:Int)<Y then none else o.putAt m s (dU m a.to.toNat+Y.toNat - 1) g:=λg=>by unfold wi;rw[<-bB,<-bC]
   rw[bE,<-bB,<-bC];clear bE;replace b:=e.obj b;replace c:=e.obj c;replace ao:=e.obj ao;have d:=k.trans e;have cT:=((C.trans n).trans e).cell bA;refine aa ?_;refine I_ (λS=>?_) (λS=>?_);rotate_left
   .refine aa ?_;exact⟨.inl ⟨by rw[if_neg z,if_pos H,if_pos (.inl S)],aZ⟩,d⟩
   refine aa ?_;refine I_ (λaq=>?_) (λaq=>?_)
   .refine aa ?_;exact⟨.inl ⟨by rw[if_neg z,if_pos H,if_pos (.inr (.inl aq))],aZ⟩,d⟩
   refine aa ?_;refine M_ a.to.toNat AW AW ?_;refine aa ?_;refine L_ cT ?_;refine aa ?_;refine I_ (λcU=>?_) (λcU=>?_)
   .refine aa ?_;exact⟨.inl ⟨by rw[if_neg z,if_pos H,if_pos (.inr (.inr AW))],aZ⟩,d⟩
   have bF:=ak.ext Flat.ext d;refine aa ?_;intro X f;replace b:=f.obj b;replace c:=f.obj c;replace bF:=bF.ext Flat.ext f;have K:=d.trans f;refine aa ?_;refine M_ a.to.toNat AW AW ?_;refine aa ?_;refine J_ (Oq _ _ m s (dU m a.to.toNat+Y.toNat - 1) _ g X (G.ext K) i (A.ext Flat.ext K) B (by rw[aI];omega) AW) ?_;rintro r aK ⟨t,L⟩;rcases t with ⟨u,rfl⟩ | ⟨Q,aD,x,rfl,y⟩
   .refine aa ?_;exact⟨.inl ⟨by rw[if_neg z,if_pos H,if_neg AW];exact u,aZ⟩,K.trans L⟩
   .obtain⟨aE,aF,rfl,_⟩:=y.form;refine aa ?_;exact⟨.inr ⟨Q,_,by rw[if_neg z,if_pos H,if_neg AW];exact x,rfl,aR.low K.size y⟩,K.trans L⟩
  refine aa ?_;apply I_<;>intro ar
  .obtain⟨ae,l⟩:=N.loc ar;have j:a.to.toNat<(m.procs[p]'(M.aC)).vars.length:=l;have bf:=M.room;obtain⟨aB,rfl⟩:=al.addr;have bG:=al.ext Flat.ext k;refine aa ?_;intro P e;replace b:=e.obj b;replace c:=e.obj c;replace bG:=bG.ext Flat.ext e;have d:=k.trans e;refine aa ?_;rw[a6];refine aa ?_;refine J_ (Oq _ _ m s (b7 m q+1+a.to.toNat) _ g P (G.ext d) i (A.ext Flat.ext d) B AW AW) ?_;rintro r X ⟨t,f⟩;rcases t with ⟨u,rfl⟩ | ⟨Q,aD,x,rfl,y⟩
   .refine aa ?_;exact⟨.inl ⟨by rw[if_neg z,if_neg H,if_pos ar];exact u,aZ⟩,d.trans f⟩
   .obtain⟨aE,aF,rfl,_⟩:=y.form;refine aa ?_;exact⟨.inr ⟨Q,_,by rw[if_neg z,if_neg H,if_pos ar];exact x,rfl,aR.low d.size y⟩,d.trans f⟩
  have cW:a.kind=4:=AW
  rw[if_neg z,if_neg H,if_neg ar];obtain⟨ae,l⟩:=N.chan (.inl cW);have j:a.to.toNat<m.ay.length:=l;have bH:=i.chan _ (ID j);obtain⟨eZ,rfl⟩:=a2.addr;have cX:=((a2.at a.to.toNat j).cells).ext k;refine aa ?_;refine M_ a.to.toNat AW j ?_;refine eC ?_;intro P e0 e1 e aM;replace b:=e.obj b;replace c:=e.obj c;have d:=k.trans e;refine eC ?_;simp -dsimp only[cA];refine eC ?_;intro X f;replace b:=f.obj b;replace c:=f.obj c;replace aM:=f.obj aM;have K:=d.trans f;have e2:=Qy bH ch.1;have au:uf m a.to.toNat=dM m.ay[a.to.toNat].scalar m.ay[a.to.toNat].aQ m.ay[a.to.toNat].ab m.scalars:=by unfold uf;rw[List.getElem?_eq_getElem j]
  clear cX;unfold ed.enc at aM;refine eC ?_;refine S_ [1,4,7,14,18] (λJ:Int×Int=>[(19,.I J.1),(20,.I J.2)]) (λJ cY=>Ext X cY/\J.1=(uf m a.to.toNat).aQ/\J.2=(uf m a.to.toNat).ab) ?_ ?_
  .refine aa ?_;refine I_ (λS=>?_) (λS=>?_)
   .have U:=bH.fc.resolve_left AW;obtain⟨V,ai,e3,cZ⟩:∃(V:Nat) (ai:V<m.scalars.length),m.ay[a.to.toNat].scalar=(V:Int)+1/\o.size m.ay[a.to.toNat].scalar m.scalars=m.scalars[V].size:=by
     unfold o.size at U ⊢;cases aP:m.scalars[(m.ay[a.to.toNat].scalar - 1).toNat]? with
     | none=>rw[aP] at U;exact absurd rfl U
     | some J =>
      rw[aP] at U;obtain⟨ai,rfl⟩:=List.getElem?_eq_some_iff.1 aP;simp only at U ⊢;split at U
      .rename_i c1;exact⟨_,ai,AW,by rw[if_pos c1]⟩
      .exact absurd rfl U
    obtain⟨e6,rfl⟩:=a0.addr;have e8:=((a0.at V ai).cells).ext K;refine aa ?_;refine M_ V AW ai ?_;refine aa ?_;intro aK L;refine aa ?_;refine⟨(0,m.scalars[V].size),⟨rfl,rfl,trivial⟩,L,?_,?_⟩
    .rw[au];unfold dM;rw[if_neg AW]
    .rw[au];unfold dM;rw[if_neg AW];exact cZ.symm
   .refine aa ?_;refine⟨(m.ay[a.to.toNat].aQ,m.ay[a.to.toNat].ab),⟨rfl,rfl,trivial⟩,Ext.refl _,?_,?_⟩
    .rw[au];unfold dM;rw[if_pos AW]
    .rw[au];unfold dM;rw[if_pos AW]
  rintro⟨c2,c3⟩ e9 aK ⟨L,bI,bJ⟩;simp only at bI bJ;replace b:=L.obj b;replace c:=L.obj c;have Z:=K.trans L;have fc:=Z.size;rw[show u9 m s a.to.toNat g=if g<c2\/c3<g then none else (l8 (o.chanOf m s a.to.toNat) g).map (hY s (bT m a.to.toNat)) from by unfold u9;rw[<-bI,<-bJ]];refine aa ?_;refine I_ (λS=>?_) (λS=>?_)
  .refine aa ?_;exact⟨.inl ⟨by rw[if_pos (.inl S)],aZ⟩,Z⟩
  refine aa ?_;refine I_ (λaq=>?_) (λaq=>?_)
  .refine aa ?_;exact⟨.inl ⟨by rw[if_pos (.inr AW)],aZ⟩,Z⟩
  rw[if_neg AW];have aw:a.to=(a.to.toNat:Nat):=AW
  rw[aw] at c;have bb:(o.chanOf m s a.to.toNat).length=1+gq m a.to.toNat:=pI (by rw[B];exact mn j);have bf:=Z0 i j;refine aa ?_;refine J_ (U8 _ _ m s a.to.toNat aK (G.ext Z) i (A.ext Flat.ext Z) B j) ?_;rintro r c4 ⟨af,aQ⟩;obtain⟨cm,cp,rfl,_⟩:=af.form;replace b:=aQ.obj b;replace c:=aQ.obj c;have c5:=Z.trans aQ;refine aa ?_;refine J_ (aw3 _ _ g c4 af AW) ?_;rintro r c9 ⟨t,aS⟩;replace b:=aS.obj b;replace c:=aS.obj c;have aj:=c5.trans aS;rcases t with ⟨u,rfl⟩ | ⟨ag,bn,x,rfl,ah⟩
  .refine aa ?_;exact⟨.inl ⟨by rw[u];rfl,aZ⟩,aj⟩
  .obtain⟨cr,ct,rfl,_⟩:=ah.form;have aA:=H5 x;refine aa ?_;refine J_ (Vk _ _ _ m s ag a.to.toNat c9 (G.ext aj) i (A.ext Flat.ext aj) (gT ah) B j AW) ?_;rintro r ff ⟨bK,db⟩;obtain⟨cu,cv,rfl,_⟩:=bK.form;refine aa ?_;exact⟨.inr ⟨_,_,by rw[x];rfl,rfl,aR.low aj.size bK⟩,aj.trans db⟩
end Go.Proofs.R
namespace o
open Go
def P2(m:Model)(q:Nat)(l:C_ Act)(s:C_ Int){k:Nat}(a:k<l.length):jo m q (l.take (k+1)) s=match jo m q (l.take k) s with | none=>none | some b=>hq m b q l[k]:=by
 rw[NZ a,Zk]<;>rfl
theorem P1(m:Model)(q:Nat):∀(c:C_ Act) (b:C_ Int) (d:Nat),jo m q (c.take d) b=none->jo m q c b=none
 | [],b,d,a=>by simp[jo] at a
 | e :: c,b,0,a=>by simp[jo] at a
 | e :: c,b,d+1,a=>by
  simp only[List.take_succ_cons,jo] at a ⊢;cases f:hq m b q e with
  | none=>rfl
  | some g=>rw[f] at a;exact P1 m q c g d a
end o
namespace Go.Proofs.R
open Go Go.RowKit a8 o
def av6(cs:C_ B_)(v:B_)(m:o.Model)(s:C_ Int)(ref:Int)(q p k:Nat)(w:A_)(h:nR w cs m)(ae:m.cS)(r:cH w v s)(C:o.Fits m s)(l:gi m ref q p k) :
  EG F.NJ #[.agg cs.toArray,v,.I ref] w λO af=>YT w.heap.size (hr m s q (cR m p k)) O af/\Ext w af:=by
 have ag:=h;have u:=g6 l.ok;obtain⟨aW,aX,aY,a0,a2,a5,a6,a7,a9,ba,bb,bf,bk,bg,b4,bj,bn,bo,bp,br,b5,b6,b8,b9,rfl,bt,bu,cb,cc,P,ch,cj,ck,cm,cp,cq,cr,ah⟩:=h.form;obtain⟨ct,bw,rfl,cu⟩:=r.form;have G:=l.inst;have Q:=l.cin;have bx:=Q.g2;have ai:=G.av;have cv:=C.len;have cw:cG m<=64:=iq u;have cx:=G.room;obtain⟨x,rfl⟩:=T7 l.aQ;have cB:x<(o.refs m).length:=l.ab;have bz:(o.refs m)[x].inst=(q:Int):=l.at_.rS;have bA:(o.refs m)[x].cmd=(k:Int):=l.at_.sO;obtain⟨cC,aj⟩:=qK ai;obtain⟨cD,rfl⟩:=ah.addr;obtain⟨bB,rfl⟩:=P.addr;obtain⟨bC,rfl⟩:=r.addr;have bE:=QZ u C ai;obtain⟨a,ak⟩:∃a,a=cR m p k:=⟨_,rfl⟩;rw[<-ak] at Q bx ⊢;refine bm E.NJ ?_;refine aa ?_;intro cF cI cJ al b;have bF:=ah.ext Flat.ext al;refine aa ?_;intro bG cL cM an d;have bH:(o.refs m)[x].enc=[.I q,.I k]:=by unfold o.Ref.enc;rw[bz,bA]
 rw[bH] at d;replace b:=an.obj b;have ao:=al.trans an;clear bF;refine aa ?_;refine J_ (U7 _ m x q p k bG (ag.ext ao) l) ?_;rintro _ cN ⟨⟨cO,cP,rfl,H,I⟩,y⟩;rw[<-ak] at H I ⊢;obtain⟨cQ,cS,rfl,_⟩:=H.form;obtain⟨cT,cU,rfl,_⟩:=I.form;replace b:=y.obj b;replace d:=y.obj d;have bI:=ao.trans y;unfold et.enc;refine aa ?_;intro cW cX cY z e;replace b:=z.obj b;replace d:=z.obj d;have S:=bI.trans z;have bJ:=r.ext Flat.ext S;have bK:=P.ext Flat.ext S;have aq:=H.ext (y.trans z);have ar:=I.ext (y.trans z);clear H I;refine aa ?_;refine M_ (b7 m q) (by rw[aj]) AW ?_;refine aa ?_;intro au t;replace b:=t.obj b;replace d:=t.obj d;replace e:=t.obj e;have A:=S.trans t;have bL:=aq.ext t;have av:=ar.ext t;have aw:s[b7 m q]? = some (s[b7 m q]' AW):=List.getElem?_eq_getElem AW;clear aq ar bJ bK;refine eC ?_;apply I_<;>intro ax;rotate_left
 .refine aa ?_;exact⟨.inl ⟨by unfold hr;rw[aw,if_pos (by simpa using ax)],aZ⟩,A⟩
 have B:hr m s q a=if 0<a.guard.length/\((o.eval a.guard (cd m s q)).2≠0\/(o.eval a.guard (cd m s q)).1=0) then none else (jo m q a.b6 s).map λj=>j.set (b7 m q) a.to:=by
  unfold hr;rw[aw,if_neg (by simpa using ax)]
 have bM:=b;have bN:=d;have az:=e;refine eC ?_;refine S_ [1,3,8,9] (λ_:Unit=>[]) (λ_ J=>Ext au J/\¬(0<a.guard.length/\((o.eval a.guard (cd m s q)).2≠0\/(o.eval a.guard (cd m s q)).1=0))) ?_ ?_
 .refine aa ?_;apply I_<;>intro bO;rotate_left
  .refine aa ?_;exact⟨(),trivial,Ext.refl _,λaA=>AW⟩
  have cZ:=r.ext Flat.ext A;refine aa ?_;intro aB f;replace b:=f.obj b;replace d:=f.obj d;replace e:=f.obj e;have K:=A.trans f;refine aa ?_;refine _W [.slice aW m.scalars.length aX,.slice aY m.vars.length a0,.slice a2 m.ay.length a5,.slice a6 m.procs.length a7,.slice a9 m.props.length ba] b rfl rfl ?_;refine aa ?_;refine _W [.slice bb (o.layout m).vars.length bf,.slice bk (o.layout m).ay.length bg,.slice (some bB) (o.layout m).insts.length bj,.I (o.layout m).cells,.slice bn (o.layout m).aQ.length bo,.slice bp (o.layout m).ab.length br] b rfl rfl ?_;refine aa ?_;refine J_ (ag5 _ _ _ m s q aB (bt.ext K) ae u (bu.ext K) (r.ext Flat.ext K) C AW AW) ?_;rintro _ aC ⟨⟨c1,rfl,aD⟩,g⟩;have bP:=QY aD.here bE;refine⟨g,?_⟩;refine aa ?_;refine J_ (Vd _ a.guard _ (cd m s q) aC (bL.ext (f.trans g)) bP) ?_;rintro _ U ⟨rfl,c⟩;obtain⟨i,aE⟩:∃i,i=(o.eval a.guard (cd m s q)).1:=⟨_,rfl⟩;obtain⟨aF,aG⟩:∃aF,aF=(o.eval a.guard (cd m s q)).2:=⟨_,rfl⟩;rw[<-aE,<-aG];rw[<-aE,<-aG] at B;have n:=(K.trans g).trans c;refine aa ?_;refine I_ (λV=>?_) (λV=>?_);rotate_left
  .refine aa ?_;exact⟨.inl ⟨by rw[B,if_pos ⟨AW,.inl V⟩],aZ⟩,n⟩
  refine aa ?_;refine I_ (λW=>?_) (λW=>?_)
  .refine aa ?_;exact⟨.inl ⟨by rw[B,if_pos ⟨AW,.inr W⟩],aZ⟩,n⟩
  .refine aa ?_;exact⟨(),trivial,(f.trans g).trans c,λaA=>by rcases aA.2 with h | h;exact h V;exact W h⟩
 clear b d e;rintro _ c2 aB ⟨f,aH⟩;have aI:hr m s q a=(jo m q a.b6 s).map λj=>j.set (b7 m q) a.to:=by rw[B,if_neg aH]
 rw[aI];clear B aH aI;have e:=f.obj az;refine aa ?_;refine K_ 13 a.b6.length [1,3,8,9] (λv:ef=>[(12,.slice v.1 v.2.1 v.2.2)]) (some bC,s.length,bw) (λi v J=>Ext au J/\∃j,jo m q (a.b6.take i) s=some j/\cH J (.slice v.1 v.2.1 v.2.2) j/\o.Fits m j) aV aV ⟨f,s,rfl,r.ext Flat.ext (A.trans f),C⟩ ?_;clear e f;rintro i bR c3 aC aD ⟨g,j,X,Y,Z⟩;have b:=g.obj bM;have d:=g.obj bN;have e:=g.obj az;have bV:=av.ext g;have ab:=A.trans g;refine aa ?_;apply I_<;>intro bO
 .have L:i<a.b6.length:=AW
  obtain⟨c4,rfl⟩:=av.addr;obtain⟨c5,c9,aJ,aK,aM⟩:=bV.at i L;have aP:=Q.act i L;obtain⟨db,dc,rfl,_⟩:=aK.form;obtain⟨dd,de,rfl,_⟩:=aM.form;refine aa ?_;intro U c;replace b:=c.obj b;replace d:=c.obj d;replace e:=c.obj e;replace aJ:=aJ.ext c;have n:=ab.trans c;refine aa ?_;refine J_ (av0 _ _ _ _ m j q p a.b6[i] U (ag.ext n) ae u (Y.ext Flat.ext c) Z G (aK.ext c) (aM.ext c) aP) ?_;rintro O bW ⟨bX,M⟩;have N:=P2 m q a.b6 s L;rw[X] at N;simp only at N;rcases bX with ⟨bY,rfl⟩ | ⟨bZ,df,aQ,rfl,aS⟩
  .refine aa ?_;exact⟨.inl ⟨by rw[P1 m q a.b6 s (i+1) (N.trans bY)];rfl,aZ⟩,n.trans M⟩
  .obtain⟨b0,b1,rfl,_⟩:=aS.form;refine aa ?_;exact⟨L,aZ,(b0,_,b1),⟨rfl,trivial⟩,(g.trans c).trans M,bZ,N.trans aQ,gT aS,P0 u G aP Z aQ⟩
 .have b3:i=a.b6.length:=AW
  subst b3;rw[AG9] at X;rw[X];obtain⟨dg,dh,dI⟩:=bR;obtain⟨_,_,di,_⟩:=Y.form;have dj:=Z.len;have aT:=P.ext Flat.ext ab;refine aa ?_;intro U c;replace b:=c.obj b;replace d:=c.obj d;replace e:=c.obj e;replace aT:=aT.ext Flat.ext c;have n:=ab.trans c;refine aa ?_;refine J_ (agA _ j (b7 m q) a.to _ (Y.ext Flat.ext c) (by rw[aj]) AW AW) ?_;rintro O bW ⟨aU,M⟩;obtain⟨dr,dt,rfl,_⟩:=aU.form;refine aa ?_;exact⟨.inr ⟨_,_,rfl,rfl,aR.low n.size aU⟩,n.trans M⟩
end Go.Proofs.R