/- Parts. -/
import Derived.Test.YtakmdjclehkglaaGreatDoorQawp
import Derived.Test.YtakmdjclehkglaaGreatDoorQawq
set_option linter.all false
set_option maxRecDepth 8000
set_option maxHeartbeats 32000000
section
namespace Go.Proofs.R
open Go Go.RowKit a7
def ug(w:A_)(cs:C_ B_)(x:o.jk):Prop := ∃v,cs=[.int .i64 x.cmd,.int .i64 x.way,v]/\dc w v x.to
def yZ(w:A_)(a:Addr)(x:o.jk):Prop := ∃v,e7 w a [.int .i64 x.cmd,.int .i64 x.way,v]/\dc w v x.to
instance avp:Rel yZ ug 3 where
 out h:=by
  obtain⟨v,h1,I⟩:=h;exact⟨_,h1,v,rfl,I⟩
 om h k:=by
  obtain⟨v,rfl,k⟩:=k;exact⟨v,h,k⟩
 len h:=by obtain⟨v,rfl,_⟩:=h;rfl
 one h:=by obtain⟨v,rfl,h⟩:=h;simpa[Value.oneCell'] using h.one
 ext e h:=let ⟨v,h1,I⟩:=h; ⟨v,h1,I.ext Flat.ext e⟩
theorem yZ.ext{w w':A_}{a:Addr}{x:o.jk}(he:Ext w w')(h:yZ w a x):yZ w' a x :=
 let ⟨v,h1,I⟩:=h; ⟨v,h1.ext he,I.ext Flat.ext he⟩
abbrev p1(w:A_)(v:B_)(l:C_ o.jk):Prop:=bg 3 yZ w v l
theorem aqc(cs:C_ B_)(v:B_)(m:o.Model)(s:C_ Int)(w:A_)(h:pq w cs m)(aH:m.cA)(hk:(o.check m).cC=0)(ak:dc w v s)(av:o.Fits m s) :
  Dz F.Lb #[.agg cs.toArray,v] w fun u w'=>p1 w' u (o.gh m s)/\Ext w w':=by
 have ek:=h;have aS:=o.iu hk;have cM:=aS.lim;have iI:=o.tU cM;obtain⟨eB,d0,dB,d1,ec,d2,er,d3,eN,d4,L9,g0,S1,g1,AE,g2,adX,g3,AF,g4,b9,ci,fm,gd,rfl,_,_,_,_,_,_,_,_,_,I,_⟩:=ek.form;obtain⟨os,r2,rfl,FI⟩:=ak.form;refine bl E.Lb ?_;refine J ?_;intro w1 bP db ah au;refine J ?_;refine L_ 6 (o.refs m).length [1,2] (fun v:gr=>[(5,.slice v.1 v.2.1 v.2.2)]) (none,0,0) (fun k v W=>Ext w1 W/\eI ug T.j 3 w1.heap.size W (.slice v.1 v.2.1 v.2.2) (o.jQ m s k)) a8 a8 ⟨Ext.refl _,eI.nil _ _ _ _ _⟩ ?_;rintro k v S aB aV ⟨aj,dj⟩;have e2:=ah.trans aj;have zG:=aj.obj au;have ic:=o.RB m s k;obtain⟨abZ,co,Qm,_⟩:=dj.form;refine J ?_;refine I_ (fun jP=>?_) (fun jP=>?_)
 .have zQ:k<(o.refs m).length:=Aw
  obtain⟨q,p,kt,bq⟩:=o.oO (m:=m) (ref:=k) ⟨hk,Aw,Aw⟩;refine J ?_;refine J_ (acC _ _ m s k q p kt aB (ek.ext e2) aH (ak.ext Flat.ext e2) av bq) ?_;rintro u aK ⟨bN,ag⟩;have aj7:=ag.obj zG;have a1:=e2.trans ag;rcases bN with ⟨fg,rfl⟩ | ⟨t,jV,hW,rfl,kr⟩
  .refine J ?_;exact⟨zQ,aL,v,⟨rfl,trivial⟩,aj.trans ag,by rw[o.FM,bq.off fg,AF2];exact dj.ext ag⟩
  obtain⟨ry,uv,rfl,_⟩:=kr.form;have aou:=jz kr;have E2:=aP.new (enc:=cE) (fun _=>rfl) kr;have dG:=dj.ext ag;have z2:=aj.size;have z3:=ag.size;refine J ?_;intro aR cx e3 aw bf;have dz:=dG.ext aw;have z4:=aw.size;refine _I (x:=(⟨k,0,t⟩:o.jk)) (cs:=[.I k,.I 0,.slice ry t.length uv]) dz (gN bf)
   (((ed.own (w1:=aK) E2 dj Aw).imp fun w h=>⟨_,rfl,h⟩).ext aw fun i U hk=>by have:=dj.under Aw i hk;omega) rfl (by simp[Value.oneCell']) Aw (by unfold maxLen;omega) Aw fun bS bo tu gT=>?_
  have yX:=dz.k2 ((aj.trans ag).trans aw) gT (Gf _);have bF:=ah.trans yX;have aly:=(E2.ext aw Aw).grown gT fun k hk=>(dj.lt k hk).2;have z5:=yX.size;have YQ:=yX.obj au;obtain⟨aoE,afZ,rfl,_⟩:=tu.form;have aov:=aly.here;have z25:aB.heap.size<=bo.heap.size:=by have:=gT.size;omega
  clear zG aj7 bf dz dG E2 gT kr aou;refine J ?_;intro bt aI;have aut:=aI.obj YQ;have cg:=bF.trans aI;refine J ?_;refine J_ (F4 _ m k q p kt bt (ek.ext cg) bq) ?_;rintro _ bG ⟨⟨e6,dn,rfl,hv,fW⟩,bm⟩;have c8:=cg.trans bm;refine⟨bm,?_⟩;refine J ?_;refine J_ (adh _ _ _ _ m.ar bG (fW.ext bm) (I.ext c8)) ?_;rintro _ cQ ⟨rfl,bA⟩;have eY:=c8.trans bA;have AU:=(aI.trans bm).trans bA;have aj8:=AU.obj YQ;have aaa:=tu.ext AU;obtain⟨ael,Fl⟩:∃x,x=o.ways (o.bx m p kt) m.ar:=⟨_,rfl⟩;rw[<-Fl];refine J ?_;refine I_ (fun hJ=>?_) (fun hJ=>?_);rotate_left
  .refine J ?_;exact⟨zQ,aL,(aoE,_,afZ),⟨rfl,trivial⟩,yX.trans AU,by rw[o.FM,bq.RQ hW Aw];exact aaa⟩
  have nD:o.ways (o.bx m p kt) m.ar=2:=Aw
  obtain⟨j,aC,kK⟩:=o.Gx nD;have b4:=o.N1 bq av hW;have dv:(o.chanOf m s j).length=1+o.fH m j:=o.n0 (by rw[av.len];exact o.kX kK);refine J ?_;refine J_ (F4 _ m k q p kt cQ (ek.ext eY) bq) ?_;rintro _ cS ⟨⟨e6,dn,rfl,hv,fW⟩,bT⟩;have jq:=eY.trans bT;have qi:=bT.obj aj8;refine J ?_;refine J_ (Se _ _ _ cS (fW.ext bT)) ?_;rintro _ eG ⟨rfl,ch⟩;have jo:=jq.trans ch;have aj6:=ch.obj qi;rw[aC];refine J ?_;intro fN eg;have aus:=eg.obj aj6;have te:=jo.trans eg;refine J ?_;refine J_ (LH _ _ m s j fN (ek.ext te) aS (ak.ext Flat.ext te) av.len kK) ?_;rintro u h2 ⟨hu,ev⟩;obtain⟨u6,tc,rfl,_⟩:=hu.form;have q1:=te.trans ev;have GQ:=((bT.trans ch).trans eg).trans ev;refine⟨ev,?_⟩;refine J ?_;refine J_ (LJ _ _ _ m t (o.chanOf m s j) j h2 (ek.ext q1) aS (aov.ext Flat.ext (AU.trans GQ)) hu b4 kK dv) ?_;rintro u l5 ⟨zV,hd⟩;obtain⟨Ao,zl,rfl,_⟩:=zV.form;have alx:=aP.new (enc:=cE) (fun _=>rfl) zV;have zZ:=aaa.ext GQ;have as9:=hd.size;have z12:=(AU.trans GQ).size;refine J ?_;intro vh s3 BW k7 oa;have awy:=k7.size;have JC:=zZ.ext (hd.trans k7);have auN:(o.jQ m s k++[(⟨k,0,t⟩:o.jk)]).length<=2*k+1:=by rw[Lk];simp only[List.length_cons,List.length_nil];omega
  have hf:o.lost m s t (o.bx m p kt)=o.hi t (o.b6 m j) (o.chanOf m s j):=by unfold o.lost;rw[aC,AF4]
  refine _I (x:=(⟨k,1,o.hi t (o.b6 m j) (o.chanOf m s j)⟩:o.jk)) (cs:=[.I k,.I 1,.slice Ao (o.hi t (o.b6 m j) (o.chanOf m s j)).length zl]) JC (gN oa)
   (((ed.own (w1:=l5) alx zZ Aw).imp fun w h=>⟨_,rfl,h⟩).ext k7 fun i U hk=>by have:=zZ.under Aw i hk;omega) rfl (by simp[Value.oneCell']) Aw (by unfold maxLen;omega) Aw fun bS Mi Z8 akV=>?_
  have aeC:=JC.k2 (((yX.trans (AU.trans GQ)).trans hd).trans k7) akV (Gf _);obtain⟨qF,s7,rfl,_⟩:=Z8.form;have ami:o.jQ m s (k+1)=o.jQ m s k++[(⟨k,0,t⟩:o.jk)]++[(⟨k,1,o.hi t (o.b6 m j) (o.chanOf m s j)⟩:o.jk)]:=by rw[o.FM,bq.abY hW nD,hf,Wi];rfl
  refine J ?_;exact⟨zQ,aL,(qF,_,s7),⟨rfl,trivial⟩,aeC,by rw[ami];exact Z8⟩
 .have jw:k=(o.refs m).length:=Aw
  subst jw;obtain⟨ep,yD,fp⟩:=v;cases Qm;refine J ?_;refine I_ (fun hJ=>?_) (fun hJ=>?_)
  .have zU:o.jQ m s (o.refs m).length=[]:=AG1 Aw;have mT:o.gh m s=o.jQ m s (o.refs m).length++[⟨-1,0,s⟩]:=by unfold o.gh;rw[zU];rfl
   replace dj:eI ug T.j 3 w1.heap.size aB (.slice ep (o.jQ m s (o.refs m).length).length fp) (o.jQ m s (o.refs m).length):=dj;have ET:(o.jQ m s (o.refs m).length).length=0:=by rw[zU];rfl
   have dX:=ak.ext Flat.ext e2;have z2:=aj.size;refine J ?_;intro aK bR e9 ag bh;have dG:iz aB.heap.size aK (.slice (some ⟨bR,0,none⟩) 0 0) []:=aP.empty e9 bh;have z3:=ag.size;have ko:o.c6 m<=64:=o.iL aS;have lv:=av.len;refine J ?_;refine _q dG (dX.ext Flat.ext ag) (fun _=>rfl) lQ (by simp only[List.length_nil];omega) (by simp only[List.length_nil];unfold maxLen;omega) ag.size fun v4 aR dz nA=>?_;have dW:Ext aB aR:=ag.grown nA fun i U=>(dG.lt i U).1;rw[AF9] at dz;obtain⟨gK,AF,rfl,_⟩:=dz.form;have Qk:=aP.new (enc:=cE) (fun _=>rfl) dz;have Qw:=dj.ext dW;have z4:=dW.size;refine J ?_;intro bo dE kI aF bY;have tu:=Qw.ext aF;have z5:=aF.size;refine _I (x:=(⟨-1,0,s⟩:o.jk)) (cs:=[.I (-1),.I 0,.slice gK s.length AF]) tu (gN bY)
    (((ed.own (w1:=aR) Qk dj Aw).imp fun w h=>⟨_,rfl,h⟩).ext aF fun i U hk=>by have:=dj.under Aw i hk;omega) rfl (by simp[Value.oneCell']) Aw (by unfold maxLen;omega) Aw fun bS bt tv iq=>?_
   have MJ:=tu.k2 ((aj.trans dW).trans aF) iq (Gf _);obtain⟨qF,s7,rfl,_⟩:=tv.form;refine J ?_;exact⟨by rw[mT];exact tv.jg,ah.trans MJ⟩
  .have mT:o.gh m s=o.jQ m s (o.refs m).length:=by
    unfold o.gh;split
    .rename_i ax;rw[ax] at hJ;simp at hJ
    .rfl
   refine J ?_;exact⟨by rw[mT];exact dj.jg,e2⟩
theorem aqb(cs:C_ B_)(v:B_)(m:o.Model)(s:C_ Int)(w:A_)(h:o.dU w cs m)(aH:m.cA)(ak:dc w v s)(bD:o.hB m s) :
  Dz F.K8 #[.agg cs.toArray,v] w fun u w'=>p1 w' u (o.gh m s)/\Ext w w':=by
 have cX:=h;obtain⟨bW,bu,bI,c1,bO,c2,bQ,bp,bZ,bB,rfl,_⟩:=h.form;obtain⟨os,r2,rfl,FI⟩:=ak.form;have aS:=o.iu bD.1;refine bl E.K8 ?_;refine J ?_;intro w1 cx e3 ah bf;refine J ?_;refine J_ (acA _ m w1 (cX.ext ah) aH) ?_;rintro _ aB ⟨hO,aj⟩;replace bf:=aj.obj bf;have e2:=ah.trans aj;rcases hO with ⟨hk,rfl⟩ | ⟨hk,zs,rfl,ek⟩
 .exact absurd bD.1 hk
 have Eo:=ek;obtain⟨eB,d0,dB,d1,ec,d2,er,d3,eN,d4,L9,g0,S1,g1,AE,g2,adX,g3,AF,g4,b9,ci,fm,gd,rfl,_⟩:=ek.form;refine J ?_;intro aK qY wb ag gu;have IY:=Eo.ext ag;have a1:=e2.trans ag;refine J ?_;refine J_ (acB _ _ m s aK IY aS (ak.ext Flat.ext a1)) ?_;rintro _ bo ⟨⟨t,rfl,aA⟩,aF⟩;obtain rfl:=aA.2 bD.2;replace gu:=aF.obj gu;have IZ:=IY.ext aF;have bF:=a1.trans aF;refine J ?_;refine J_ (aqc _ _ m s bo IZ aH hk (ak.ext Flat.ext bF) bD.2) ?_;rintro _ bt ⟨pE,aI⟩;obtain⟨abZ,co,rfl,_⟩:=pE.form;refine J ?_;exact⟨pE,bF.trans aI⟩
end Go.Proofs.R
end
section
namespace o
open Go
def jK(m:Model)(s:C_ Int)(q:Nat)(c:dr):C_ (C_ Int):=match fA m s q c with
 | none=>[]
 | some t=>t :: if ways c m.ar=2 then [lost m s t c] else []
theorem ahy(m:Model)(s:C_ Int)(q:Nat)(c:dr):(jK m s q c).length<=2:=by
 unfold jK;cases fA m s q c with
 | none=>simp
 | some t=>by_cases h:ways c m.ar=2<;>simp[h]
theorem ez.ends{m:Model}{r q p k:Nat}(h:ez m r q p k)(s:C_ Int):(o.lC m s r).length=(jK m s q (bx m p k)).length/\∀j (h1:j<(o.lC m s r).length) (I:j<(jK m s q (bx m p k)).length),(o.lC m s r)[j]=⟨r,j,(jK m s q (bx m p k))[j]⟩:=by
 have e:=h.lC s;cases ai:fA m s q (bx m p k) with
 | none =>
  rw[ai] at e;have e2:jK m s q (bx m p k)=[]:=by unfold jK;rw[ai]
  rw[e,e2];exact⟨rfl,fun j h1=>absurd h1 (LC _)⟩
 | some t =>
  rw[ai] at e;by_cases hw:ways (bx m p k) m.ar=2
  .have e2:jK m s q (bx m p k)=[t,lost m s t (bx m p k)]:=by unfold jK;rw[ai];simp[hw]
   have a1:o.lC m s r=[⟨r,0,t⟩,⟨r,1,lost m s t (bx m p k)⟩]:=by rw[e];simp[hw]
   rw[e2,a1];refine⟨rfl,fun j h1 I=>?_⟩
   match j,h1 with
   | 0,_=>rfl
   | 1,_=>rfl
   | j+2,h1=>exact absurd h1 Bh
  .have e2:jK m s q (bx m p k)=[t]:=by unfold jK;rw[ai];simp[hw]
   have a1:o.lC m s r=[⟨r,0,t⟩]:=by rw[e];simp[hw]
   rw[e2,a1];refine⟨rfl,fun j h1 I=>?_⟩
   match j,h1 with
   | 0,_=>rfl
   | j+1,h1=>exact absurd h1 Bh
end o
namespace Go.Proofs.R
open Go Go.RowKit a7
structure xu(base:Nat)(w:World)(u:Value)(cd:List (e8 1))(l:List (List Int)):Prop where
 len:cd.length=l.length
 row:pj T.b 1 base w u cd
 at_:∀i (h1:i<cd.length) (I:i<l.length),∃ae c,cd[i].1=[.slice ae l[i].length c]/\iz base w (.slice ae l[i].length c) l[i]
theorem xu.ext{base:Nat}{w w':A_}{u:B_}{cd:C_ (e8 1)}{l:C_ (C_ Int)}(he:Ext w w')(h:xu base w u cd l):xu base w' u cd l :=
 ⟨h.len,h.row.ext he,fun i h1 I=>let ⟨ae,c,e,k⟩:=h.at_ i h1 I; ⟨ae,c,e,k.ext he⟩⟩
theorem xu.mod{base:Nat}{w w':A_}{u:B_}{cd:C_ (e8 1)}{l:C_ (C_ Int)}{A:Nat->Prop}(h:xu base w u cd l)(hm:Mod A w w')(c4:∀k (x:Array B_) (e:F_),base<=k->w.heap[k]? = some (.cells x e)->e=T.b\/e=T.a->¬A k):xu base w' u cd l :=
 ⟨h.len,aP.mod h.row hm fun k hk=>let ⟨x,q⟩:=aP.cm h.row k hk;c4 k x _ (aP.lt h.row k hk).1 q (.inl rfl),fun i h1 I=>let ⟨ae,c,e,k⟩:=h.at_ i h1 I; ⟨ae,c,e,aP.mod k hm fun j aC=>let ⟨x,q⟩:=aP.cm k j aC;c4 j x _ (aP.lt k j aC).1 q (.inr rfl)⟩⟩
theorem aiD(cU:Nat)(dn lH:B_)(m:o.Model)(s t:C_ Int)(ref:Int)(q p k:Nat)(w:A_)(ek:po w cU m)(ak:dc w dn s)(aA:dc w lH t)(auS:s.length=o.c6 m)(b4:t.length=o.c6 m)(bq:o.ez m ref q p k)(nD:o.ways (o.bx m p k) m.ar=2) :
  Dz F.d1 #[.pointer (some ⟨cU,0,none⟩),dn,lH,.I ref] w fun u w'=>iz w.heap.size w' u (o.lost m s t (o.bx m p k))/\Ext w w':=by
 obtain⟨j,aC,kK⟩:=o.Gx nD;have aS:=o.iu bq.ok;have sj:=o.kX kK;have ko:o.c6 m<=64:=o.iL aS;have dv:(o.chanOf m s j).length=1+o.fH m j:=o.n0 Aw;obtain⟨bI,c1,rfl,_⟩:=ak.form;obtain⟨bO,c2,rfl,_⟩:=aA.form;refine bl E.d1 ?_;refine J ?_;refine J_ (XN cU m ref q p k w ek bq) ?_;rintro _ w1 ⟨⟨gn,gz,aO,fz,rfl,hv,fW⟩,ah⟩;refine J ?_;refine J_ (WX (o.bx m p k) _ _ w1 (fW.ext ah)) ?_;rintro _ aB ⟨rfl,aj⟩;rw[aC];have e2:=ah.trans aj;refine J ?_;refine J_ (Q9 _ t aB (aA.ext Flat.ext e2) (by unfold o.ea;omega)) ?_;rintro u aK ⟨dG,ag⟩;have a1:=e2.trans ag;obtain⟨aoL,atN,rfl,_⟩:=(jz dG).form;obtain⟨g,rfl⟩:∃g,aoL=some ⟨g,0,none⟩:=by
  rcases dG.2 with ⟨ax,ad⟩ | ⟨g,cap,cur,h1,_⟩
  .exfalso;injection ax with _ I _;omega
  .injection h1 with h1 _ _;exact⟨g,h1⟩
 refine J ?_;refine J_ (OD cU m j aK (ek.ext a1) aS kK) ?_;rintro _ aR ⟨rfl,aw⟩;have bC:=a1.trans aw;have dz:=dG.ext aw;refine J ?_;intro bo aF;have bF:=bC.trans aF;have dt:=dz.ext aF;have rp:=ak.ext Flat.ext bF;refine J ?_;refine _c (k:=.i64) (k':=.i64) (o.b6 m j) (o.b6 m j+(1+o.fH m j)) (jz dt) (by simp[c0,bL]) (by simp[c0,bL]) Aw Aw fun RN s5 akB _=>?_;refine J ?_;refine _Y (k:=.i64) (k':=.i64) (o.b6 m j) (o.b6 m j+(1+o.fH m j)) rp (by simp[c0,bL]) (by simp[c0,bL]) Aw Aw fun avN nj Cf=>?_;rw[o.NT] at Cf;refine J ?_;refine _d (p:=o.b6 m j) dt Cf (by simp only[c0,bL];rfl) (by simp only[c0,bL];rfl) akB Aw Cq Cq fun u bt gP c9=>?_;rw[Lj Aw] at c9;have aH:=(aP.lt dt g rfl).1
 have:=e2.size
 refine J ?_;refine⟨?_,gP.ext bF Aw⟩;have hf:o.lost m s t (o.bx m p k)=o.hi t (o.b6 m j) (o.chanOf m s j):=by unfold o.lost;rw[aC,AF4]
 rw[hf];exact aP.low e2.size c9
theorem X7(cU:Nat)(v:B_)(m:o.Model)(s:C_ Int)(ref:Int)(q p k:Nat)(w:A_)(ek:po w cU m)(ak:dc w v s)(av:o.Fits m s)(bq:o.ez m ref q p k) :
  Dz F.DS #[.pointer (some ⟨cU,0,none⟩),v,.I ref] w fun u w'=>(∃cd:C_ (e8 1),xu w.heap.size w' u cd (o.jK m s q (o.bx m p k)))/\Ext w w':=by
 have aS:=o.iu bq.ok;obtain⟨ep,fp,rfl,fc⟩:=ak.form;have yc:=ek;obtain⟨zs,an,h9⟩:=ek;obtain⟨eB,d0,dB,d1,ec,d2,er,d3,eN,d4,bW,bu,bI,c1,bO,c2,bQ,bp,bZ,bB,yF,xW,fm,gd,rfl,_,_,dV,dH,df,eO,fM,ad,h1,I,ab,aX,bD⟩:=h9.form;clear dV dH df eO fM ad h1 ab aX bD h9;refine bl E.DS ?_;refine J ?_;refine J_ (aio cU _ m s ref q p k w yc ak av bq) ?_;rintro _ w1 ⟨j5,ah⟩;have gq:=ah.size;rcases j5 with ⟨fg,rfl⟩ | ⟨t,ry,uv,hW,rfl,kr⟩
 .have he:o.jK m s q (o.bx m p k)=[]:=by unfold o.jK;rw[fg]
  refine J ?_;exact⟨⟨[],⟨by rw[he];rfl,aP.nil _ _ _ _ _,fun i h=>absurd h (LC _)⟩⟩,ah⟩
 have b4:=o.N1 bq av hW;replace an:=ah.obj an;refine J ?_;intro aB bP db aj au;have e2:=ah.trans aj;replace an:=aj.obj an;have z2:=aj.size;have dj:pj T.b 1 w.heap.size aB (.slice (some ⟨bP,0,none⟩) 1 1) [(⟨[.slice ry t.length uv],rfl,by simp[Value.oneCell']⟩:e8 1)]:=aP.zd _ au Aw rfl j3 rfl (by show 1<=maxLen;unfold maxLen;decide);clear au;refine J ?_;intro aK ag;replace an:=ag.obj an;have dG:=dj.ext ag;have a1:=e2.trans ag;refine J ?_;refine J_ (XN cU m ref q p k aK (yc.ext a1) bq) ?_;rintro _ aR ⟨⟨gn,gz,aO,fz,rfl,hv,fW⟩,aw⟩;refine⟨aw,?_⟩;have bC:=a1.trans aw;refine J ?_;refine J_ (asV (o.bx m p k) _ _ _ m.ar aR (fW.ext aw) (I.ext bC)) ?_;rintro _ bo ⟨rfl,aF⟩;have bF:=bC.trans aF;have dt:=dG.ext (aw.trans aF);have Qp:=((kr.ext aj).ext ag).ext (aw.trans aF);obtain⟨ael,Fl⟩:∃x,x=o.ways (o.bx m p k) m.ar:=⟨_,rfl⟩;have QX:=o.Mm (o.bx m p k) m.ar;rw[<-Fl] at QX ⊢;refine J ?_;refine I_ (fun hJ=>?_) (fun hJ=>?_);rotate_left
 .have he:o.jK m s q (o.bx m p k)=[t]:=by unfold o.jK;rw[hW];simp only;rw[if_neg Aw]
  refine J ?_;refine⟨⟨_,⟨by rw[he];rfl,dt,fun i cO de=>?_⟩⟩,bF⟩
  have:i=0:=by simp at cO;omega
  subst this;simp only[he,List.getElem_cons_zero];exact⟨_,_,rfl,Qp⟩
 have nD:o.ways (o.bx m p k) m.ar=2:=Aw
 have he:o.jK m s q (o.bx m p k)=[t,o.lost m s t (o.bx m p k)]:=by unfold o.jK;rw[hW];simp only;rw[if_pos nD]
 refine J ?_;refine J_ (aiD cU _ _ m s t ref q p k bo (yc.ext bF) (ak.ext Flat.ext bF) (jz Qp) av.len b4 bq nD) ?_;rintro u bt ⟨c9,aI⟩;obtain⟨Ao,zl,rfl,_⟩:=(jz c9).form;have cg:=bF.trans aI;have z5:=bF.size;have AO:=aI.size;refine J ?_;intro bG iC ia bm cf;have c8:=cg.trans bm;have dM:=dt.ext (aI.trans bm);refine U_ (enc:=j2) (y:=(⟨[.slice Ao (o.lost m s t (o.bx m p k)).length zl],rfl,by simp[Value.oneCell']⟩:e8 1)) dM cf rfl j3 tf Bh (by unfold maxLen;simp) (by have:=c8.size;omega) fun avR n8 WD cQ hx zM=>?_;refine J ?_;have alj:∀i,(Value.slice (some ⟨bP,0,none⟩) 1 1).ownBlock=some i->w.heap.size<=i:=fun i U=>(aP.lt dM i U).1;have key:∀{v:B_} {l:C_ Int},iz w.heap.size bG v l->iz w.heap.size cQ v l:=fun h=>aP.mod h (Mod.grown zM fun k hk=>hk) fun k hk ao=>by
  obtain⟨jW,h1⟩:=aP.cm h k hk;obtain⟨kQ,I⟩:=aP.cm dM k ao;rw[h1] at I;injection I with I
  injection I with _ I
  revert I;decide
 have cZ:=key (Qp.ext (aI.trans bm));have a2:=key ((aP.low z5 c9).ext bm);refine⟨⟨_,⟨by rw[he];rfl,hx,fun i cO de=>?_⟩⟩,c8.grown zM alj⟩
 match i,cO with
 | 0,_ =>
  simp only[he,List.getElem_cons_zero];exact⟨_,_,rfl,cZ⟩
 | 1,_ =>
  simp only[he,List.getElem_cons_succ,List.getElem_cons_zero];exact⟨_,_,rfl,a2⟩
 | i+2,cO=>exact absurd cO Bh
theorem aiE(cU:Nat)(v:B_)(m:o.Model)(s:C_ Int)(w:A_)(ek:po w cU m)(hk:(o.check m).cC=0)(ak:dc w v s)(av:o.Fits m s) :
  Dz F.x1 #[.pointer (some ⟨cU,0,none⟩),v] w fun u w'=>eI ug T.j 3 w.heap.size w' u (o.gh m s)/\Ext w w':=by
 have aS:=o.iu hk;have iI:=o.tU aS.lim;obtain⟨ep,fp,rfl,fc⟩:=ak.form;have yc:=ek;obtain⟨zs,an,h9⟩:=ek;obtain⟨eB,d0,dB,d1,ec,d2,er,d3,eN,d4,bW,bu,bI,c1,bO,c2,bQ,bp,bZ,bB,yF,xW,fm,gd,rfl,_,_,dV,dH,df,eO,fM,ad,h1,I,ab,aX,bD⟩:=h9.form;clear dV dH df eO fM ad h1 I ab aX bD h9;refine bl E.x1 ?_;refine J ?_;refine L_ 14 (o.refs m).length [0,1,13] (fun v:gr=>[(5,.slice v.1 v.2.1 v.2.2)]) (none,0,0) (fun k v W=>Ext w W/\eI ug T.j 3 w.heap.size W (.slice v.1 v.2.1 v.2.2) (o.jQ m s k)) a8 a8 ⟨Ext.refl _,eI.nil _ _ _ _ _⟩ ?_;clear an;rintro k CZ S aB aV ⟨aj,dj⟩;have ic:=o.RB m s k;refine J ?_;refine I_ (fun jP=>?_) (fun jP=>?_)
 .have zQ:k<(o.refs m).length:=Aw
  obtain⟨q,p,kt,bq⟩:=o.oO (m:=m) (ref:=k) ⟨hk,Aw,Aw⟩;obtain⟨at1,Ef⟩:=bq.ends s;have uH:=o.ahy m s q (o.bx m p kt);refine J ?_;refine J_ (X7 cU _ m s k q p kt aB (yc.ext aj) (ak.ext Flat.ext aj) av bq) ?_;rintro u aK ⟨⟨cd,IK⟩,ag⟩;have z2:=aj.size;have z3:=ag.size;have la:=IK.len;obtain⟨ov,nY,rfl,_⟩:=(aP.jg j3 IK.row).form;have dG:=dj.ext ag;have a1:=aj.trans ag;refine J ?_;refine L_ 22 cd.length [0,1,6,13,14,20,21] (fun v:gr=>[(5,.slice v.1 v.2.1 v.2.2)]) CZ (fun j v W=>Ext w W/\xu aB.heap.size W (.slice ov cd.length nY) cd (o.jK m s q (o.bx m p kt))/\eI ug T.j 3 w.heap.size W (.slice v.1 v.2.1 v.2.2) (o.jQ m s k++(o.lC m s k).take j)) a8 a8 ⟨a1,IK,by simpa using dG⟩ ?_;clear IK dG dj;rintro j v S aR aC ⟨aw,OY,dz⟩;have YE:=aP.jg j3 OY.row;refine J ?_;refine I_ (fun hJ=>?_) (fun hJ=>?_);rotate_left
  .have auJ:j=cd.length:=Aw
   rw[Lj Aw,<-o.FM] at dz;refine J ?_;exact⟨zQ,aL,v,⟨aL,trivial⟩,aw,dz⟩
  have en:j<cd.length:=Aw
  obtain⟨ac,rfl⟩:=YE.addr;obtain⟨RT,Oc,gk,fK⟩:=OY.at_ j en Aw;have gj:aR.cell? (ac.add (j*1))=some (.slice RT (o.jK m s q (o.bx m p kt))[j].length Oc):=by
   have:=YE.at j en 0 (.slice RT (o.jK m s q (o.bx m p kt))[j].length Oc) (by show(cd[j].1)[0]? = _;rw[gk];rfl)
   rwa[add_zero] at this
  refine J ?_;refine M_ gj ?_;refine J ?_;intro bo dE kI aF bY;have dt:=dz.ext aF;have Qr:=fK.ext aF;have ajm:=OY.ext aF;have z4:=aw.size;have z5:=aF.size;have hlen:(o.jQ m s k++(o.lC m s k).take j).length<=2*k+2:=by rw[Lk,LQ];omega
  have QK:∀i,(Value.slice v.1 v.2.1 v.2.2).ownBlock=some i->∃x,bo.heap[i]? = some (.cells x T.j):=fun i U=>by
   obtain⟨ag1,_,mS,_⟩:=dt.ex;exact aP.cm mS i U
  have b8:∀(k:Nat) (x:Array B_) (e:F_),bo.heap[k]? = some (.cells x e)->e=T.b\/e=T.a->(Value.slice v.1 v.2.1 v.2.2).ownBlock=some k->False:=fun k x e h1 I ab=>by
   obtain⟨kQ,de⟩:=QK k ab;rw[h1] at de;injection de with de
   injection de with _ de
   subst de
   revert I;decide
  refine _I (x:=(⟨k,j,(o.jK m s q (o.bx m p kt))[j]⟩:o.jk)) (cs:=[.I k,.I j,.slice RT (o.jK m s q (o.bx m p kt))[j].length Oc]) dt (gN bY)
   (fun W ek=>⟨_,rfl,jz (aP.mod Qr ek fun i U ao=>by
    obtain⟨jW,cO⟩:=aP.cm Qr i U;rcases ao with ao | ao
    .exact b8 i _ _ cO (.inr rfl) ao
    .have:=(aP.lt Qr i U).1
     omega)⟩) rfl (by simp[Value.oneCell']) Aw (by unfold maxLen;omega) Aw fun bS bt tv iq=>?_
  have hq:=dt.k2 (aw.trans aF) iq (Gf _);have Ee:=ajm.mod (Mod.grown iq fun k hk=>hk) fun k x e _ h1 I ab=>b8 k x e h1 I ab;obtain⟨qF,s7,rfl,_⟩:=tv.form;refine J ?_;refine⟨en,aL,(qF,_,s7),⟨rfl,trivial⟩,hq,Ee,?_⟩;rw[L1 Aw,<-Wi,Ef j Aw Aw];exact tv
 .have jw:k=(o.refs m).length:=Aw
  subst jw;obtain⟨abZ,co,Qm,_⟩:=dj.form;obtain⟨ao4,avL,ag2⟩:=CZ;cases Qm;refine J ?_;refine I_ (fun hJ=>?_) (fun hJ=>?_)
  .have zU:o.jQ m s (o.refs m).length=[]:=AG1 Aw;have mT:o.gh m s=o.jQ m s (o.refs m).length++[⟨-1,0,s⟩]:=by unfold o.gh;rw[zU];rfl
   replace dj:eI ug T.j 3 w.heap.size aB (.slice ao4 (o.jQ m s (o.refs m).length).length ag2) (o.jQ m s (o.refs m).length):=dj;have ET:(o.jQ m s (o.refs m).length).length=0:=by rw[zU];rfl
   have dX:=ak.ext Flat.ext aj;have z2:=aj.size;have ko:o.c6 m<=64:=o.iL aS;have lv:=av.len;refine J ?_;refine J_ (Q9 _ s aB dX (by unfold o.ea;omega)) ?_;rintro u aR ⟨dz,dW⟩;obtain⟨gK,AF,rfl,_⟩:=(jz dz).form;have Qk:=aP.new (enc:=cE) (fun _=>rfl) dz;have Qw:=dj.ext dW;have z4:=dW.size;refine J ?_;intro bo dE kI aF bY;have tu:=Qw.ext aF;have z5:=aF.size;refine _I (x:=(⟨-1,0,s⟩:o.jk)) (cs:=[.I (-1),.I 0,.slice gK s.length AF]) tu (gN bY)
    (((ed.own (w1:=aR) Qk dj Aw).imp fun w h=>⟨_,rfl,h⟩).ext aF fun i U hk=>by have:=dj.under Aw i hk;omega) rfl (by simp[Value.oneCell']) Aw (by unfold maxLen;omega) Aw fun bS bt tv iq=>?_
   have MJ:=tu.k2 ((aj.trans dW).trans aF) iq (Gf _);obtain⟨qF,s7,rfl,_⟩:=tv.form;refine J ?_;exact⟨by rw[mT];exact tv,MJ⟩
  .have mT:o.gh m s=o.jQ m s (o.refs m).length:=by
    unfold o.gh;split
    .rename_i ax;rw[ax] at hJ;simp at hJ
    .rfl
   refine J ?_;exact⟨by rw[mT];exact dj,aj⟩
def G7(m:o.Model)(s:C_ Int)(ref:Int)(t:Bool):Prop:=t=true↔(o.hB m s/\o.Told m ref/\∀q p k,o.ez m ref q p k->o.fA m s q (o.bx m p k)≠none)
end Go.Proofs.R
end
section
namespace a7
open Go Go.RowKit
theorem eI.low{α:Type}{C:A_->C_ B_->α->Prop}{e:F_}{sz base vB:Nat}{w:A_}{v:B_}{xs:C_ α}(an:vB<=base)(h:eI C e sz base w v xs):eI C e sz vB w v xs:=by
 obtain⟨cd,h1,I,ab⟩:=h.ex;exact⟨cd,h1,aP.low an I,fun i cO de=>(ab i cO de).mono fun k _ hk=>by
  rcases hk with hk | hk
  .exact .inl hk
  .exact .inr Aw⟩
end a7
namespace Go.Proofs.R
open Go Go.RowKit a7
theorem XL(cs:C_ B_)(v:B_)(m:o.Model)(s:C_ Int)(w:A_)(h:o.dU w cs m)(aH:m.cA)(aJ:gF w)(ak:dc w v s) :
  Dz F.DR #[.agg cs.toArray,v] w fun u w'=>((o.hB m s/\∃b,u = .tuple #[.pointer (some ⟨b,0,none⟩),.bool true]/\po w' b m)\/(¬o.hB m s/\∃ae,u = .tuple #[.pointer ae,.bool false]))/\Ext w w':=by
 have cX:=h;obtain⟨bW,bu,bI,c1,bO,c2,bQ,bp,bZ,bB,rfl,_⟩:=h.form;obtain⟨os,r2,rfl,_⟩:=ak.form;refine bl E.DR ?_;refine J ?_;intro w1 bP db ah au;refine J ?_;refine J_ (aiF _ m w1 (cX.ext ah) aH (aJ.ext ah)) ?_;rintro _ aB ⟨hO,aj⟩;replace au:=aj.obj au;have e2:=ah.trans aj;rcases hO with ⟨hk,rfl⟩ | ⟨hk,b,rfl,an,ek⟩
 .refine J ?_;exact⟨.inr ⟨fun bD=>hk bD.1,_,aL⟩,e2⟩
 refine J ?_;refine J_ (adE _ m _ s aB (cX.ext e2) aH (aJ.ext e2) (ak.ext Flat.ext e2)) ?_;rintro _ aK ⟨⟨t,rfl,aA⟩,ag⟩;have a1:=e2.trans ag;cases t with
 | false =>
  refine J ?_;exact⟨.inr ⟨fun bD=>(by have:=aA.2 bD;cases this),_,aL⟩,a1⟩
 | true =>
  refine J ?_;exact⟨.inl ⟨aA.1 rfl,b,aL,ek.ext ag⟩,a1⟩
theorem ait(cU:Nat)(m:o.Model)(ref:Int)(w:A_)(ek:po w cU m) :
  Dz F.co #[.pointer (some ⟨cU,0,none⟩),.I ref] w fun u w'=>(∃t:Bool,u = .bool t/\(t=true↔0<=ref/\ref<(o.refs m).length))/\Ext w w':=by
 obtain⟨zs,an,h9⟩:=ek;obtain⟨eB,d0,dB,d1,ec,d2,er,d3,eN,d4,bW,bu,bI,c1,bO,c2,bQ,bp,bZ,bB,yF,xW,fm,gd,rfl,_⟩:=h9.form;clear h9;refine bl E.co ?_;refine J ?_;refine I_ (fun g=>?_) (fun g=>?_)
 .refine J ?_;exact⟨⟨_,aL,by rw[decide_eq_true_eq];exact⟨fun h=>⟨Aw,h⟩,fun h=>h.2⟩⟩,Ext.refl _⟩
 .refine J ?_;exact⟨⟨false,aL,by simp only[Bool.false_eq_true,false_iff];omega⟩,Ext.refl _⟩
theorem ail(cs:C_ B_)(v:B_)(m:o.Model)(s:C_ Int)(ref:Int)(w:A_)(h:o.dU w cs m)(aH:m.cA)(aJ:gF w)(ak:dc w v s) :
  Dz F.kW #[.agg cs.toArray,v,.I ref] w fun u w'=>(∃t:Bool,u = .bool t/\G7 m s ref t)/\Ext w w':=by
 have cX:=h;obtain⟨bW,bu,bI,c1,bO,c2,bQ,bp,bZ,bB,rfl,_⟩:=h.form;obtain⟨os,r2,rfl,_⟩:=ak.form;have no:∀{P:Prop},¬P->(false=true↔P):=fun h=>⟨fun k=>(by cases k),fun k=>absurd k h⟩;refine bl E.kW ?_;refine J ?_;intro w1 bR e9 ah bh;refine J ?_;refine J_ (XL _ _ m s w1 (cX.ext ah) aH (aJ.ext ah) (ak.ext Flat.ext ah)) ?_;rintro _ aB ⟨c4,aj⟩;have e2:=ah.trans aj;rcases c4 with ⟨bD,b,rfl,ek⟩ | ⟨bD,ae,rfl⟩
 rotate_left
 .refine J ?_;exact⟨⟨false,aL,no fun cN=>bD cN.1⟩,e2⟩
 refine J ?_;refine J_ (ait b m ref aB ek) ?_;rintro _ aK ⟨⟨t,rfl,aA⟩,ag⟩;have a1:=e2.trans ag;cases t with
 | false =>
  refine J ?_;exact⟨⟨false,aL,no fun cN=>by have:=aA.2 cN.2.1.2;cases this⟩,a1⟩
 | true =>
 have bN:o.Told m ref:=⟨bD.1,aA.1 rfl⟩;obtain⟨q,p,k,bq⟩:=o.oO bN;refine J ?_;refine J_ (X7 b _ m s ref q p k aK (ek.ext ag) (ak.ext Flat.ext a1) bD.2 bq) ?_;rintro u aR ⟨⟨cd,dI⟩,aw⟩;obtain⟨ov,nY,rfl,_⟩:=(aP.jg j3 dI.row).form;have la:=dI.len;refine J ?_;refine⟨⟨_,aL,?_⟩,a1.trans aw⟩;unfold G7;rw[decide_eq_true_eq];constructor
 .intro B7;refine⟨bD,bN,fun ei eX k' q6 ax=>?_⟩;obtain⟨rfl,rfl,rfl⟩:=bq.one q6
  have:o.jK m s q (o.bx m p k)=[]:=by unfold o.jK;rw[ax]
  have ad:cd.length=0:=by rw[la,this];rfl
  omega
 .rintro⟨_,_,ab⟩;have aE:=ab q p k bq;cases ai:o.fA m s q (o.bx m p k) with
  | none=>exact absurd ai aE
  | some t =>
   have:0<(o.jK m s q (o.bx m p k)).length:=by unfold o.jK;rw[ai];simp
   omega
theorem aik(cs:C_ B_)(v:B_)(m:o.Model)(s:C_ Int)(w:A_)(h:o.dU w cs m)(aH:m.cA)(aJ:gF w)(ak:dc w v s) :
  Dz F.mK #[.agg cs.toArray,v] w fun u w'=>((o.hB m s/\eI ug T.j 3 w.heap.size w' u (o.gh m s))\/(¬o.hB m s/\u = .slice none 0 0))/\Ext w w':=by
 have cX:=h;obtain⟨bW,bu,bI,c1,bO,c2,bQ,bp,bZ,bB,rfl,_⟩:=h.form;obtain⟨os,r2,rfl,_⟩:=ak.form;refine bl E.mK ?_;refine J ?_;intro w1 bR e9 ah bh;refine J ?_;refine J_ (XL _ _ m s w1 (cX.ext ah) aH (aJ.ext ah) (ak.ext Flat.ext ah)) ?_;rintro _ aB ⟨c4,aj⟩;have e2:=ah.trans aj;rcases c4 with ⟨bD,b,rfl,ek⟩ | ⟨bD,ae,rfl⟩
 rotate_left
 .refine J ?_;exact⟨.inr ⟨bD,aL⟩,e2⟩
 refine J ?_;refine J_ (aiE b _ m s aB ek bD.1 (ak.ext Flat.ext e2) bD.2) ?_;rintro u aK ⟨aG,ag⟩;obtain⟨aO,fz,rfl,_⟩:=aG.form;refine J ?_;exact⟨.inl ⟨bD,eI.low e2.size aG⟩,e2.trans ag⟩
structure ato(w:World)(vC n base:Nat)(bs:List Nat)(M:List (List Bool)):Prop where
 len:bs.length=M.length
 le:bs.length<=n
 row:w.heap[vC]? = some (.cells (bs.map (fun b=>Value.slice (some ⟨b,0,none⟩) n n)++List.replicate (n - bs.length) (Value.slice none 0 0)).toArray T.h7)
 rows:∀j (h:j<bs.length) (bk:j<M.length),w.heap[bs[j]]? = some (.cells (nW M[j]).toArray T.m)/\M[j].length=n
 low:∀b∈bs,base<=b
end Go.Proofs.R
namespace o
open Go
theorem kz.mZ{m:Model}{ref:Int}{a b:C_ Int}(h:kz m ref a b):a.Pairwise (· < ·)/\b.Pairwise (· < ·):=by
 by_cases aA:Told m ref
 .obtain⟨q,p,k,bq⟩:=oO aA;obtain⟨h1,I⟩:=h.there q p k bq;exact⟨h1.mZ,I.mZ⟩
 .obtain⟨rfl,rfl⟩:=h.none aA;exact⟨List.Pairwise.nil,List.Pairwise.nil⟩
end o
end
section
namespace a7
open Go Go.RowKit
def ahx(b:Bool):C_ B_:=[.bool b]
end a7
namespace Go.Proofs.R
open Go Go.RowKit a7
def akK(n:Nat)(vs:Nat->H_ Addr×Nat×Nat):C_ B_:=(List.range n).map fun j=>cj (vs j)
structure atp(w:World)(vC n base:Nat)(vs:Nat->Option Addr×Nat×Nat)(xs:Nat->List Bool):Prop where
 head:w.heap[vC]? = some (.cells (akK n vs).toArray T.h7)
 rows:iA ahx T.m 1 base w n vs xs
end Go.Proofs.R
end
section
namespace a7
open Go Go.RowKit
section
variable{P:Program}{S:Fr}{w:World}
theorem gy.aqR{α:Type}{enc:α->B_}{g:G_}{p:Nat}{a b:eR}{Q:H_ Nat->fy->Fr->A_->Prop}{iW:Nat}{hL:Array B_}{il:A_->A_->Prop}{nS p4:C_ α->Prop}{N:Nat}{w0:A_}
  (aH:bn S g = .func (.func iW) #[] hL)(c5:okF P iW=true)(tx:SeqStopsK Fence.wide 0 P iW hL (fun x=>#[enc x]) il nS p4 N w0)(he:Ext w0 w)(ti:Dh il w.heap.size)
  (cW GX:C_ α->A_->Prop)(aX:OwnFrom w.heap.size cW)(ajs:OwnFrom w.heap.size GX)(ad:cW [] w)
  (E9:∀pre x W,cW pre W->pre.length<N->eQ P a (jh (fun uj iB=>KeepsFrom w.heap.size W iB/\il W iB/\∀eV,ui w.heap.size iB eV ->
   eQ P b (jh (fun _ bX=>KeepsFrom w.heap.size eV bX/\il eV bX/\cW (pre++[x]) bX) (fun e _ bX=>e = .ret/\KeepsFrom w.heap.size eV bX/\GX (pre++[x]) bX) ⟨⟩) uj eV ⟨⟩) (fun _ _ _=>False) ⟨⟩) (cb S p (enc x)) W ⟨⟩)
  (zJ:∀D xs W,w.heap.size<=D->nS xs->cW xs W->W.heap[D]? = some (.deferred (some []))->Q (some D) .normal S W)
  (al5:∀D xs W,w.heap.size<=D->GX xs W->W.heap[D]? = some (.deferred (some []))->Q (some D) .ret S W):oA P (.tV g p a b) Q S w:=by
 refine⟨α,enc,iW,hL,il,nS,p4,N,w0,aH,c5,tx,he,ti,cW,fun e xs W=>e = .ret/\GX xs W,aX,fun e s A B row ak rf aG=>⟨ak.1,ajs s A B row ak.2 rf aG⟩,ad,fun pre x W U az=>?_,zJ,fun D e pre W _ h8 _ h a6=>?_⟩
 .have h:=E9 pre x W U az;unfold eQ jh at h;refine pU a _ _ _ W (fun e uj iB _ h1=>?_) h;cases e with
  | normal =>
   obtain⟨cq,cB,e5⟩:=h1;refine⟨cq,cB,fun eV aG=>?_⟩;have I:=e5 eV aG;refine pU b _ _ _ eV (fun e kU nU _ ab=>?_) I;cases e with
   | normal=>exact ab
   | exit _=>exact absurd ab.1 Bh
   | ret=>exact⟨ab.2.1,rfl,ab.2.2⟩
   | hj _=>exact absurd ab.1 Bh
  | exit _=>exact h1.elim
  | ret=>exact h1.elim
  | hj _=>exact h1.elim
 .obtain⟨rfl,U⟩:=h;exact al5 D pre W h8 U a6
theorem gy.gY{β:Type}{a:eR}{b:sO}{Q:H_ Nat->fy->Fr->A_->Prop}(cv:C_ Nat)(M:β->C_ (Nat×B_))(N:β->A_->Prop)(h1:eQ P a (jh (fun fO bM => ∃x,Has fO (M x)/\N x bM) (Q none) ⟨⟩) S w ⟨⟩)
  (I:∀x aZ w',N x w'->oA P b Q (ve (M x) (uY S cv aZ)) w')(a6:(cv.all fun t => !a.fQ.contains t)=true:=by rfl):oA P (.iN a b) Q S w:=by
 unfold eQ jh at h1;show dL P a (vg (fun S w=>oA P b Q S w) (Q none)) S w;refine pU a _ _ _ w (fun e uj iB hk h=>?_) h1;cases e with
 | normal =>
  obtain⟨x,aS,fI⟩:=h;have h:=I x uj iB fI;rw[Fy cv fun t aA=>hk t (Lp a6 t aA),Gg _ aS] at h;exact h
 | exit _=>exact h
 | ret=>exact h
 | hj _=>exact h
theorem mF.mod{hM:Nat}{cv:C_ F_}{W bX:A_}(h:mF hM cv W bX):Mod (fun k => ¬∃c t f,W.heap[k]? = some (.cells c t f)/\t∈cv) W bX :=
 ⟨h.1.os,h.1.tape,h.1.output,h.1.size,fun k _ ax=>by
  obtain⟨c,t,f,h1,I⟩:=Classical.not_not.1 ax;exact h.2 k c t f h1 I⟩
theorem mF.ext{w:A_}{cv:C_ F_}{W bX:A_}(h:mF w.heap.size cv W bX)(he:Ext w W):Ext w bX:=Below.trans he h.1
theorem mF.own{α:Type}{enc:α->C_ B_}{e:F_}{sz base hM:Nat}{cv:C_ F_}{W bX:A_}{v:B_}{xs:C_ α}(h:mF hM cv W bX)(aJ:aP enc e sz base W v xs)(he:e∈cv):aP enc e sz base bX v xs :=
 aJ.mod h.mod fun k hk a=>by
  obtain⟨cur,ai⟩:=aJ.cm k hk;exact a ⟨_,_,_,ai,he⟩
theorem mF.obj{hM:Nat}{cv:C_ F_}{W bX:A_}(h:mF hM cv W bX){k:Nat}{c:Array B_}{t:F_}{f:Nat×Nat}(hk:W.heap[k]? = some (.cells c t f))(aA:t∈cv):bX.heap[k]? = some (.cells c t f):=(h.2 k c t f hk aA).trans hk
end
end a7
end
section
namespace o
open Go
abbrev Dt(m:Model)(q l:Int):={i:Nat // i<(refs m).length/\nP m q l i}
end o
namespace Go.Proofs.R
open Go Go.RowKit a7
abbrev aiK:C_ F_:=[T.c,T.d,T.a,T.f]
theorem aiL{o9 w0:A_}{cH nX pv:Nat}{cs:C_ B_}{m:o.Model}{q l:Int}(nw:w0.heap[cH]? = some (.cells cs.toArray T.f))(Zd:w0.heap[nX]? = some (.cells #[.I q] T.a))(dv:w0.heap[pv]? = some (.cells #[.I l] T.a))
  (h:o.dU o9 cs m)(qw:Ext o9 w0)(aH:m.cA)(gl:(o.check m).cC=0) :
  SeqStopsK Fence.wide 0 Tryz.prog F.v #[.pointer (some ⟨cH,0,none⟩),.pointer (some ⟨nX,0,none⟩),.pointer (some ⟨pv,0,none⟩)] (fun x:o.Dt m q l=>#[.I (x.1:Nat)]) (mF o9.heap.size aiK) (fun xs => ∀i,o.nP m q l i->i∈xs.map Subtype.val) (fun _=>True) (o.refs m).length w0:=by
 intro wS iS MT W an q7 ajt bK Jr;have B1:Ext o9 W:=qw.trans an;have Zb:=Ext.obj (w:=w0) an nw;have Zg:=Ext.obj (w:=w0) an Zd;have Y8:=Ext.obj (w:=w0) an dv;have cX:=h;have lu:=o.iu gl;have iI:=o.tU lu.lim;obtain⟨bW,bu,bI,c1,bO,c2,bQ,bp,bZ,bB,rfl,ad,h1,I,ab,aE,eU,eh,eo,dY,ew⟩:=h.form;refine callsIn_wide.2 (Calls.mono (show Dz F.v #[.func (.yield wS) #[] #[],.pointer (some ⟨cH,0,none⟩),.pointer (some ⟨nX,0,none⟩),.pointer (some ⟨pv,0,none⟩)] W (fun _ bX=>(∃xs,(∀i,o.nP m q l i->i∈xs.map Subtype.val)/\iS xs bX)\/(∃pre:C_ (o.Dt m q l),True/\MT pre bX)) from ?_) fun e bX ⟨v,e1,e2⟩=>⟨⟨v,e1⟩,e2⟩);have BR:∀{pre:C_ (o.Dt m q l)} {w w':A_},iS pre w->Ext w w'->iS pre w':=fun {pre w w'} aC e=>q7 pre w w' none aC e.Ya (fun r e=>by cases e);clear nw Zd dv;refine bl E.v ?_;refine J ?_;refine J_ (wI _ m W (cX.ext B1) aH) ?_;rintro bH w1 ⟨eM,ah⟩;obtain⟨b9,ci,rfl,_⟩:=eM.form;have e1:=B1.trans ah;refine J ?_;refine J_ (yL _ m w1 (cX.ext e1) lu.lim) ?_;rintro ho aB ⟨iZ,aj⟩;obtain⟨fm,qb,rfl,_⟩:=iZ.form;have e2:=e1.trans aj;have q1:=ah.trans aj;have Je:=q1.obj Zb;have Jf:=q1.obj Zg;have Jd:=q1.obj Y8;have aam:=eM.ext aj;have mm:=BR Jr q1;clear Zb Zg Y8 eM Jr;refine J ?_;refine L_ 13 (o.refs m).length [0,1,2,3,5,11,12] (fun _=>[]) ([]:C_ (o.Dt m q l)) (fun k pre w'=>(Ext o9 w'/\w'.heap[cH]? = aB.heap[cH]? /\ w'.heap[nX]? = aB.heap[nX]? /\ w'.heap[pv]? = aB.heap[pv]? /\ aP o.cR.enc T.d 2 W.heap.size w' (.slice b9 (o.insts m).length ci) (o.insts m)/\aP o.Ref.enc T.c 2 w1.heap.size w' (.slice fm (o.refs m).length qb) (o.refs m)/\iS pre w')/\pre.length<=k/\∀i,i<k->o.nP m q l i->i∈pre.map Subtype.val) a8 a8
  ⟨⟨e2,rfl,rfl,rfl,aam,iZ,mm⟩,Gf _,fun i h=>absurd h (LC _)⟩ ?_
 rintro k pre S aK hk ⟨⟨a1,PC,PH,PA,QN,QQ,yk⟩,sh,fs⟩;rw[Je] at PC;rw[Jf] at PH;rw[Jd] at PA;refine J ?_;apply I_<;>intro g1;rotate_left
 .refine J ?_;exact .inl ⟨pre,fun i U=>fs i (by have:=U.lt;omega) U,yk⟩
 have cI:k<(o.refs m).length:=Aw
 have j6:bg 2 (Flat o.Ref.enc) aK _ _:=aP.hA (enc:=o.Ref.enc) (fun _=>rfl) QQ;have Yq:kk aK _ (o.insts m):=aP.hA (enc:=o.cR.enc) (fun _=>rfl) QN;obtain⟨jI,rfl⟩:=j6.addr;obtain⟨ei,eX,k',bq⟩:=o.oO (m:=m) (ref:=k) ⟨gl,Aw,Aw⟩;have gm:(o.refs m)[k].inst=(ei:Int):=bq.at_.ox;have o0:(o.refs m)[k].cmd=(k':Int):=bq.at_.sA;have PS:=o.X5 (q:=q) (l:=l) bq;have gj:=j6.at k cI;obtain⟨x,af⟩:∃x,x=(o.refs m)[k]:=⟨_,rfl⟩;rw[<-af] at gm o0 gj;have gj:e7 aK (jI.add (k*2)) x.enc:=gj;unfold o.Ref.enc at gj;refine J ?_;intro wn iC ia fr eE;refine J ?_;intro aR dq cf;replace cf:aR.heap[iC]? = some (.cells #[.I x.inst,.I x.cmd] T.c):=by rw[af];exact cf
 have aw:Ext aK aR:=dq.ext fr ia;have bC:=a1.trans aw;have Y9:=aw.obj PC;have Ze:=aw.obj PH;have Y6:=aw.obj PA;have Yr:=Yq.ext Flat.ext aw;clear eE fr PC PH PA;refine J ?_;intro bo aF;have bF:=bC.trans aF;have PD:=aF.obj Y9;have PI:=aF.obj Ze;have PB:=aF.obj Y6;have I8:=aF.obj cf;have Ys:=Yr.ext Flat.ext aF;have MG:=aw.trans aF;have EO:=BR yk MG;have QO:=QN.ext MG;have QR:=QQ.ext MG;clear Y9 Ze Y6 cf Yr QN QQ;have skip:¬o.nP m q l k->∀i,i<k+1->o.nP m q l i->i∈pre.map Subtype.val:=fun ax i U av=>by
  rcases AH2 i k with h | h
  .exact fs i h av
  .obtain rfl:i=k:=Aw
   exact absurd av ax
 refine J ?_;apply I_<;>intro g2;rotate_left
 .refine J ?_;exact⟨cI,aL,pre,trivial,⟨bF,PD.trans Je.symm,PI.trans Jf.symm,PB.trans Jd.symm,QO,QR,EO⟩,Aw,skip fun av=>by rw[PS] at av;omega⟩
 refine J ?_;have dT:Dz F.s #[.agg #[.slice bW m.scalars.length bu,.slice bI m.vars.length c1,.slice bO m.ar.length c2,.slice bQ m.procs.length bp,.slice bZ m.props.length bB],.slice b9 (o.insts m).length ci,.agg #[.I x.inst,.I x.cmd]] bo fun u w'=>(∃gn gz aO fz,u = .agg #[.string (o.bx m eX k').name,.I (o.bx m eX k').from_,.I (o.bx m eX k').to,.slice gn (o.bx m eX k').guard.length gz,.slice aO (o.bx m eX k').bE.length fz,.bool (o.bx m eX k').fair])/\Ext bo w':=(Xe _ _ m k ei eX k' bo (cX.ext bF) Ys bq x gm o0).mono fun u w' ⟨⟨e6,dn,hu,ax,aU⟩,iG⟩=>by
  obtain⟨gn,gz,rfl,_⟩:=ax.form;obtain⟨aO,fz,rfl,_⟩:=aU.form;exact⟨⟨gn,gz,aO,fz,hu⟩,iG⟩
 refine J_ dT ?_;clear dT;rintro _ bt ⟨⟨gn,gz,aO,fz,rfl⟩,aI⟩;have cg:=bF.trans aI;have Cc:=BR EO aI;have Za:=aI.obj PD;have Zf:=aI.obj PI;have Y7:=aI.obj PB;have aan:=QO.ext aI;have Fj:=QR.ext aI;refine⟨aI,?_⟩;clear PD PI PB I8 QO QR Ys j6 Yq gj;refine J ?_;refine _K (v:=.I (o.bx m eX k').from_) rfl ?_;refine J ?_;apply I_<;>intro g3;rotate_left
 .refine J ?_;exact⟨cI,aL,pre,trivial,⟨cg,Za.trans Je.symm,Zf.trans Jf.symm,Y7.trans Jd.symm,aan,Fj,Cc⟩,Aw,skip fun av=>by rw[PS] at av;omega⟩
 have av:o.nP m q l k:=PS.2 ⟨Aw,g3⟩;refine J ?_;refine _2 (bK pre ⟨k,cI,av⟩ bt Cc Aw) ?_;rintro e bG (⟨rfl,P5,zO⟩ | ⟨rfl,P5⟩)
 .refine⟨.bool true,rfl,?_⟩;refine J ?_;refine⟨cI,aL,pre++[⟨k,cI,av⟩],trivial,⟨zO.ext cg,(zO.obj Za BJ).trans Je.symm,(zO.obj Zf BJ).trans Jf.symm,(zO.obj Y7 BJ).trans Jd.symm,zO.own aan BJ,zO.own Fj BJ,P5⟩,by simp;omega,fun i U PU=>?_⟩;rw[AF6,AI1];rcases AH2 i k with h | h
  .exact .inl (fs i h PU)
  .obtain rfl:i=k:=Aw
   exact .inr Bh
 .refine⟨.bool false,rfl,?_⟩;refine J ?_;exact .inr ⟨_,trivial,P5⟩
theorem anQ(x:o.Ref)(nX:Nat)(q:Int)(w:A_)(h:w.heap[nX]? = some (.cells #[.I q] T.a)) :
  Dz F.r #[.agg #[.I x.inst,.I x.cmd],.pointer (some ⟨nX,0,none⟩)] w fun v w'=>v = .bool (!decide (x.inst=q))/\Ext w w':=by
 refine bl E.r ?_;refine J ?_;intro w1 br cF ah al;have Z7:=ah.obj h;refine J ?_;exact⟨aL,ah⟩
theorem aiJ(cs:C_ B_)(m:o.Model)(q l:Int)(w:A_)(h:o.dU w cs m) :
  Dz F.oM #[.agg cs.toArray,.I q,.I l] w fun v w'=>(∃cH nX pv,v = .func (.func F.v) #[] #[.pointer (some ⟨cH,0,none⟩),.pointer (some ⟨nX,0,none⟩),.pointer (some ⟨pv,0,none⟩)]/\w'.heap[cH]? = some (.cells cs.toArray T.f)/\w'.heap[nX]? = some (.cells #[.I q] T.a)/\w'.heap[pv]? = some (.cells #[.I l] T.a))/\Ext w w':=by
 obtain⟨bW,bu,bI,c1,bO,c2,bQ,bp,bZ,bB,rfl,_⟩:=h.form;refine bl E.oM ?_;refine J ?_;intro w1 bR e9 ah al;refine J ?_;intro aB cx e3 aj au;refine J ?_;intro aK dE kI ag bh;refine J ?_;exact⟨⟨_,_,_,aL,(aj.trans ag).obj al,ag.obj au,bh⟩,(ah.trans aj).trans ag⟩
def aeD(m:o.Model)(q:Int)(L:C_ (C_ Int×C_ Int))(i:Nat):Prop := ∀j (aC:j<(o.refs m).length),(o.refs m)[j].inst≠q->∀x y,L[i]? = some x->L[j]? = some y->¬o.rQ x.1 x.2 y.1 y.2
theorem ag8(cs:C_ B_)(m:o.Model)(q l:Int)(w:A_)(h:o.dU w cs m)(aH:m.cA)(aJ:gF w) :
  Dz F.cU #[.agg cs.toArray,.I q,.I l] w fun u w'=>(∃t,u = .bool t/\o.oK m q l t)/\Ext w w':=by
 have cX:=h;obtain⟨bW,bu,bI,c1,bO,c2,bQ,bp,bZ,bB,rfl,ad,h1,I,ab,aE,eU,eh,eo,dY,ew⟩:=h.form;refine gy.start lz De.cU (args:=[_,_,_]) (Nat.le_of_ble_eq_true rfl) ?_;dsimp only[D.cU,aM,ct,kR,cD,pc,dC,h4,hp,dR,aN,fx,fw,ey,ik,ys,lJ,dD,iw,AK,iR,ki,xk,oF,cG,jY,h3,pV,Mv,C4,nL,vl,vk,rL,lI,xj,List.map_cons,List.map_nil];refine gy.iN ?_;refine J ?_;intro w1 bR e9 ah bh;refine J ?_;intro aB cx e3 aj bf;refine J ?_;intro aK ee gf ag b1;have a1:=(ah.trans aj).trans ag;replace bh:=(aj.trans ag).obj bh;replace bf:=ag.obj bf;have kh:=ah.size;have jX:=aj.size;have wc:w.heap.size<=ee:=Aw
 refine J ?_;refine gy.iN ?_;refine J ?_;refine J_ (yy _ m aK (cX.ext a1) aH (aJ.ext a1)) ?_;rintro _ aR ⟨rfl,aw⟩;replace bh:=aw.obj bh;replace bf:=aw.obj bf;replace b1:=aw.obj b1;have bC:=a1.trans aw;refine J ?_;refine _K (v:=.I (o.check m).cC) rfl ?_;refine J ?_;apply I_<;>intro g1;rotate_left
 .refine J ?_;intro bo e4 bY;have aF:=e4.ext bC wc;refine gy.DX ?_;refine J ?_;exact⟨⟨false,aL,o.oK.no fun k=>g1 k.1⟩,aF⟩
 have lu:=o.iu g1;have iI:=o.tU lu.lim;refine J ?_;refine gy.gY [1,2,3,4,6] (fun x:(H_ Addr×Nat)×Nat=>[(7,.slice x.1.1 (o.insts m).length x.1.2),(8,.pointer (some ⟨x.2,0,none⟩))]) (fun x W=>(∃fm qb,W.heap[x.2]? = some (.cells #[.slice fm (o.refs m).length qb] T.g)/\sP W (.slice fm (o.refs m).length qb) (o.refs m))/\kk W (.slice x.1.1 (o.insts m).length x.1.2) (o.insts m)/\Ext aR W) ?_ ?_
 .have wo:∀{W},Ext aR W->Dz F.c #[.agg #[.slice bW m.scalars.length bu,.slice bI m.vars.length c1,.slice bO m.ar.length c2,.slice bQ m.procs.length bp,.slice bZ m.props.length bB]] W fun v w'=>(∃b9 ci,v = .slice b9 (o.insts m).length ci/\aP o.cR.enc T.d 2 W.heap.size w' v (o.insts m))/\Ext W w':=fun {W} he=>(wI _ m W (cX.ext (bC.trans he)) aH).mono fun v w' ⟨aD,iG⟩=>by
   obtain⟨b9,ci,rfl,_⟩:=aD.form;exact⟨⟨b9,ci,rfl,aD⟩,iG⟩
  have Qz:∀{W},Ext aR W->Dz F.d #[.agg #[.slice bW m.scalars.length bu,.slice bI m.vars.length c1,.slice bO m.ar.length c2,.slice bQ m.procs.length bp,.slice bZ m.props.length bB]] W fun v w'=>(∃b9 ci,v = .slice b9 (o.refs m).length ci/\aP o.Ref.enc T.c 2 W.heap.size w' v (o.refs m))/\Ext W w':=fun {W} he=>(yL _ m W (cX.ext (bC.trans he)) lu.lim).mono fun v w' ⟨aD,iG⟩=>by
   obtain⟨b9,ci,rfl,_⟩:=aD.form;exact⟨⟨b9,ci,rfl,aD⟩,iG⟩
  have Sb:∀{W v base},aP o.cR.enc T.d 2 base W v (o.insts m)->kk W v (o.insts m):=fun h=>aP.hA (enc:=o.cR.enc) (fun _=>rfl) h;have Sc:∀{W v base},aP o.Ref.enc T.c 2 base W v (o.refs m)->sP W v (o.refs m):=fun h=>aP.hA (enc:=o.Ref.enc) (fun _=>rfl) h;refine J ?_;intro bo aF;replace bh:=aF.obj bh;refine J ?_;refine⟨?_,?_⟩
  .refine J_ (wo aF) ?_;rintro _ bt ⟨⟨b9,ci,rfl,aX⟩,aI⟩;have cg:=aF.trans aI;refine⟨aI,?_⟩;refine J ?_;refine⟨?_,?_⟩
   .refine J_ (Qz cg) ?_;rintro _ bG ⟨⟨fm,qb,rfl,bD⟩,bm⟩;have c8:=cg.trans bm;refine J ?_;intro cQ jJ nu bA cn;refine⟨(aI.trans bm).trans bA,?_⟩;refine J ?_;intro cS hI dp;have bT:=hI.ext bA nu;refine J ?_;exact⟨((b9,ci),jJ),⟨aL,aL,trivial⟩,⟨_,_,dp,Sc (bD.ext bT)⟩,Sb (aX.ext (bm.trans bT)),c8.trans bT⟩
   .refine O_ ?_;intro bG jJ nu bm cn;refine⟨aI.trans bm,?_⟩;have c8:=cg.trans bm;refine J ?_;refine J_ (Qz c8) ?_;rintro _ cQ ⟨⟨fm,qb,rfl,bD⟩,bA⟩;have BZ:=cn;replace cn:=bA.obj cn;refine J ?_;intro cS hI dp;have bT:Ext bt cS:=hI.ext (bm.trans bA) nu;have Rp:=cr BZ;refine J ?_;exact⟨((b9,ci),jJ),⟨aL,aL,trivial⟩,⟨_,_,dp,Sc (bD.wr hI Rp)⟩,Sb (aX.ext bT),cg.trans bT⟩
  .refine O_ ?_;intro bt jJ nu aI cn;have cg:=aF.trans aI;refine⟨aI,?_⟩;refine J ?_;refine J_ (wo cg) ?_;rintro _ bG ⟨⟨b9,ci,rfl,aX⟩,bm⟩;have c8:=cg.trans bm;refine⟨aI.trans bm,?_⟩;refine J ?_;refine J_ (Qz c8) ?_;rintro _ cQ ⟨⟨fm,qb,rfl,bD⟩,bA⟩;have Pu:=cn;have BZ:=bm.obj cn;replace cn:=(bm.trans bA).obj cn;refine J ?_;intro cS hI dp;have anm:=cr Pu;have Rp:=cr BZ;have bT:Ext bo cS:=hI.ext ((aI.trans bm).trans bA) nu;refine J ?_;exact⟨((b9,ci),jJ),⟨aL,aL,trivial⟩,⟨_,_,dp,Sc (bD.wr hI Rp)⟩,Sb ((aX.ext bA).wr hI anm),aF.trans bT⟩
 rintro⟨⟨b9,ci⟩,jJ⟩ S bo ⟨⟨fm,qb,cn,bD⟩,aX,aF⟩;dsimp only at cn aX;replace bh:=aF.obj bh;replace bf:=aF.obj bf;replace b1:=aF.obj b1;have bF:=bC.trans aF;refine gy.iN ?_;have bad:∀{W:A_} {aZ:Fr},Ext bo W->¬o.pg m q l->True:=fun _ _=>trivial;have au8:=cr b1;refine J ?_;apply I_<;>intro g2
 .refine J ?_;intro bt aI;replace b1:=aI.obj b1;refine J ?_;intro bG dy cf;refine gy.DX ?_;refine J ?_;exact⟨⟨false,aL,o.oK.no fun k=>by have:=k.aQ;omega⟩,dy.ext (bF.trans aI) wc⟩
 refine J ?_;apply I_<;>intro g3
 .refine J ?_;intro bt aI;replace b1:=aI.obj b1;refine J ?_;intro bG dy cf;refine gy.DX ?_;refine J ?_;exact⟨⟨false,aL,o.oK.no fun k=>by have:=k.aQ;omega⟩,dy.ext (bF.trans aI) wc⟩
 refine J ?_;apply I_<;>intro g4
 .refine J ?_;intro bt aI;replace b1:=aI.obj b1;refine J ?_;intro bG dy cf;refine gy.DX ?_;refine J ?_;exact⟨⟨false,aL,o.oK.no fun k=>by have:=k.aQ;omega⟩,dy.ext (bF.trans aI) wc⟩
 obtain⟨rD,rfl⟩:=Rt (show 0<=q by omega);have ao:rD<(o.insts m).length:=Aw
 obtain⟨p,hIn⟩:=o.Fq ao;have aq:=hIn.aq;have oe:=hIn.eq;obtain⟨h7,rfl⟩:=aX.addr;obtain⟨a3,rfl⟩:=ab.addr;obtain⟨lZ,bV,dL,dA,eW,fl⟩:=ab.at p aq;obtain⟨ep,fp,rfl,_⟩:=eW.form;obtain⟨CA,Bs,rfl,Cp⟩:=fl.form;unfold o.dw.enc at dA;have alO:=dA.ext bF;refine J ?_;refine K_ p (by rw[oe]) aq ?_;refine J ?_;intro bt aI;replace bh:=aI.obj bh;replace bf:=aI.obj bf;replace b1:=aI.obj b1;replace cn:=aI.obj cn;have uD:=bD.ext Flat.ext aI;have cg:=bF.trans aI;apply I_<;>intro g5
 .refine J ?_;intro bG dy cf;refine gy.DX ?_;refine J ?_;exact⟨⟨false,aL,o.oK.no fun k=>by have:=k.lt hIn;omega⟩,dy.ext cg wc⟩
 have c4:o.pg m rD l:=o.FC g1 hIn Aw Aw;clear dA alO aX bD;refine J ?_;refine gy.iN ?_;refine J ?_;refine J_ (asB _ m bt (cX.ext cg) aH (aJ.ext cg) lu.lim) ?_;rintro _ bG ⟨⟨L,base,ju,sa,aua,Pa⟩,bm⟩;obtain⟨avQ,atK,rfl,_⟩:=Pa.form;have IW:bg 2 Vu bG _ L:=Pa.jg;have ajO:=ju.len;have c8:=cg.trans bm;replace bh:=bm.obj bh;replace bf:=bm.obj bf;replace b1:=bm.obj b1;replace cn:=bm.obj cn;have ajE:=uD.ext Flat.ext bm;clear Pa uD;refine J ?_;intro wn j0 lT fr eE;refine J ?_;intro cQ iK dp;have bA:Ext bG cQ:=iK.ext fr lT;clear eE;have eY:=c8.trans bA;replace bh:=bA.obj bh;replace bf:=bA.obj bf;replace b1:=bA.obj b1;replace cn:=bA.obj cn;refine J ?_;refine gy.tY (gy.iN ?_);refine J ?_;refine J_ (aiJ _ m rD l cQ (cX.ext eY)) ?_;rintro _ cS ⟨⟨cH,nX,pv,rfl,akR,akS,lv⟩,bT⟩;have jq:=eY.trans bT;replace bf:=bT.obj bf;replace b1:=bT.obj b1;replace cn:=bT.obj cn;replace dp:=bT.obj dp;have IT:=ajE.ext Flat.ext (bA.trans bT);have ahk:=bA.trans bT;clear bh;have AO:=cr b1;have z4:=cr bf;have Ti:=cr cn;have z9:=cr dp;refine J ?_;refine gy.cm (gy.aqR (w0:=cS) (enc:=fun x:o.Dt m rD l=>.I (x.1:Nat)) (by simp[c0,bL]) Cq (aiL akR akS lv h jq aH g1) (Ext.refl _) (mF.ok _ jq.size)
  (fun pre W=>Ext cS W/\∀x∈pre,aeD m rD L x.1) (fun _ W=>Mod (fun k=>k=ee) cS W/\W.heap[ee]? = some (.cells #[.bool false] T.m)/\¬o.AW m L rD l) ?_ ?_ ⟨Ext.refl _,fun x af=>by cases af⟩ ?_ ?_ ?_)
 .rintro pre W bX row ⟨he,Eh⟩ rf aG;exact⟨he.grown rf fun k hk=>(aG k hk).1,Eh⟩
 .rintro _ W bX row ⟨hm,ai,ax⟩ rf aG;have fJ:Mod (fun k=>row=some k) W bX:=Mod.grown rf fun k hk=>hk;refine⟨hm.comp fJ (fun _ _ a=>a) fun k hk a=>?_,fJ.obj (fun a=>?_) ai,ax⟩
  .have:=(aG k a).1;omega
  .have:=(aG ee a).1;omega
 .rintro pre x W ⟨tm,Eh⟩ b4;refine dO ?_;refine⟨(Ext.refl W).keeps _,(Ext.refl W).ig (Ru jq.size tm.size),fun eV wB=>?_⟩;have aj:Ext cS eV:=wB.ext tm (Gf _);have gK:=aj.obj bf;have CB:=aj.obj cn;have R6:=aj.obj dp;have O8:=IT.ext Flat.ext aj;have tA:=x.2.1;have JO:x.1<L.length:=Aw
  have YA:sP eV _ (o.refs m):=O8;have at3:=IW;have aez:=ahk.trans aj;obtain⟨atv,rfl⟩:=IW.addr;obtain⟨jW,kQ,k6,amz,amA⟩:=IW.at x.1 JO;obtain⟨apR,apS⟩:=(ju.is x.1 JO).mZ;refine J ?_;refine L_ 58 (o.refs m).length [4,6,9,10,11,56,57] (fun _:Unit=>[]) () (fun j _ bX=>Ext eV bX/\∀k,k<j->∀(hk:k<(o.refs m).length),(o.refs m)[k].inst≠(rD:Int)->∀y,L[k]? = some y->¬o.rQ L[x.1].1 L[x.1].2 y.1 y.2) a8 a8 ⟨Ext.refl _,fun k h=>absurd h (LC _)⟩ ?_;rintro j _ kU eG aC ⟨ch,ZZ⟩;refine J ?_;apply I_<;>intro g6;rotate_left
  .refine J ?_;refine⟨ch.keeps _,ch.ig (Ru jq.size aj.size),aj.trans ch,fun v aD=>?_⟩;rcases List.mem_append.1 aD with aD | aD
   .exact Eh v aD
   .rw[AG4] at aD;subst aD;intro k hk b8 a b aU an;rw[List.getElem?_eq_getElem JO] at aU;injection aU with aU
    subst aU;exact ZZ k Aw hk b8 b an
  have Jt:j<(o.refs m).length:=Aw
  have Js:j<L.length:=Aw
  obtain⟨jI,rfl⟩:=YA.addr;have gj:=(YA.ext Flat.ext ch).at j Jt;obtain⟨r,aG⟩:∃r,r=(o.refs m)[j]:=⟨_,rfl⟩;rw[<-aG] at gj;have gj:e7 eG (jI.add (j*2)) r.enc:=gj;unfold o.Ref.enc at gj;have next:∀{W},Ext eV W->(r.inst≠(rD:Int)->¬o.rQ L[x.1].1 L[x.1].2 L[j].1 L[j].2)->Ext eV W/\∀k,k<j+1->∀(hk:k<(o.refs m).length),(o.refs m)[k].inst≠(rD:Int)->∀y,L[k]? = some y->¬o.rQ L[x.1].1 L[x.1].2 y.1 y.2:=fun e ax=>⟨e,fun k hk zQ b8 y bK=>by
   rcases AH2 k j with h | h
   .exact ZZ k h zQ b8 y bK
   .obtain rfl:k=j:=Aw
    rw[List.getElem?_eq_getElem Js] at bK;injection bK with bK
    subst bK;exact ax (by rw[aG];exact b8)⟩
  have acp:=ch.obj gK;have acq:=ch.obj R6;refine J ?_;intro wn ur I0 fr eE;refine J ?_;intro fN ie jv;replace jv:fN.heap[ur]? = some (.cells #[.I r.inst,.I r.cmd] T.c):=by first | exact jv | (rw[aG];exact jv)
  have eg:Ext eG fN:=ie.ext fr I0;have apX:=eg.obj acp;have av1:=eg.obj acq;have sI:=ch.trans eg;clear eE gj acp acq;have call:∀{w':A_},Ext fN w'->Dz F.r #[.agg #[.I r.inst,.I r.cmd],.pointer (some ⟨cx,0,none⟩)] w' fun v bM=>v = .bool (!decide (r.inst=(rD:Int)))/\Ext w' bM:=fun e=>anQ r cx rD _ (e.obj apX);by_cases g7:r.inst=(rD:Int)
  .refine J ?_;refine _w (.bool false) (fun w' e=>_e (first:=[]) (cap:=[.pointer (some ⟨cx,0,none⟩)]) Cq (call e) fun v bM ⟨h1,I⟩=>⟨by rw[h1,decide_eq_true g7];rfl,I⟩) ?_;refine J ?_;intro h2 ev;refine J ?_;exact⟨Jt,aL,(),trivial,next (sI.trans ev) fun h=>absurd g7 h⟩
  .obtain⟨kh,jX,akz,amH,amI⟩:=IW.at j Js;obtain⟨apU,apV⟩:=(ju.is j Js).mZ;have AV:=aez.trans sI;have auA:=k6.ext AV;have auB:=akz.ext AV;refine J ?_;refine _w (.bool true) (fun w' e=>_e (first:=[]) (cap:=[.pointer (some ⟨cx,0,none⟩)]) Cq (call e) fun v bM ⟨h1,I⟩=>⟨by rw[h1,decide_eq_false g7];rfl,I⟩) ?_;refine J ?_;refine P_ (.bool (decide (o.rQ L[x.1].1 L[x.1].2 L[j].1 L[j].2))) (fun w' e=>aoO jW kQ kh jX _ _ _ _ w' (amz.ext Flat.ext (AV.trans e)) (amA.ext Flat.ext (AV.trans e)) (amH.ext Flat.ext (AV.trans e)) (amI.ext Flat.ext (AV.trans e)) apR apS apU apV) ?_;refine J ?_;intro h2 ev;have pX:=sI.trans ev;have av0:=(aj.trans pX).obj b1;apply I_<;>intro g8
   .refine J ?_;intro l5 kc aj2;have tr:Mod (fun k=>k=ee) h2 l5:=kc.mod rfl;refine J ?_;refine⟨aL,?_,?_,aj2,fun az=>az x.1 x.2.2 j Jt (by rw[<-aG];exact g7) _ _ (List.getElem?_eq_getElem JO) (List.getElem?_eq_getElem Js) g8⟩
    .exact⟨Ru pX.size tr.size,fun k ae j5 hk ai=>tr.obj (fun a=>by subst a;omega) (pX.obj hk)⟩
    .exact Mod.comp (A':=fun k=>k=ee) (aj.trans pX).mod tr (fun _ _ a=>a) fun k hk a=>a
   .refine J ?_;exact⟨Jt,aL,(),trivial,next pX fun _=>g8⟩
 .rintro D xs W h8 b3 ⟨tm,Eh⟩ a6;have tS:=tm.obj b1;refine J ?_;intro eG o1 gu;have IL:D≠ee:=Aw
  refine gy.ret (o1.obj a6 IL) ?_;have ak:di D eG (fv eG D (.deferred none)):=di.fv _ _ _;have aco:=ak.obj gu (Ne.symm IL);have ajy:o.AW m L rD l:=fun i U j aC b8 x y af bK=>by
   obtain⟨v,aD,rfl⟩:=List.mem_map.1 (b3 i U);exact Eh v aD j aC b8 x y af bK
  refine J ?_;exact⟨⟨true,aL,o.oK.of c4 ju ⟨fun _=>ajy,fun _=>rfl⟩⟩,ak.ext (o1.ext (jq.trans tm) wc) (Ru jq.size h8)⟩
 .rintro D xs W h8 ⟨hm,ai,ax⟩ a6;have IL:D≠ee:=Aw
  refine J ?_;refine gy.ret a6 ?_;have ak:di D W (fv W D (.deferred none)):=di.fv _ _ _;have aco:=ak.obj ai (Ne.symm IL);refine J ?_;exact⟨⟨false,aL,o.oK.of c4 ju ⟨(fun h=>by cases h),fun h=>absurd h ax⟩⟩,ak.ext (hm.ext jq fun k hk a=>Aw) (Ru jq.size h8)⟩
end Go.Proofs.R
end
section
namespace a7
open Go Go.RowKit
theorem agc{w:A_}{b:Nat}{v:B_}{e:F_}{a:Addr}{n:Int}(an:w.heap[b]? = some (.cells #[v] e))(aD:∀k:Int,v≠.I k)(h:w.cell? a=some (.I n)):a.block≠b:=fun he=>by
 unfold World.cell? at h;rw[he,an] at h;simp only at h;cases ak:a.spot with
 | some x=>simp[ak] at h
 | none =>
  simp[ak] at h
  have:a.off=0:=by
   cases aJ:a.off with
   | zero=>rfl
   | succ k=>rw[aJ] at h;simp at h
  rw[this] at h;simp at h;exact aD n h
theorem LP{α:Type}{enc:α->C_ B_}{sz b:Nat}{w w':A_}{v u:B_}{e:F_}{xs:C_ α}(hint:∀x,∀y∈enc x,∃n,y = .I n)(h:bg sz (Flat enc) w v xs)(an:w.heap[b]? = some (.cells #[u] e))(hu:∀k:Int,u≠.I k)(hw:di b w w'):bg sz (Flat enc) w' v xs:=by
 obtain⟨aO,cap,e1,h1,I,ab,aE⟩:=h;refine⟨aO,cap,e1,h1,I,ab,fun a aU i U j y aC=>?_⟩;have ai:=aE a aU i U j y aC;obtain⟨n,rfl⟩:=hint _ y (List.mem_of_getElem? aC);exact hw.cell ai (agc an hu ai)
end a7
namespace Go.Proofs.R
open Go Go.RowKit a7
theorem abF(x:Int):∀y∈cE x,∃n,y = .I n:=by simp[cE]
theorem aqF(x:o.Ref):∀y∈x.enc,∃n,y = .I n:=by simp[o.Ref.enc]
theorem amQ(x:o.cR):∀y∈x.enc,∃n,y = .I n:=by simp[o.cR.enc]
abbrev acb:C_ Nat:=[5,6,7,26,28,30,31]
def u7(b:Bool)(v:B_):B_:=if b then v else .slice none 0 0
structure jF(fP:Fr)(w0:World)(m:o.Model)(D:List Nat)(S:Fr)(w:World):Prop where
 ext:Ext w0 w
 hC:∀t,¬t∈acb->S t=fP t
 f26:26∈D->sP w (S 26) (o.refs m)
 f28:28∈D->kk w (S 28) (o.insts m)
 f30:30∈D->∃(ys:List Value) (v:Value),S 30 = .agg ys.toArray/\ys[2]? = some v/\bg 1 (Flat cE) w v (o.layout m).insts
 f31:31∈D->bg 1 (Flat cE) w (S 31) (o.layout m).insts
 f7:7∈D->bg 1 (Flat cE) w (S 7) (o.layout m).insts
 f5:5∈D->∃b,w0.heap.size<=b/\S 5 = .pointer (some ⟨b,0,none⟩)/\w.heap[b]? = some (.cells #[u7 (decide (1<=D.count 100000)) (S 26)] T.g)
 f6:6∈D->∃b,w0.heap.size<=b/\S 6 = .pointer (some ⟨b,0,none⟩)/\w.heap[b]? = some (.cells #[u7 (decide (2<=D.count 100000)) (S 28)] T.p)
 nj:7∈D->2<=D.count 100000
theorem wX{S:Fr}{D:C_ Nat}{d t:Nat}{v:B_}(h:t∈D)(a6:¬d∈D):cb S d v t=S t:=by
 have b8:t≠d:=fun e=>a6 (e ▸ h);unfold cb;rw[if_neg b8]
section
variable{fP:Fr}{w0 w w':World}{m:o.Model}{D:List Nat}{S:Fr}
theorem jF.mW(h:jF fP w0 m D S w){d:Nat}{v:B_}(e:Ext w w')(ak:d∈acb)(a6:¬d∈D)(ai:D.count 100000=0/\d≠7\/(d=7/\26∈D/\28∈D/\2<=D.count 100000))
  (n26:d=26->sP w' v (o.refs m))(n28:d=28->kk w' v (o.insts m))(n30:d=30->∃(ys:C_ B_) (u:B_),v = .agg ys.toArray/\ys[2]? = some u/\bg 1 (Flat cE) w' u (o.layout m).insts)
  (n31:d=31->bg 1 (Flat cE) w' v (o.layout m).insts)(n7:d=7->bg 1 (Flat cE) w' v (o.layout m).insts)
  (n5:d=5->∃b,w0.heap.size<=b/\v = .pointer (some ⟨b,0,none⟩)/\w'.heap[b]? = some (.cells #[.slice none 0 0] T.g))
  (n6:d=6->∃b,w0.heap.size<=b/\v = .pointer (some ⟨b,0,none⟩)/\w'.heap[b]? = some (.cells #[.slice none 0 0] T.p)):jF fP w0 m (d :: D) (cb S d v) w':=by
 have b8:d≠100000:=fun e=>by rw[e] at ak;exact absurd ak BJ
 have EA:(d :: D).count 100000=D.count 100000:=List.count_cons_of_ne (by simpa using b8);refine⟨h.ext.trans e,fun t aA=>?_,fun a=>?_,fun a=>?_,fun a=>?_,fun a=>?_,fun a=>?_,fun a=>?_,fun a=>?_,fun a=>?_⟩
 .have b8:t≠d:=fun e=>aA (e ▸ ak);rw[<-h.hC t aA];unfold cb;rw[if_neg b8]
 .by_cases q:d=26
  .subst q;simpa[cb] using n26 rfl
  .have cp:26∈D:=by simpa[Ne.symm q] using a
   rw[wX cp a6];exact bg.ext Flat.ext e (h.f26 cp)
 .by_cases q:d=28
  .subst q;simpa[cb] using n28 rfl
  .have cp:28∈D:=by simpa[Ne.symm q] using a
   rw[wX cp a6];exact bg.ext Flat.ext e (h.f28 cp)
 .by_cases q:d=30
  .subst q;simpa[cb] using n30 rfl
  .have cp:30∈D:=by simpa[Ne.symm q] using a
   rw[wX cp a6];obtain⟨ys,u,h1,I,ab⟩:=h.f30 cp;exact⟨ys,u,h1,I,bg.ext Flat.ext e ab⟩
 .by_cases q:d=31
  .subst q;simpa[cb] using n31 rfl
  .have cp:31∈D:=by simpa[Ne.symm q] using a
   rw[wX cp a6];exact bg.ext Flat.ext e (h.f31 cp)
 .by_cases q:d=7
  .subst q;simpa[cb] using n7 rfl
  .have cp:7∈D:=by simpa[Ne.symm q] using a
   rw[wX cp a6];exact bg.ext Flat.ext e (h.f7 cp)
 .by_cases q:d=5
  .subst q;rw[EA];have ad:D.count 100000=0:=by rcases ai with ⟨ad,_⟩ | ⟨ad,_⟩;exact ad;cases ad
   rw[ad];simpa[cb,u7] using n5 rfl
  .have cp:5∈D:=by simpa[Ne.symm q] using a
   obtain⟨b,h1,I,ab⟩:=h.f5 cp;rw[wX cp a6,EA];refine⟨b,h1,I,?_⟩;rcases ai with ⟨ad,_⟩ | ⟨_,mj,_⟩
   .rw[ad] at ab ⊢;simpa[u7] using e.obj ab
   .rw[wX mj a6];exact e.obj ab
 .by_cases q:d=6
  .subst q;rw[EA];have ad:D.count 100000=0:=by rcases ai with ⟨ad,_⟩ | ⟨ad,_⟩;exact ad;cases ad
   rw[ad];simpa[cb,u7] using n6 rfl
  .have cp:6∈D:=by simpa[Ne.symm q] using a
   obtain⟨b,h1,I,ab⟩:=h.f6 cp;rw[wX cp a6,EA];refine⟨b,h1,I,?_⟩;rcases ai with ⟨ad,_⟩ | ⟨_,_,OT,_⟩
   .rw[ad] at ab ⊢;simpa[u7] using e.obj ab
   .rw[wX OT a6];exact e.obj ab
 .rw[EA];rcases ai with ⟨ad,q⟩ | ⟨_,_,_,q⟩
  .have cp:7∈D:=by simpa[Ne.symm q] using a
   exact h.nj cp
  .exact q
variable{cs:List Value}
theorem apc(a6:¬26∈D)(ai:D.count 100000=0)(aS:o.dU w0 cs m)(az:o.vt m)(b3:fP 25 = .agg cs.toArray):sQ Tryz.prog w0 (jF fP w0 m) D ⟨some 26,none,.c (.fn F.d [.tmp 25])⟩:=⟨rfl,fun S w h=>by
 show Dz F.d #[S 25] w fun v w'=>Ext w0 w'/\jF fP w0 m (26 :: D) (cb S 26 v) w';rw[h.hC 25 BJ,b3];exact(yL _ m w (aS.ext h.ext) az).mono fun v w' ⟨h1,I⟩=>⟨h.ext.trans I,h.mW I BJ a6 (.inl ⟨ai,BJ⟩) (fun _=>aP.hA (enc:=o.Ref.enc) (fun _=>rfl) h1) (fun q=>by cases q) (fun q=>by cases q) (fun q=>by cases q) (fun q=>by cases q) (fun q=>by cases q) (fun q=>by cases q)⟩⟩
theorem apd(a6:¬28∈D)(ai:D.count 100000=0)(aS:o.dU w0 cs m)(aH:m.cA)(b3:fP 27 = .agg cs.toArray):sQ Tryz.prog w0 (jF fP w0 m) D ⟨some 28,none,.c (.fn F.c [.tmp 27])⟩:=⟨rfl,fun S w h=>by
 show Dz F.c #[S 27] w fun v w'=>Ext w0 w'/\jF fP w0 m (28 :: D) (cb S 28 v) w';rw[h.hC 27 BJ,b3];exact(wI _ m w (aS.ext h.ext) aH).mono fun v w' ⟨h1,I⟩=>⟨h.ext.trans I,h.mW I BJ a6 (.inl ⟨ai,BJ⟩) (fun q=>by cases q) (fun _=>aP.hA (enc:=o.cR.enc) (fun _=>rfl) h1) (fun q=>by cases q) (fun q=>by cases q) (fun q=>by cases q) (fun q=>by cases q) (fun q=>by cases q)⟩⟩
theorem ape(a6:¬30∈D)(ai:D.count 100000=0)(aS:o.dU w0 cs m)(aH:m.cA)(aJ:gF w0)(hk:(o.check m).cC=0)(b3:fP 29 = .agg cs.toArray):sQ Tryz.prog w0 (jF fP w0 m) D ⟨some 30,none,.c (.fn F.l [.tmp 29])⟩:=⟨rfl,fun S w h=>by
 show Dz F.l #[S 29] w fun v w'=>Ext w0 w'/\jF fP w0 m (30 :: D) (cb S 30 v) w';rw[h.hC 29 BJ,b3];exact(FA _ m w (aS.ext h.ext) aH (aJ.ext h.ext)).mono fun v w' ⟨⟨ys,h1,cM⟩,I⟩=>⟨h.ext.trans I,h.mW I BJ a6 (.inl ⟨ai,BJ⟩) (fun q=>by cases q) (fun q=>by cases q) (fun _=>by
  rw[o.FB hk] at cM;obtain⟨eB,d0,dB,d1,ec,d2,er,d3,eN,d4,rfl,_,_,df,_⟩:=cM.here.form;exact⟨_,_,h1,rfl,df⟩) (fun q=>by cases q) (fun q=>by cases q) (fun q=>by cases q) (fun q=>by cases q)⟩⟩
theorem apf(a6:¬31∈D)(ai:D.count 100000=0)(aq:30∈D):RunT Tryz.prog w0 (jF fP w0 m) D ⟨some 31,none,.p (.nq 2 (.tmp 30))⟩:=⟨rfl,fun S w h=>by
 obtain⟨ys,v,h1,I,ab⟩:=h.f30 aq;show GU 2 (S 30) fun v=>jF fP w0 m (31 :: D) (cb S 31 v) w;rw[h1];refine⟨ys.toArray,v,rfl,by simpa using I,h.mW (Ext.refl _) BJ a6 (.inl ⟨ai,BJ⟩) (fun q=>by cases q) (fun q=>by cases q) (fun q=>by cases q) (fun _=>ab) (fun q=>by cases q) (fun q=>by cases q) (fun q=>by cases q)⟩⟩
theorem apg(a6:¬5∈D)(ai:D.count 100000=0):sQ Tryz.prog w0 (jF fP w0 m) D ⟨some 5,none,.e (.new T.g (.slice none 0 0))⟩:=⟨rfl,fun S w h=>by
 show Ext w0 (w.alloc (.cells #[.slice none 0 0] T.g))/\jF fP w0 m (5 :: D) (cb S 5 (.pointer (some ⟨w.heap.size,0,none⟩))) (w.alloc (.cells #[.slice none 0 0] T.g));exact⟨h.ext.alloc _,h.mW ((Ext.refl w).alloc _) BJ a6 (.inl ⟨ai,BJ⟩) (fun q=>by cases q) (fun q=>by cases q) (fun q=>by cases q) (fun q=>by cases q) (fun q=>by cases q) (fun _=>⟨_,h.ext.size,rfl,heap_alloc_new w _⟩) (fun q=>by cases q)⟩⟩
theorem aph(a6:¬6∈D)(ai:D.count 100000=0):sQ Tryz.prog w0 (jF fP w0 m) D ⟨some 6,none,.e (.new T.p (.slice none 0 0))⟩:=⟨rfl,fun S w h=>by
 show Ext w0 (w.alloc (.cells #[.slice none 0 0] T.p))/\jF fP w0 m (6 :: D) (cb S 6 (.pointer (some ⟨w.heap.size,0,none⟩))) (w.alloc (.cells #[.slice none 0 0] T.p));exact⟨h.ext.alloc _,h.mW ((Ext.refl w).alloc _) BJ a6 (.inl ⟨ai,BJ⟩) (fun q=>by cases q) (fun q=>by cases q) (fun q=>by cases q) (fun q=>by cases q) (fun q=>by cases q) (fun q=>by cases q) (fun _=>⟨_,h.ext.size,rfl,heap_alloc_new w _⟩)⟩⟩
theorem api(a6:¬7∈D)(aq:31∈D/\26∈D/\28∈D/\2<=D.count 100000):RunT Tryz.prog w0 (jF fP w0 m) D ⟨some 7,none,.p (.nF (.tmp 31))⟩:=⟨rfl,fun S w h=>by
 show jF fP w0 m (7 :: D) (cb S 7 (S 31)) w;exact h.mW (Ext.refl _) BJ a6 (.inr ⟨rfl,aq.2⟩) (fun q=>by cases q) (fun q=>by cases q) (fun q=>by cases q) (fun q=>by cases q) (fun _=>h.f31 aq.1) (fun q=>by cases q) (fun q=>by cases q)⟩
theorem jF.store(h:jF fP w0 m D S w){b:Nat}{u:B_}{e:F_}(an:w.heap[b]? = some (.cells #[u] e))(hu:∀k:Int,u≠.I k)(hf:w0.heap.size<=b)(hw:di b w w')(b0:¬7∈D)
  (n5:5∈D->∃b,w0.heap.size<=b/\S 5 = .pointer (some ⟨b,0,none⟩)/\w'.heap[b]? = some (.cells #[u7 (decide (1<=(100000 :: D).count 100000)) (S 26)] T.g))
  (n6:6∈D->∃b,w0.heap.size<=b/\S 6 = .pointer (some ⟨b,0,none⟩)/\w'.heap[b]? = some (.cells #[u7 (decide (2<=(100000 :: D).count 100000)) (S 28)] T.p)):jF fP w0 m (100000 :: D) S w':=by
 have mem:∀{t:Nat},t≠100000->t∈100000 :: D->t∈D:=fun aA h=>by
  rcases List.mem_cons.1 h with e | e
  .exact absurd e aA
  .exact e
 refine⟨hw.ext h.ext hf,h.hC,fun a=>LP aqF (h.f26 (mem BJ a)) an hu hw,fun a=>LP amQ (h.f28 (mem BJ a)) an hu hw,fun a=>?_,fun a=>LP abF (h.f31 (mem BJ a)) an hu hw,fun a=>absurd (mem BJ a) b0,fun a=>n5 (mem BJ a),fun a=>n6 (mem BJ a),fun a=>absurd (mem BJ a) b0⟩;obtain⟨ys,v,h1,I,ab⟩:=h.f30 (mem BJ a);exact⟨ys,v,h1,I,LP abF ab an hu hw⟩
theorem acd(b:Bool){v:B_}(aD:∃aO n c,v = .slice aO n c):∀k:Int,u7 b v≠.I k:=fun k=>by
 obtain⟨aO,n,c,rfl⟩:=aD;cases b<;>simp[u7]
theorem Wy{w:A_}{b fG:Nat}{c kC:Array B_}{e e':F_}(h:w.heap[b]? = some (.cells c e))(bk:w.heap[fG]? = some (.cells kC e'))(he:e≠e'):b≠fG:=fun an=>by
 rw[an,bk] at h;injection h with h
 injection h with _ h
 exact he h.symm
theorem apj(ai:D.count 100000=0)(aq:5∈D/\6∈D/\26∈D)(b0:¬7∈D):sQ Tryz.prog w0 (jF fP w0 m) D ⟨none,none,.e (.st (.tmp 5) (.tmp 26))⟩:=⟨rfl,fun S w h=>by
 obtain⟨b,h1,I,ab⟩:=h.f5 aq.1;obtain⟨ee,cq,cB,e5⟩:=h.f6 aq.2.1;obtain⟨aO,n,aD,_⟩:=(h.f26 aq.2.2).form;have b8:ee≠b:=Wy e5 ab BJ;have al:(100000 :: D).count 100000=1:=by rw[List.count_cons_self,ai]
 show vx (S 5) (S 26) w fun w'=>Ext w0 w'/\jF fP w0 m (100000 :: D) S w';rw[I];have key:=_W (KW:=fun w'=>Ext w0 w'/\jF fP w0 m (100000 :: D) S w') (t:=⟨⟩) (v:=S 26) ab (Nat.zero_lt_one) (by rw[aD];rfl) fun w1 hh cF=>⟨hh.ext h.ext h1,h.store ab (acd _ ⟨_,_,_,aD⟩) h1 hh b0 (fun _=>⟨b,h1,I,by rw[al];exact cF⟩) (fun _=>⟨ee,cq,cB,by rw[al];rw[ai] at e5;exact hh.obj e5 b8⟩)⟩;unfold rS at key;exact key⟩
theorem apk(ai:D.count 100000=1)(aq:5∈D/\6∈D/\28∈D)(b0:¬7∈D):sQ Tryz.prog w0 (jF fP w0 m) D ⟨none,none,.e (.st (.tmp 6) (.tmp 28))⟩:=⟨rfl,fun S w h=>by
 obtain⟨b,h1,I,ab⟩:=h.f6 aq.2.1;obtain⟨dE,cq,cB,e5⟩:=h.f5 aq.1;obtain⟨aO,n,aD,_⟩:=(h.f28 aq.2.2).form;have b8:dE≠b:=Wy e5 ab BJ;have al:(100000 :: D).count 100000=2:=by rw[List.count_cons_self,ai]
 show vx (S 6) (S 28) w fun w'=>Ext w0 w'/\jF fP w0 m (100000 :: D) S w';rw[I];have key:=_W (KW:=fun w'=>Ext w0 w'/\jF fP w0 m (100000 :: D) S w') (t:=⟨⟩) (v:=S 28) ab (Nat.zero_lt_one) (by rw[aD];rfl) fun w1 hh cF=>⟨hh.ext h.ext h1,h.store ab (acd _ ⟨_,_,_,aD⟩) h1 hh b0 (fun _=>⟨dE,cq,cB,by rw[al];rw[ai] at e5;exact hh.obj e5 b8⟩) (fun _=>⟨b,h1,I,by rw[al];exact cF⟩)⟩;unfold rS at key;exact key⟩
end
theorem aps(cs:C_ B_)(bH ho:B_)(m:o.Model)(r bP ee dE:Nat)(w:A_)(h:o.dU w cs m)(aX:kk w bH (o.insts m))(j6:sP w ho (o.refs m))(gl:(o.check m).cC=0)(aG:r<(o.refs m).length)
  (au:w.heap[bP]? = some (.cells cs.toArray T.f))(b1:w.heap[ee]? = some (.cells #[bH] T.p))(bY:w.heap[dE]? = some (.cells #[ho] T.g)) :
  Dz F.q #[.I r,.pointer (some ⟨bP,0,none⟩),.pointer (some ⟨ee,0,none⟩),.pointer (some ⟨dE,0,none⟩)] w fun u w'=>u = .I (o.BL m r)/\Ext w w':=by
 obtain⟨bW,bu,bI,c1,bO,c2,bQ,bp,bZ,bB,rfl,ad,h1,I,ab,aE,eU,eh,eo,dY,ew⟩:=h.form;obtain⟨b9,ci,rfl,_⟩:=aX.form;obtain⟨fm,gd,rfl,_⟩:=j6.form;obtain⟨LB,p,k,bq⟩:=o.oO (m:=m) (ref:=r) ⟨gl,Aw,Aw⟩;obtain⟨Sn,Sp⟩:=bq.rel;have ao:=bq.at_.U;have aq:=bq.at_.aq;have mP:=bq.at_.hk;have oe:=bq.at_.ip;have gm:(o.refs m)[r].inst=(LB:Int):=bq.at_.ox;have o0:(o.refs m)[r].cmd=(k:Int):=bq.at_.sA;obtain⟨jI,rfl⟩:=j6.addr;obtain⟨h7,rfl⟩:=aX.addr;obtain⟨a3,rfl⟩:=ab.addr;obtain⟨lZ,bV,dL,dA,eW,fl⟩:=ab.at p aq;obtain⟨CA,Bs,rfl,Cp⟩:=fl.form;obtain⟨ac,rfl⟩:=fl.addr;obtain⟨eE,e6,dn,fR,hv,fW⟩:=fl.at k mP;obtain⟨gn,gz,rfl,_⟩:=hv.form;obtain⟨sw,rZ,rfl,_⟩:=fW.form;unfold o.dw.enc at dA;unfold o.dr.enc at fR;have j8:=o.vK aq mP;refine bl E.q ?_;refine J ?_;refine K_ LB (by rw[gm]) Aw ?_;refine J ?_;refine K_ p (by rw[oe]) aq ?_;refine J ?_;refine K_ k (by rw[o0]) Aw ?_;refine J ?_;intro w1 ah;refine J ?_;exact⟨by rw[Sp,j8],ah⟩
end Go.Proofs.R
end
section
namespace Go.Proofs.R
open Go Go.RowKit a7
theorem o.amW{m:o.Model}{s:C_ Int}{r:Nat}{t:Bool}(bD:o.hB m s)(aG:r<(o.refs m).length)(h:G7 m s r t):t=true↔o.xx m s r:=by
 obtain⟨q,p,k,bq⟩:=o.oO (m:=m) (ref:=r) ⟨bD.1,Aw,Aw⟩;unfold G7 at h;rw[h];constructor
 .rintro⟨_,_,ab⟩;exact⟨q,p,k,bq,ab q p k bq⟩
 .rintro⟨ei,eX,k',q6,ab⟩;refine⟨bD,bq.told,fun a b c IJ=>?_⟩;obtain⟨rfl,rfl,rfl⟩:=q6.one IJ;exact ab
theorem Hg(cs:C_ B_)(v:B_)(m:o.Model)(s:C_ Int)(w:A_)(h:o.dU w cs m)(aH:m.cA)(aJ:gF w)(ak:dc w v s) :
  Dz F.Hm #[.agg cs.toArray,v] w fun u w'=>(∃i:Int,u = .I i/\o.sM m s i)/\Ext w w':=by
 have cX:=h;obtain⟨bW,bu,bI,c1,bO,c2,bQ,bp,bZ,bB,rfl,_⟩:=h.form;obtain⟨os,r2,rfl,_⟩:=ak.form;refine bl E.Hm ?_;refine J ?_;intro w1 bP db ah au;refine J ?_;refine J_ (yy _ m w1 (cX.ext ah) aH (aJ.ext ah)) ?_;rintro _ aB ⟨rfl,aj⟩;replace au:=aj.obj au;have e2:=ah.trans aj;refine J ?_;refine _K (v:=.I (o.check m).cC) rfl ?_;refine J ?_;refine I_ (fun hk=>?_) (fun hk=>?_);rotate_left
 .have ax:¬o.hB m s:=fun bD=>hk bD.1;refine J ?_;exact⟨⟨-1,aL,⟨fun _=>rfl,fun bD=>absurd bD ax,fun bD=>absurd bD ax⟩⟩,e2⟩
 refine J ?_;refine J_ (adE _ m _ s aB (cX.ext e2) aH (aJ.ext e2) (ak.ext Flat.ext e2)) ?_;rintro _ aK ⟨⟨t,rfl,aA⟩,ag⟩;replace au:=ag.obj au;have a1:=e2.trans ag;cases t with
 | false =>
  have ax:¬o.hB m s:=fun bD=>by have:=aA.2 bD;cases this
  refine J ?_;exact⟨⟨-1,aL,⟨fun _=>rfl,fun bD=>absurd bD ax,fun bD=>absurd bD ax⟩⟩,a1⟩
 | true =>
 have bD:=aA.1 rfl;have lu:=o.iu hk;have aae:=o.tU lu.lim;have gG:=o.Fs lu;obtain⟨f6,f7,f8⟩:=o.tC m;have hlen:=bD.2.len;refine dO ?_;refine S_ [1,2] (fun x:(Nat×Nat)×B_=>[(5,.pointer (some ⟨x.1.1,0,none⟩)),(6,.pointer (some ⟨x.1.2,0,none⟩)),(7,x.2)]) (fun x W=>Ext aK W/\∃ho bH,W.heap[x.1.1]? = some (.cells #[ho] T.g)/\W.heap[x.1.2]? = some (.cells #[bH] T.p)/\sP W ho (o.refs m)/\kk W bH (o.insts m)/\bg 1 (Flat cE) W x.2 (o.layout m).insts) ?_ ?_
 .refine AB5 _ _ (by rfl) ?_;intro aR aw;dsimp only[strip];replace au:=aw.obj au;have bC:=a1.trans aw;refine J ?_;refine⟨jF _ aR m,[5,6,7,26,28],?_,⟨Ext.refl _,fun _ _=>rfl,Bh,Bh,Bh,Bh,Bh,Bh,Bh,Bh⟩,?_⟩
  .have BS:=cX.ext bC;have dz:=aJ.ext bC;clear au h ak
   repeat' first
    | exact hQ.nil
    | exact hQ.done BJ
    | refine hQ.alt (apc BJ BJ BS lu.lim rfl) ?_ ?_
    | refine hQ.alt (apd BJ BJ BS aH rfl) ?_ ?_
    | refine hQ.fq (ape BJ BJ BS aH dz hk rfl) ?_ ?_
    | refine hQ.alt (apg BJ BJ) ?_ ?_
    | refine hQ.alt (aph BJ BJ) ?_ ?_
    | refine hQ.take (apf BJ BJ BJ) ?_
    | refine hQ.take (api BJ BJ) ?_
    | refine hQ.fq (apj BJ BJ BJ) ?_ ?_
    | refine hQ.fq (apk BJ BJ BJ) ?_ ?_
  .rintro D p3 bo h8 aX;have ai:=aX.nj (h8 7 BJ);obtain⟨dE,cO,de,dQ⟩:=aX.f5 (h8 5 BJ);obtain⟨ee,dH,df,eO⟩:=aX.f6 (h8 6 BJ);rw[decide_eq_true (show 1<=D.count 100000 by omega)] at dQ;rw[decide_eq_true ai] at eO;exact⟨((dE,ee),p3 7),⟨de,df,rfl,trivial⟩,aw.trans aX.ext,_,_,dQ,eO,aX.f26 (h8 26 BJ),aX.f28 (h8 28 BJ),aX.f7 (h8 7 BJ)⟩
 rintro⟨⟨dE,ee⟩,dn⟩ p3 aR ⟨aw,ho,bH,bY,b1,j6,aX,df⟩;dsimp only at bY b1 df;replace au:=aw.obj au;have bC:=a1.trans aw;have BS:=cX.ext bC;obtain⟨b9,ci,rfl,_⟩:=aX.form;obtain⟨fm,gd,rfl,_⟩:=j6.form;obtain⟨aO,fz,rfl,_⟩:=df.form;have dv:∀{W} (r:Nat),Ext aR W->r<(o.refs m).length->Dz F.q #[.I r,.pointer (some ⟨bP,0,none⟩),.pointer (some ⟨ee,0,none⟩),.pointer (some ⟨dE,0,none⟩)] W fun u w'=>u = .I (o.BL m r)/\Ext W w' :=
  fun {W} r e aG=>aps _ _ _ m r bP ee dE W (BS.ext e) (aX.ext Flat.ext e) (j6.ext Flat.ext e) hk aG (e.obj au) (e.obj b1) (e.obj bY)
 have ft:∀{W},Ext aR W->W.heap[bP]? = _:=fun e=>e.obj au;have QZ:∀{W},Ext aR W->W.heap[dE]? = _:=fun e=>e.obj bY;refine J ?_;refine L_ 35 (o.insts m).length [1,2,5,6,7,8,33,34] (fun _:Unit=>[(9,.I (-1))]) () (fun i _ W=>Ext aR W/\∀j,j<i->¬o.qL m s j) a8 a8 ⟨Ext.refl _,fun j aC=>absurd aC (LC _)⟩ ?_;clear au bY b1;rintro i _ S bo U ⟨aF,fg⟩;have au:=ft aF;have bY:=QZ aF;have bF:=bC.trans aF;refine J ?_;apply I_<;>intro g1;rotate_left
 .refine J ?_;exact⟨⟨-1,aL,⟨fun _=>rfl,fun _ _=>⟨rfl,fun j aC=>fg j Aw⟩,fun _ h=>absurd h Aw⟩⟩,bF⟩
 have cw:i<(o.insts m).length:=Aw
 obtain⟨p,hIn⟩:=o.Fq cw;obtain⟨EM,qu⟩:=o.rq cw;have EN:=hIn.room;have yK:=df.ext Flat.ext aF;have rp:=ak.ext Flat.ext bF;obtain⟨a2,rfl⟩:∃a,aO=some a:=df.addr;obtain⟨Nx,rfl⟩:=ak.addr;have sf:o.u2 m s i=s[o.da m i]' Aw:=by unfold o.u2;rw[List.getElem?_eq_getElem Aw];rfl
 refine J ?_;refine K_ (o.da m i) (by rw[qu]) Aw ?_;refine J ?_;obtain⟨loc,alf⟩:∃loc,loc=s[o.da m i]:=⟨_,rfl⟩;rw[<-alf] at sf ⊢;clear yK rp;refine J_ (ag8 _ m i loc bo (cX.ext bF) aH (aJ.ext bF)) ?_;rintro _ bt ⟨⟨t,rfl,cM⟩,aI⟩;replace au:=aI.obj au;replace bY:=aI.obj bY;have cg:=bF.trans aI;have hq:=aF.trans aI;have Yt:=cM.is;have uL:¬o.qL m s i->∀j,j<i+1->¬o.qL m s j:=fun b8 j aC dI=>by
  by_cases e:j=i
  .rw[e] at dI;exact b8 dI
  .exact fg j Aw dI
 cases t with
 | false =>
  have b8:¬o.qL m s i:=fun dI=>by have:=dI.loc;rw[sf,<-Yt] at this;cases this
  have:=uL b8
  refine J ?_;exact⟨Aw,aL,(),⟨aL,trivial⟩,hq,this⟩
 | true =>
 have Ds:=j6.ext Flat.ext hq;refine J ?_;have QY:∀{W},Ext bt W->W.heap[bP]? = _:=fun e=>e.obj au;clear au bY;refine L_ 52 (o.refs m).length [1,2,5,6,7,8,9,10,11,33,34,35,50,51] (fun b:Bool=>[(12,.bool b)]) false (fun k b W=>Ext bt W/\(∀r,r<k->o.pA m i loc r=true->o.xc m r=false)/\(b=true↔∃r,r<k/\o.pA m i loc r=true/\o.xx m s r)) a8 a8 ⟨Ext.refl _,fun r aG=>absurd aG (LC _),Bh⟩ ?_;rintro k b S bG zO ⟨bm,EE,JA⟩;have au:=QY bm;have c8:=cg.trans bm;have gx:=hq.trans bm;have A3:=Ds.ext Flat.ext bm;refine J ?_;apply I_<;>intro g2;rotate_left
 .have oh:k=(o.refs m).length:=Aw
  have OZ:b=true↔o.qL m s i:=by
   rw[o.ahz,sf,JA];constructor
   .rintro⟨r,h1,I,ab⟩;exact⟨Yt.symm,fun r' pI=>EE r' (by have:=pI.lt;omega) ((o.It hk pI.lt).2 pI),r,(o.It hk Aw).1 I,ab⟩
   .intro dI;obtain⟨r,h1,I⟩:=dI.on;exact⟨r,by have:=h1.lt;omega,(o.It hk h1.lt).2 h1,I⟩
  clear EE JA;cases b with
  | true =>
   have dI:=OZ.1 rfl;refine J ?_;have lS:o.sM m s (i:Int):=⟨fun ax=>absurd bD ax,fun _ h=>absurd h Aw,fun _ _=>⟨Aw,by rw[AF4];exact dI,fun j aC=>fg j Aw⟩⟩;exact⟨⟨i,aL,lS⟩,c8⟩
  | false =>
   have:=uL fun dI=>by have:=OZ.2 dI;cases this
   clear OZ fg;refine J ?_;exact⟨Aw,aL,(),⟨aL,trivial⟩,gx,this⟩
 have aV:k<(o.refs m).length:=Aw
 obtain⟨LB,pp,kt,bq⟩:=o.oO (m:=m) (ref:=k) ⟨hk,Aw,Aw⟩;obtain⟨Sn,Sp⟩:=bq.rel;have gm:(o.refs m)[k].inst=(LB:Int):=bq.at_.ox;obtain⟨jI,rfl⟩:=A3.addr;have gj:=A3.at k aV;obtain⟨r,aG⟩:∃r,r=(o.refs m)[k]:=⟨_,rfl⟩;rw[<-aG] at gj gm;have gj:e7 bG (jI.add (k*2)) r.enc:=gj;unfold o.Ref.enc at gj;obtain⟨hC,qs⟩:∃hC,hC=o.BL m k:=⟨_,rfl⟩;have PT:o.pA m i loc k=(decide (r.inst=i)&&decide (hC=loc)):=by unfold o.pA;rw[Sn,<-gm,qs]
 have dv:∀{W},Ext bG W->Dz F.q #[.I k,.pointer (some ⟨bP,0,none⟩),.pointer (some ⟨ee,0,none⟩),.pointer (some ⟨dE,0,none⟩)] W fun u w'=>u = .I hC/\Ext W w':=fun e=>by rw[qs];exact dv k (gx.trans e) aV
 have tM:∀{W} (fG:Bool),Ext bG W->(o.pA m i loc k=true->o.xc m k=false)->(fG=true↔b=true\/(o.pA m i loc k=true/\o.xx m s k))->Ext bt W/\(∀r,r<k+1->o.pA m i loc r=true->o.xc m r=false)/\(fG=true↔∃r,r<k+1/\o.pA m i loc r=true/\o.xx m s r):=fun fG e h1 I=>⟨bm.trans e,fun r aG av=>by
   by_cases e:r=k
   .subst e;exact h1 av
   .exact EE r Aw av,by
   rw[I,JA];constructor
   .rintro(⟨r,cZ,a2,a3⟩ | ⟨a2,a3⟩)
    .exact⟨r,Aw,a2,a3⟩
    .exact⟨k,Aw,a2,a3⟩
   .rintro⟨r,cZ,a2,a3⟩;by_cases e:r=k
    .subst e;exact .inr ⟨a2,a3⟩
    .exact .inl ⟨r,Aw,a2,a3⟩⟩
 clear JA Ds Sn Sp;refine J ?_;intro wn s3 BW fr eE;refine J ?_;intro cQ iK oa;replace oa:cQ.heap[s3]? = some (.cells #[.I r.inst,.I r.cmd] T.c):=by first | exact oa | (rw[aG];exact oa)
 have bA:Ext bG cQ:=iK.ext fr BW;replace au:=bA.obj au;have eY:=c8.trans bA;have hr:=gx.trans bA;clear eE gj A3;by_cases g7:r.inst=(i:Int);rotate_left
 .have ad:o.pA m i loc k=false:=by rw[PT,decide_eq_false g7];rfl
  have:=tM b bA (fun h=>by rw[ad] at h;cases h) ⟨fun h=>.inl h,fun h=>by rcases h with h | ⟨h,_⟩;exact h;rw[ad] at h;cases h⟩
  clear EE tM fg uL dv ft QZ QY;refine J ?_;exact⟨aV,aL,b,⟨aL,trivial⟩,this⟩
 have j9:o.pA m i loc k=decide (hC=loc):=by rw[PT,decide_eq_true g7,AJ3]
 replace tM:=i_ @tM trivial;replace fg:=i_ fg trivial;replace dv:=i_ @dv trivial;replace uL:=i_ uL trivial;have B0:o.qL m s i->o.pA m i loc k=true->o.xc m k=false:=fun dI av=>dI.HU k (by rw[sf];exact(o.It hk aV).1 av);replace B0:=i_ B0 trivial;replace j9:=i_ j9 trivial;clear EE qs PT gm bq aG ft QZ QY;refine J ?_;refine V_ (first:=[]) (cap:=[.pointer (some ⟨bP,0,none⟩),.pointer (some ⟨ee,0,none⟩),.pointer (some ⟨dE,0,none⟩)]) Cq (dv.1 bA) ?_;rintro _ cS ⟨rfl,bT⟩;replace au:=bT.obj au;have jq:=eY.trans bT;have gR:=hr.trans bT;have Yk:=bA.trans bT;clear dv;by_cases g8:hC=loc;rotate_left
 .have ad:o.pA m i loc k=false:=by rw[j9.1,decide_eq_false g8]
  have:=tM.1 b Yk (fun h=>by rw[ad] at h;cases h) ⟨fun h=>.inl h,fun h=>by rcases h with h | ⟨h,_⟩;exact h;rw[ad] at h;cases h⟩
  clear tM fg uL;refine J ?_;exact⟨aV,aL,b,⟨aL,trivial⟩,this⟩
 have h1:o.pA m i loc k=true:=by rw[j9.1,decide_eq_true g8]
 replace h1:=i_ h1 trivial;refine J ?_;refine J_ (ag9 _ m k cS (cX.ext jq) aH (aJ.ext jq)) ?_;rintro _ eG ⟨⟨t,rfl,b3⟩,ch⟩;replace au:=ch.obj au;have jo:=jq.trans ch;have xq:=gR.trans ch;have Yj:=Yk.trans ch;have kH:=b3.is;cases t with
 | true =>
  have b8:¬o.qL m s i:=fun dI=>by have:=B0.1 dI h1.1;rw[<-kH] at this;cases this
  have:=uL.1 b8
  clear tM fg uL B0 b3 kH;refine J ?_;exact⟨Aw,aL,(),⟨aL,trivial⟩,xq,this⟩
 | false =>
 cases b with
 | true =>
  have:=tM.1 true Yj (fun _=>kH.symm) ⟨fun h=>.inl h,fun _=>rfl⟩
  clear tM fg uL B0 b3 kH;refine J ?_;exact⟨aV,aL,true,⟨aL,trivial⟩,this⟩
 | false =>
  replace kH:=i_ kH trivial;clear b3;refine J ?_;refine J_ (ail _ _ m s k eG (cX.ext jo) aH (aJ.ext jo) (ak.ext Flat.ext jo)) ?_;rintro _ fN ⟨⟨t2,rfl,hO⟩,eg⟩;have O5:=o.amW bD aV hO
  have:=tM.1 t2 (Yj.trans eg) (fun _=>kH.1.symm) ⟨fun h=>.inr ⟨h1.1,O5.1 h⟩,fun h=>by rcases h with h | ⟨_,h⟩;cases h;exact O5.2 h⟩
  clear tM fg uL B0 kH hO O5;refine J ?_;exact⟨aV,aL,t2,⟨aL,trivial⟩,this⟩
end Go.Proofs.R
end
section
namespace a7
open Go Go.RowKit
theorem XR{α:Type}{p:α->Bool}:∀(l:C_ α) (n:Nat),(lR p l n = -1/\l.filter (fun x => !p x)=l)\/∃k,∃h:k<l.length,lR p l n=((n+k:Nat):Int)/\p l[k]=true/\(l.take (k+1)).filter (fun x => !p x)=l.take k
 | [],_=>.inl ⟨rfl,rfl⟩
 | x :: r,n=>by
  by_cases aq:p x=true
  .exact .inr ⟨0,Bh,by simp[lR,aq],by simpa using aq,by simp[aq]⟩
  .rcases XR (p:=p) r (n+1) with ⟨h1,I⟩ | ⟨k,hk,h1,I,ab⟩
   .exact .inl ⟨by simp[lR,aq,h1],by simp[aq,I]⟩
   .exact .inr ⟨k+1,by simpa using hk,by simp only[lR,if_neg aq,h1];congr 1;omega,by simpa using I,by simp[aq,ab]⟩
theorem aiv{α:Type}{q:α->Bool}{l:C_ α}{j:Nat}(h:j<l.length):(l.take (j+1)).filter q=(l.take j).filter q++if q l[j] then [l[j]] else []:=by
 rw[L1 h,AK5];congr 1;cases h:q l[j]<;>simp[h]
theorem Sz:∀(cs:C_ B_) (w:A_) (b ae i:Nat) (cur:Array B_) (e:F_),w.heap[b]? = some (.cells cur e)->ae+i+cs.length<=cur.size ->
  ∃lP,(ih w ⟨b,ae,none⟩ cs i).heap[b]? = some (.cells lP e)/\lP.size=cur.size/\(∀j,j<ae+i\/ae+i+cs.length<=j->lP[j]? = cur[j]?)/\∀j (h:j<cs.length),lP[ae+i+j]? = some cs[j]
 | [],w,b,ae,i,cur,e,an,_=>⟨cur,an,rfl,fun _ _=>rfl,fun j h=>absurd h (LC _)⟩
 | c :: cs,w,b,ae,i,cur,e,an,az=>by
  have aC:ae+i<cur.size:=by simp at az;omega
  have h1:=Ge an aC c;have kE:Addr.add ⟨b,0,none⟩ (ae+i)=Addr.add ⟨b,ae,none⟩ i:=by rw[add_eq,add_eq,AE9]
  rw[kE] at h1;obtain⟨lP,cq,cB,e5,hK⟩:=Sz cs _ b ae (i+1) _ e h1 (by simp at az ⊢;omega);refine⟨lP,cq,by simpa using cB,fun j mm=>?_,fun j h=>?_⟩
  .rw[e5 j (by simp at mm ⊢;omega),Array.getElem?_set_ne _ (by simp at mm;omega)]
  .cases j with
   | zero =>
    rw[AJ2,e5 (ae+i) Aw,Array.getElem?_set_self];rfl
   | succ j =>
    have:=hK j (by simpa using h)
    rw[show ae+i+(j+1)=ae+(i+1)+j from Aw,this];rfl
end a7
namespace Go.Proofs.R
open Go Go.RowKit a7
theorem WL{w:A_}{b j:Nat}{c:Array B_}{t:F_}{v:B_}(h:w.heap[b]? = some (.cells c t))(aC:c[j]? = some v):w.cell? ⟨b,j,none⟩=some v:=by
 simp[World.cell?,h,aC]
structure im(w:World)(b:Nat)(l:List (e8 3)):Prop where
 ex:∃cur,w.heap[b]? = some (.cells cur T.j)/\3*l.length<=cur.size/\∀i (h:i<l.length),∀j,j<3->cur[3*i+j]? = l[i].1[j]?
theorem im.ext{w w':A_}{b:Nat}{l:C_ (e8 3)}(h:im w b l)(he:Ext w w'):im w' b l:=by
 obtain⟨cur,h1,I,ab⟩:=h.ex;exact⟨cur,he.obj h1,I,ab⟩
theorem im.at_{w:A_}{b:Nat}{l:C_ (e8 3)}(h:im w b l){i:Nat}(U:i<l.length):e7 w ⟨b,3*i,none⟩ l[i].1:=by
 obtain⟨cur,h1,I,ab⟩:=h.ex;have e:(⟨b,3*i,none⟩:Addr)=Addr.add ⟨b,0,none⟩ (3*i):=by rw[add_eq,AE9]
 intro j v aC;have az:j<3:=by
  have:=(List.getElem?_eq_some_iff.1 aC).1
  rw[l[i].2.1] at this;exact this
 have cq:=ab i U j az;rw[aC] at cq;rw[e,add_eq,add_eq,AE9];exact WL h1 cq
theorem im.take{w:A_}{b:Nat}{l:C_ (e8 3)}(h:im w b l)(k:Nat):im w b (l.take k):=by
 obtain⟨cur,h1,I,ab⟩:=h.ex;refine⟨cur,h1,by rw[LQ];omega,fun i U j aC=>?_⟩;rw[LQ] at U;rw[ab i Aw j aC,AI7]
theorem im.set{w:A_}{b i:Nat}{l:C_ (e8 3)}(h:im w b l)(U:i<l.length)(x:e8 3):im (ih w ⟨b,3*i,none⟩ x.1 0) b (l.set i x):=by
 obtain⟨cur,h1,I,ab⟩:=h.ex;have af:=x.2.1;obtain⟨lP,cq,cB,e5,hK⟩:=Sz x.1 w b (3*i) 0 cur _ h1 Aw;refine⟨lP,cq,by rw[AE8,cB];exact I,fun t aA j aC=>?_⟩;rw[AE8] at aA;by_cases e:i=t
 .subst e;rw[AK2]
  have:=hK j Aw
  rw[AJ2] at this;rw[this,List.getElem?_eq_getElem Aw]
 .rw[List.getElem_set_ne e,e5 _ Aw];exact ab t aA j aC
theorem im.cut{w:A_}{b k:Nat}{l:C_ (e8 3)}{zs:C_ B_}(h:im w b l)(bw:3*k+zs.length<=3*l.length):im (ih w ⟨b,3*k,none⟩ zs 0) b (l.take k):=by
 obtain⟨cur,h1,I,ab⟩:=h.ex;obtain⟨lP,cq,cB,e5,_⟩:=Sz zs w b (3*k) 0 cur _ h1 Aw;refine⟨lP,cq,by rw[LQ,cB];omega,fun t aA j aC=>?_⟩;rw[LQ] at aA;rw[AI7,e5 _ Aw];exact ab t Aw j aC
theorem atb{P:D_}{ty:F_}{z:B_}(h:(P.info? ty).bind (·.zero)=some z)(w:A_):(zeroValue ty).run P w = .ok z w:=by
 cases U:P.info? ty with
 | none=>rw[U] at h;cases h
 | some i =>
  rw[U] at h;have I:i.zero=some z:=h;simp[zeroValue,tW U,I]
theorem im.free{w:A_}{b:Nat}{l:C_ (e8 3)}(h:im w b l){j:Nat}(aC:j<3*l.length):(∃hz,w.cell? ⟨b,j,none⟩=some hz)/\w.frozen? ⟨b,j,none⟩=false:=by
 obtain⟨cur,h1,I,_⟩:=h.ex;exact⟨⟨cur[j]' Aw,WL h1 (Array.getElem?_eq_getElem Aw)⟩,by simp[World.frozen?,h1]⟩
theorem AE0{w:A_}{b i:Nat}{l:C_ (e8 3)}{x:e8 3}{a:Addr}{KW:A_->Prop}{t}(h:im w b l){v:B_}(aD:v = .agg x.1.toArray)(aU:a=⟨b,3*i,none⟩)(U:i<l.length)(hk:∀w1,di b w w1->im w1 b (l.set i x)->KW w1) :
  Ba 3 (.pointer (some a)) v w KW t:=by
 subst aU aD;refine _5 (by simp[x.2.1]) (fun j aC=>?_) x.2.2 (hk _ (di.ih _ w ⟨b,3*i,none⟩ 0) (h.set U x));rw[add_eq];exact h.free Aw
theorem AE1{S:Fr}{w:A_}{b k n cap:Nat}{l:C_ (e8 3)}{x:G_}{aO:H_ Addr}{cK:B_->A_->Prop}{ty:F_}{t}(h:im w b l)(af:bn S x = .slice aO n cap)(ax:k+n=l.length)(aU:0<n->aO=some ⟨b,3*k,none⟩)
  (hk:∀v w1,Mod (fun i=>i=b) w w1->im w1 b (l.take k)->cK v w1):uh Tryz.prog (.call ⟨.builtin .clear,#[x],#[T.Nt]⟩) ty S w cK t:=by
 have bw:∀w:A_,(zeroValue T.j).run Tryz.prog w = .ok (.agg #[.I 0,.I 0,.slice none 0 0]) w:=atb Cq;have hu:Tryz.prog.underlying T.Nt=some (.slice T.j):=Cq
 cases n with
 | zero =>
  refine _D (v:=.tuple #[]) (w':=w) ?_ (hk _ _ (Mod.refl _ _) (h.take k));cases aO<;>simp[execOp,resolve,invoke,builtin,af,Builtin.clear_,run_underlying hu]
 | succ n =>
  obtain rfl:=aU Aw;refine _D (v:=.tuple #[]) (w':=ih w ⟨b,3*k,none⟩ (Builtin.zeroCells #[.I 0,.I 0,.slice none 0 0] (n+1)).toList 0) ?_ (hk _ _ ((di.ih _ w ⟨b,3*k,none⟩ 0).mod rfl) (h.cut ?_))
  .have ak:=Ga Tryz.prog ⟨b,3*k,none⟩ (Builtin.zeroCells #[.I 0,.I 0,.slice none 0 0] (n+1)).toList 0 w (fun j aC=>?_) ?_
   .simp[execOp,resolve,invoke,builtin,af,Builtin.clear_,run_underlying hu,bw,Value.cells,ak]
   .rw[add_eq];exact h.free (by simp[Builtin.zeroCells] at aC;omega)
   .intro c ai;simp only[Builtin.zeroCells,Array.toList_map,List.mem_map] at ai;obtain⟨i,_,rfl⟩:=ai;show((#[Value.int .i64 0,.I 0,.slice none 0 0]:Array B_)[i % 3]!).oneCell'=true;rcases(by omega:i % 3=0\/i % 3=1\/i % 3=2) with e | e | e<;>rw[e]<;>rfl
  .simp[Builtin.zeroCells];omega
end Go.Proofs.R
end