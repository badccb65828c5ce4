/- Parts. -/
import Derived.Test.YtakmdjclehkglaaGreatDoorQasp
import Derived.Test.YtakmdjclehkglaaGreatDoorQasq
set_option linter.all false
set_option maxRecDepth 8000
set_option maxHeartbeats 32000000
section
namespace Go.Proofs.R
open Go Go.RowKit ba
def uk(w:A_)(cs:C_ B_)(x:o.iR):Prop := ∃v,cs=[.int .i64 x.cmd,.int .i64 x.k2,v]/\dw w v x.to
def y4(w:A_)(a:Addr)(x:o.iR):Prop := ∃v,fi w a [.int .i64 x.cmd,.int .i64 x.k2,v]/\dw w v x.to
instance auu:Rel y4 uk 3 where
 out h:=by
  obtain⟨v,h1,I⟩:=h;exact⟨_,h1,v,rfl,I⟩
 oG h k:=by
  obtain⟨v,rfl,k⟩:=k;exact⟨v,h,k⟩
 len h:=by obtain⟨v,rfl,_⟩:=h;rfl
 one h:=by obtain⟨v,rfl,h⟩:=h;simpa[Value.oneCell'] using h.one
 ext e h:=let ⟨v,h1,I⟩:=h; ⟨v,h1,I.ext Flat.ext e⟩
theorem y4.ext{w w':A_}{a:Addr}{x:o.iR}(he:Ext w w')(h:y4 w a x):y4 w' a x :=
 let ⟨v,h1,I⟩:=h; ⟨v,h1.ext he,I.ext Flat.ext he⟩
abbrev kc(w:A_)(v:B_)(l:C_ o.iR):Prop:=bn 3 y4 w v l
theorem apb(cs:C_ B_)(v:B_)(m:o.Model)(s:C_ Int)(w:A_)(h:pD w cs m)(aK:m.cK)(hk:(o.check m).cN=0)(ak:dw w v s)(ay:o.Fits m s) :
  DD F.K4 #[.agg cs.toArray,v] w fun u w'=>kc w' u (o.gv m s)/\Ext w w':=by
 have eD:=h;have aW:=o.j3 hk;have cY:=aW.lim;have ix:=o.ve cY;obtain⟨eK,d0,dM,d1,et,d2,eB,d3,eL,d4,LR,g0,LS,g1,AS,g2,acZ,g3,AT,g4,cn,ci,fA,gp,rfl,_,_,_,_,_,_,_,_,_,I,_⟩:=eD.form;obtain⟨os,r9,rfl,F5⟩:=ak.form;refine br E.K4 ?_;refine J ?_;intro w1 bS dm ai av;refine J ?_;refine L_ 6 (o.refs m).length [1,2] (fun v:gA=>[(5,.slice v.1 v.2.1 v.2.2)]) (none,0,0) (fun k v W=>Ext w1 W/\eP uk T.k 3 w1.heap.size W (.slice v.1 v.2.1 v.2.2) (o.jy m s k)) bc bc ⟨Ext.refl _,eP.nil _ _ _ _ _⟩ ?_;rintro k v S aD a1 ⟨aj,dA⟩;have aJ:=ai.trans aj;have zR:=aj.obj av;have iw:=o.QI m s k;obtain⟨aaY,co,Px,_⟩:=dA.form;refine J ?_;refine I_ (fun j2=>?_) (fun j2=>?_)
 .have z6:k<(o.refs m).length:=AK
  obtain⟨q,p,kE,bF⟩:=o.pM (m:=m) (ref:=k) ⟨hk,AK,AK⟩;refine J ?_;refine J_ (apc _ _ m s k q p kE aD (eD.ext aJ) aK (ak.ext Flat.ext aJ) ay bF) ?_;rintro u aN ⟨bU,ah⟩;have ai3:=ah.obj zR;have a7:=aJ.trans ah;rcases bU with ⟨fD,rfl⟩ | ⟨t,k1,ja,rfl,l9⟩
  .refine J ?_;exact⟨z6,aL,v,⟨rfl,trivial⟩,aj.trans ah,by rw[o.F9,bF.off fD,AF1];exact dA.ext ah⟩
  obtain⟨rF,uB,rfl,_⟩:=l9.form;have anq:=kF l9;have Fb:=aS.new (enc:=cL) (fun _=>rfl) l9;have dT:=dA.ext ah;have z2:=aj.size;have z3:=ah.size;refine J ?_;intro aU cC ff ax bp;have dO:=dT.ext ax;have z4:=ax.size;refine _I (x:=(⟨k,0,t⟩:o.iR)) (cs:=[.I k,.I 0,.slice rF t.length uB]) dO (gT bp)
   (((ey.own (w1:=aN) Fb dA AK).imp fun w h=>⟨_,rfl,h⟩).ext ax fun i U hk=>by have:=dA.under AK i hk;omega) rfl (by simp[Value.oneCell']) AK (by unfold maxLen;omega) AK fun b0 bt tB hg=>?_
  have y1:=dO.ln ((aj.trans ah).trans ax) hg (GA _);have bJ:=ai.trans y1;have aku:=(Fb.ext ax AK).grown hg fun k hk=>(dA.lt k hk).2;have z5:=y1.size;have X0:=y1.obj av;obtain⟨anB,aeX,rfl,_⟩:=tB.form;have anr:=aku.here;have z25:aD.heap.size<=bt.heap.size:=by have:=hg.size;omega
  clear zR ai3 bp dO dT Fb hg l9 anq;refine J ?_;intro bz aM;have atw:=aM.obj X0;have cv:=bJ.trans aM;refine J ?_;refine J_ (Rj _ m k q p kE bz (eD.ext cv) bF) ?_;rintro _ bK ⟨⟨fq,dH,rfl,h6,gG⟩,bq⟩;have dz:=cv.trans bq;refine⟨bq,?_⟩;refine J ?_;refine J_ (ap6 _ _ _ _ m.aw bK (gG.ext bq) (I.ext dz)) ?_;rintro _ c4 ⟨rfl,bG⟩;have fk:=dz.trans bG;have A6:=(aM.trans bq).trans bG;have ai4:=A6.obj X0;have Zi:=tB.ext A6;obtain⟨ar9,P7⟩:∃x,x=o.ways (o.bT m p kE) m.aw:=⟨_,rfl⟩;rw[<-P7];refine J ?_;refine I_ (fun hS=>?_) (fun hS=>?_);rotate_left
  .refine J ?_;exact⟨z6,aL,(anB,_,aeX),⟨rfl,trivial⟩,y1.trans A6,by rw[o.F9,bF.QX ja AK];exact Zi⟩
  have nR:o.ways (o.bT m p kE) m.aw=2:=AK
  obtain⟨j,aF,sk⟩:=o.ac7 nR;have cg:=o.VZ bF ay ja;have dY:(o.chanOf m s j).length=1+o.gE m j:=o.uz (by rw[ay.len];exact o.nA sk);refine J ?_;refine J_ (Rj _ m k q p kE c4 (eD.ext fk) bF) ?_;rintro _ c6 ⟨⟨fq,dH,rfl,h6,gG⟩,b5⟩;have ll:=fk.trans b5;have qq:=b5.obj ai4;refine J ?_;refine J_ (abF _ _ _ c6 (gG.ext b5)) ?_;rintro _ eO ⟨rfl,cr⟩;have lk:=ll.trans cr;have ai2:=cr.obj qq;rw[aF];refine J ?_;intro gy e6;have atv:=e6.obj ai2;have zz:=lk.trans e6;refine J ?_;refine J_ (Rn _ _ m s j gy (eD.ext zz) aW (ak.ext Flat.ext zz) ay.len sk) ?_;rintro u ji ⟨hu,fb⟩;obtain⟨xd,uC,rfl,_⟩:=hu.form;have q7:=zz.trans fb;have G9:=((b5.trans cr).trans e6).trans fb;refine⟨fb,?_⟩;refine J ?_;refine J_ (Ru _ _ _ m t (o.chanOf m s j) j ji (eD.ext q7) aW (anr.ext Flat.ext (A6.trans G9)) hu cg sk dY) ?_;rintro u mR ⟨JI,hL⟩;obtain⟨CE,BE,rfl,_⟩:=JI.form;have akt:=aS.new (enc:=cL) (fun _=>rfl) JI;have Ag:=Zi.ext G9;have asa:=hL.size;have z12:=(A6.trans G9).size;refine J ?_;intro vn s6 BZ lr ox;have avB:=lr.size;have JL:=Ag.ext (hL.trans lr);have atP:(o.jy m s k++[(⟨k,0,t⟩:o.iR)]).length<=2*k+1:=by rw[Ln];simp only[List.length_cons,List.length_nil];omega
  have hN:o.lost m s t (o.bT m p kE)=o.hR t (o.cm m j) (o.chanOf m s j):=by unfold o.lost;rw[aF,AG9]
  refine _I (x:=(⟨k,1,o.hR t (o.cm m j) (o.chanOf m s j)⟩:o.iR)) (cs:=[.I k,.I 1,.slice CE (o.hR t (o.cm m j) (o.chanOf m s j)).length BE]) JL (gT ox)
   (((ey.own (w1:=mR) akt Ag AK).imp fun w h=>⟨_,rfl,h⟩).ext lr fun i U hk=>by have:=Ag.under AK i hk;omega) rfl (by simp[Value.oneCell']) AK (by unfold maxLen;omega) AK fun b0 L2 Zg ajQ=>?_
  have adC:=JL.ln (((y1.trans (A6.trans G9)).trans hL).trans lr) ajQ (GA _);obtain⟨qK,s9,rfl,_⟩:=Zg.form;have alh:o.jy m s (k+1)=o.jy m s k++[(⟨k,0,t⟩:o.iR)]++[(⟨k,1,o.hR t (o.cm m j) (o.chanOf m s j)⟩:o.iR)]:=by rw[o.F9,bF.aaX ja nR,hN,Vq];rfl
  refine J ?_;exact⟨z6,aL,(qK,_,s9),⟨rfl,trivial⟩,adC,by rw[alh];exact Zg⟩
 .have jL:k=(o.refs m).length:=AK
  subst jL;obtain⟨eF,yF,fB⟩:=v;cases Px;refine J ?_;refine I_ (fun hS=>?_) (fun hS=>?_)
  .have Ac:o.jy m s (o.refs m).length=[]:=AF9 AK;have nj:o.gv m s=o.jy m s (o.refs m).length++[⟨-1,0,s⟩]:=by unfold o.gv;rw[Ac];rfl
   replace dA:eP uk T.k 3 w1.heap.size aD (.slice eF (o.jy m s (o.refs m).length).length fB) (o.jy m s (o.refs m).length):=dA;have E2:(o.jy m s (o.refs m).length).length=0:=by rw[Ac];rfl
   have ep:=ak.ext Flat.ext aJ;have z2:=aj.size;refine J ?_;intro aN bW fe ah bl;have dT:iS aD.heap.size aN (.slice (some ⟨bW,0,none⟩) 0 0) []:=aS.empty fe bl;have z3:=ah.size;have kA:o.dN m<=64:=o.jd aW;have lK:=ay.len;refine J ?_;refine _q dT (ep.ext Flat.ext ah) (fun _=>rfl) l3 (by simp only[List.length_nil];omega) (by simp only[List.length_nil];unfold maxLen;omega) ah.size fun v4 aU dO nM=>?_;have eo:Ext aD aU:=ah.grown nM fun i U=>(dT.lt i U).1;rw[AF8] at dO;obtain⟨gP,AT,rfl,_⟩:=dO.form;have Pv:=aS.new (enc:=cL) (fun _=>rfl) dO;have PF:=dA.ext eo;have z4:=eo.size;refine J ?_;intro bt dR kT aI b9;have tB:=PF.ext aI;have z5:=aI.size;refine _I (x:=(⟨-1,0,s⟩:o.iR)) (cs:=[.I (-1),.I 0,.slice gP s.length AT]) tB (gT b9)
    (((ey.own (w1:=aU) Pv dA AK).imp fun w h=>⟨_,rfl,h⟩).ext aI fun i U hk=>by have:=dA.under AK i hk;omega) rfl (by simp[Value.oneCell']) AK (by unfold maxLen;omega) AK fun b0 bz tC iJ=>?_
   have Mn:=tB.ln ((aj.trans eo).trans aI) iJ (GA _);obtain⟨qK,s9,rfl,_⟩:=tC.form;refine J ?_;exact⟨by rw[nj];exact tC.jD,ai.trans Mn⟩
  .have nj:o.gv m s=o.jy m s (o.refs m).length:=by
    unfold o.gv;split
    .rename_i az;rw[az] at hS;simp at hS
    .rfl
   refine J ?_;exact⟨by rw[nj];exact dA.jD,aJ⟩
theorem ao9(cs:C_ B_)(v:B_)(m:o.Model)(s:C_ Int)(w:A_)(h:o.eh w cs m)(aK:m.cK)(ak:dw w v s)(bH:o.gL m s) :
  DD F.Ay #[.agg cs.toArray,v] w fun u w'=>kc w' u (o.gv m s)/\Ext w w':=by
 have dc:=h;obtain⟨b6,bx,bR,c1,bX,c2,bZ,bu,ca,bC,rfl,_⟩:=h.form;obtain⟨os,r9,rfl,F5⟩:=ak.form;have aW:=o.j3 bH.1;refine br E.Ay ?_;refine J ?_;intro w1 cC ff ai bp;refine J ?_;refine J_ (abA _ m w1 (dc.ext ai) aK) ?_;rintro _ aD ⟨hO,aj⟩;replace bp:=aj.obj bp;have aJ:=ai.trans aj;rcases hO with ⟨hk,rfl⟩ | ⟨hk,zs,rfl,eD⟩
 .exact absurd bH.1 hk
 have Ex:=eD;obtain⟨eK,d0,dM,d1,et,d2,eB,d3,eL,d4,LR,g0,LS,g1,AS,g2,acZ,g3,AT,g4,cn,ci,fA,gp,rfl,_⟩:=eD.form;refine J ?_;intro aN r4 yf ah kk;have I6:=Ex.ext ah;have a7:=aJ.trans ah;refine J ?_;refine J_ (abB _ _ m s aN I6 aW (ak.ext Flat.ext a7)) ?_;rintro _ bt ⟨⟨t,rfl,aB⟩,aI⟩;obtain rfl:=aB.2 bH.2;replace kk:=aI.obj kk;have XS:=I6.ext aI;have bJ:=a7.trans aI;refine J ?_;refine J_ (apb _ _ m s bt XS aK hk (ak.ext Flat.ext bJ) bH.2) ?_;rintro _ bz ⟨tx,aM⟩;obtain⟨aaY,co,rfl,_⟩:=tx.form;refine J ?_;exact⟨tx,bJ.trans aM⟩
end Go.Proofs.R
end
section
namespace o
open Go
def jV(m:Model)(s:C_ Int)(q:Nat)(c:ea):C_ (C_ Int):=match hF m s q c with
 | none=>[]
 | some t=>t :: if ways c m.aw=2 then [lost m s t c] else []
theorem agv(m:Model)(s:C_ Int)(q:Nat)(c:ea):(jV m s q c).length<=2:=by
 unfold jV;cases hF m s q c with
 | none=>simp
 | some t=>by_cases h:ways c m.aw=2<;>simp[h]
theorem fr.ends{m:Model}{r q p k:Nat}(h:fr m r q p k)(s:C_ Int):(o.kW m s r).length=(jV m s q (bT m p k)).length/\∀j (h1:j<(o.kW m s r).length) (I:j<(jV m s q (bT m p k)).length),(o.kW m s r)[j]=⟨r,j,(jV m s q (bT m p k))[j]⟩:=by
 have e:=h.kW s;cases an:hF m s q (bT m p k) with
 | none =>
  rw[an] at e;have aJ:jV m s q (bT m p k)=[]:=by unfold jV;rw[an]
  rw[e,aJ];exact⟨rfl,fun j h1=>absurd h1 (K8 _)⟩
 | some t =>
  rw[an] at e;by_cases hw:ways (bT m p k) m.aw=2
  .have aJ:jV m s q (bT m p k)=[t,lost m s t (bT m p k)]:=by unfold jV;rw[an];simp[hw]
   have a7:o.kW m s r=[⟨r,0,t⟩,⟨r,1,lost m s t (bT m p k)⟩]:=by rw[e];simp[hw]
   rw[aJ,a7];refine⟨rfl,fun j h1 I=>?_⟩
   match j,h1 with
   | 0,_=>rfl
   | 1,_=>rfl
   | j+2,h1=>exact absurd h1 Bs
  .have aJ:jV m s q (bT m p k)=[t]:=by unfold jV;rw[an];simp[hw]
   have a7:o.kW m s r=[⟨r,0,t⟩]:=by rw[e];simp[hw]
   rw[aJ,a7];refine⟨rfl,fun j h1 I=>?_⟩
   match j,h1 with
   | 0,_=>rfl
   | j+1,h1=>exact absurd h1 Bs
end o
namespace Go.Proofs.R
open Go Go.RowKit ba
structure xE(base:Nat)(w:World)(u:Value)(cq:List (fj 1))(l:List (List Int)):Prop where
 len:cq.length=l.length
 row:pw T.b 1 base w u cq
 at_:∀i (h1:i<cq.length) (I:i<l.length),∃ae c,cq[i].1=[.slice ae l[i].length c]/\iS base w (.slice ae l[i].length c) l[i]
theorem xE.ext{base:Nat}{w w':A_}{u:B_}{cq:C_ (fj 1)}{l:C_ (C_ Int)}(he:Ext w w')(h:xE base w u cq l):xE base w' u cq l :=
 ⟨h.len,h.row.ext he,fun i h1 I=>let ⟨ae,c,e,k⟩:=h.at_ i h1 I; ⟨ae,c,e,k.ext he⟩⟩
theorem xE.mod{base:Nat}{w w':A_}{u:B_}{cq:C_ (fj 1)}{l:C_ (C_ Int)}{A:Nat->Prop}(h:xE base w u cq l)(hm:Mod A w w')(dg:∀k (x:Array B_) (e:F_),base<=k->w.heap[k]? = some (.cells x e)->e=T.b\/e=T.a->¬A k):xE base w' u cq l :=
 ⟨h.len,aS.mod h.row hm fun k hk=>let ⟨x,q⟩:=aS.cx h.row k hk;dg k x _ (aS.lt h.row k hk).1 q (.inl rfl),fun i h1 I=>let ⟨ae,c,e,k⟩:=h.at_ i h1 I; ⟨ae,c,e,aS.mod k hm fun j aF=>let ⟨x,q⟩:=aS.cx k j aF;dg j x _ (aS.lt k j aF).1 q (.inr rfl)⟩⟩
theorem ahB(c9:Nat)(dH lV:B_)(m:o.Model)(s t:C_ Int)(ref:Int)(q p k:Nat)(w:A_)(eD:pC w c9 m)(ak:dw w dH s)(aB:dw w lV t)(atW:s.length=o.dN m)(cg:t.length=o.dN m)(bF:o.fr m ref q p k)(nR:o.ways (o.bT m p k) m.aw=2) :
  DD F.d8 #[.pointer (some ⟨c9,0,none⟩),dH,lV,.I ref] w fun u w'=>iS w.heap.size w' u (o.lost m s t (o.bT m p k))/\Ext w w':=by
 obtain⟨j,aF,sk⟩:=o.ac7 nR;have aW:=o.j3 bF.ok;have wM:=o.nA sk;have kA:o.dN m<=64:=o.jd aW;have dY:(o.chanOf m s j).length=1+o.gE m j:=o.uz AK;obtain⟨bR,c1,rfl,_⟩:=ak.form;obtain⟨bX,c2,rfl,_⟩:=aB.form;refine br E.d8 ?_;refine J ?_;refine J_ (WW c9 m ref q p k w eD bF) ?_;rintro _ w1 ⟨⟨gw,fS,aQ,eZ,rfl,h6,gG⟩,ai⟩;refine J ?_;refine J_ (V4 (o.bT m p k) _ _ w1 (gG.ext ai)) ?_;rintro _ aD ⟨rfl,aj⟩;rw[aF];have aJ:=ai.trans aj;refine J ?_;refine J_ (Qj _ t aD (aB.ext Flat.ext aJ) (by unfold o.ew;omega)) ?_;rintro u aN ⟨dT,ah⟩;have a7:=aJ.trans ah;obtain⟨anI,asP,rfl,_⟩:=(kF dT).form;obtain⟨g,rfl⟩:∃g,anI=some ⟨g,0,none⟩:=by
  rcases dT.2 with ⟨az,af⟩ | ⟨g,cap,cur,h1,_⟩
  .exfalso;injection az with _ I _;omega
  .injection h1 with h1 _ _;exact⟨g,h1⟩
 refine J ?_;refine J_ (NQ c9 m j aN (eD.ext a7) aW sk) ?_;rintro _ aU ⟨rfl,ax⟩;have bD:=a7.trans ax;have dO:=dT.ext ax;refine J ?_;intro bt aI;have bJ:=bD.trans aI;have dF:=dO.ext aI;have rA:=ak.ext Flat.ext bJ;refine J ?_;refine _c (k:=.i64) (k':=.i64) (o.cm m j) (o.cm m j+(1+o.gE m j)) (kF dF) (by simp[de,bN]) (by simp[de,bN]) AK AK fun QU o1 ajx _=>?_;refine J ?_;refine _Y (k:=.i64) (k':=.i64) (o.cm m j) (o.cm m j+(1+o.gE m j)) rA (by simp[de,bN]) (by simp[de,bN]) AK AK fun auS la tz=>?_;rw[o.Na] at tz;refine J ?_;refine _d (p:=o.cm m j) dF tz (by simp only[de,bN];rfl) (by simp only[de,bN];rfl) ajx AK Ct Ct fun u bz gV dn=>?_;rw[LJ AK] at dn;have aK:=(aS.lt dF g rfl).1
 have:=aJ.size
 refine J ?_;refine⟨?_,gV.ext bJ AK⟩;have hN:o.lost m s t (o.bT m p k)=o.hR t (o.cm m j) (o.chanOf m s j):=by unfold o.lost;rw[aF,AG9]
 rw[hN];exact aS.low aJ.size dn
theorem Xh(c9:Nat)(v:B_)(m:o.Model)(s:C_ Int)(ref:Int)(q p k:Nat)(w:A_)(eD:pC w c9 m)(ak:dw w v s)(ay:o.Fits m s)(bF:o.fr m ref q p k) :
  DD F.ti #[.pointer (some ⟨c9,0,none⟩),v,.I ref] w fun u w'=>(∃cq:C_ (fj 1),xE w.heap.size w' u cq (o.jV m s q (o.bT m p k)))/\Ext w w':=by
 have aW:=o.j3 bF.ok;obtain⟨eF,fB,rfl,fm⟩:=ak.form;have ye:=eD;obtain⟨zs,ao,iq⟩:=eD;obtain⟨eK,d0,dM,d1,et,d2,eB,d3,eL,d4,b6,bx,bR,c1,bX,c2,bZ,bu,ca,bC,yH,xW,fA,gp,rfl,_,_,en,dU,du,eW,fQ,af,h1,I,ab,aZ,bH⟩:=iq.form;clear en dU du eW fQ af h1 ab aZ bH iq;refine br E.ti ?_;refine J ?_;refine J_ (ahk c9 _ m s ref q p k w ye ak ay bF) ?_;rintro _ w1 ⟨ki,ai⟩;have gz:=ai.size;rcases ki with ⟨fD,rfl⟩ | ⟨t,rF,uB,ja,rfl,l9⟩
 .have he:o.jV m s q (o.bT m p k)=[]:=by unfold o.jV;rw[fD]
  refine J ?_;exact⟨⟨[],⟨by rw[he];rfl,aS.nil _ _ _ _ _,fun i h=>absurd h (K8 _)⟩⟩,ai⟩
 have cg:=o.VZ bF ay ja;replace ao:=ai.obj ao;refine J ?_;intro aD bS dm aj av;have aJ:=ai.trans aj;replace ao:=aj.obj ao;have z2:=aj.size;have dA:pw T.b 1 w.heap.size aD (.slice (some ⟨bS,0,none⟩) 1 1) [(⟨[.slice rF t.length uB],rfl,by simp[Value.oneCell']⟩:fj 1)]:=aS.zn _ av AK rfl kg rfl (by show 1<=maxLen;unfold maxLen;decide);clear av;refine J ?_;intro aN ah;replace ao:=ah.obj ao;have dT:=dA.ext ah;have a7:=aJ.trans ah;refine J ?_;refine J_ (WW c9 m ref q p k aN (ye.ext a7) bF) ?_;rintro _ aU ⟨⟨gw,fS,aQ,eZ,rfl,h6,gG⟩,ax⟩;refine⟨ax,?_⟩;have bD:=a7.trans ax;refine J ?_;refine J_ (arT (o.bT m p k) _ _ _ m.aw aU (gG.ext ax) (I.ext bD)) ?_;rintro _ bt ⟨rfl,aI⟩;have bJ:=bD.trans aI;have dF:=dT.ext (ax.trans aI);have PA:=((l9.ext aj).ext ah).ext (ax.trans aI);obtain⟨ar9,P7⟩:∃x,x=o.ways (o.bT m p k) m.aw:=⟨_,rfl⟩;have Zu:=o.arS (o.bT m p k) m.aw;rw[<-P7] at Zu ⊢;refine J ?_;refine I_ (fun hS=>?_) (fun hS=>?_);rotate_left
 .have he:o.jV m s q (o.bT m p k)=[t]:=by unfold o.jV;rw[ja];simp only;rw[if_neg AK]
  refine J ?_;refine⟨⟨_,⟨by rw[he];rfl,dF,fun i cZ dt=>?_⟩⟩,bJ⟩
  have:i=0:=by simp at cZ;omega
  subst this;simp only[he,List.getElem_cons_zero];exact⟨_,_,rfl,PA⟩
 have nR:o.ways (o.bT m p k) m.aw=2:=AK
 have he:o.jV m s q (o.bT m p k)=[t,o.lost m s t (o.bT m p k)]:=by unfold o.jV;rw[ja];simp only;rw[if_pos nR]
 refine J ?_;refine J_ (ahB c9 _ _ m s t ref q p k bt (ye.ext bJ) (ak.ext Flat.ext bJ) (kF PA) ay.len cg bF nR) ?_;rintro u bz ⟨dn,aM⟩;obtain⟨CE,BE,rfl,_⟩:=(kF dn).form;have cv:=bJ.trans aM;have z5:=bJ.size;have A1:=aM.size;refine J ?_;intro bK hp ir bq ct;have dz:=cv.trans bq;have ec:=dF.ext (aM.trans bq);refine U_ (enc:=kf) (y:=(⟨[.slice CE (o.lost m s t (o.bT m p k)).length BE],rfl,by simp[Value.oneCell']⟩:fj 1)) ec ct rfl kg tj Bs (by unfold maxLen;simp) (by have:=dz.size;omega) fun auW n8 zp c4 hB zX=>?_;refine J ?_;have akg:∀i,(Value.slice (some ⟨bS,0,none⟩) 1 1).ownBlock=some i->w.heap.size<=i:=fun i U=>(aS.lt ec i U).1;have key:∀{v:B_} {l:C_ Int},iS w.heap.size bK v l->iS w.heap.size c4 v l:=fun h=>aS.mod h (Mod.grown zX fun k hk=>hk) fun k hk ar=>by
  obtain⟨ka,h1⟩:=aS.cx h k hk;obtain⟨k3,I⟩:=aS.cx ec k ar;rw[h1] at I;injection I with I
  injection I with _ I
  revert I;decide
 have db:=key (PA.ext (aM.trans bq));have a2:=key ((aS.low z5 dn).ext bq);refine⟨⟨_,⟨by rw[he];rfl,hB,fun i cZ dt=>?_⟩⟩,dz.grown zX akg⟩
 match i,cZ with
 | 0,_ =>
  simp only[he,List.getElem_cons_zero];exact⟨_,_,rfl,db⟩
 | 1,_ =>
  simp only[he,List.getElem_cons_succ,List.getElem_cons_zero];exact⟨_,_,rfl,a2⟩
 | i+2,cZ=>exact absurd cZ Bs
theorem ahC(c9:Nat)(v:B_)(m:o.Model)(s:C_ Int)(w:A_)(eD:pC w c9 m)(hk:(o.check m).cN=0)(ak:dw w v s)(ay:o.Fits m s) :
  DD F.H3 #[.pointer (some ⟨c9,0,none⟩),v] w fun u w'=>eP uk T.k 3 w.heap.size w' u (o.gv m s)/\Ext w w':=by
 have aW:=o.j3 hk;have ix:=o.ve aW.lim;obtain⟨eF,fB,rfl,fm⟩:=ak.form;have ye:=eD;obtain⟨zs,ao,iq⟩:=eD;obtain⟨eK,d0,dM,d1,et,d2,eB,d3,eL,d4,b6,bx,bR,c1,bX,c2,bZ,bu,ca,bC,yH,xW,fA,gp,rfl,_,_,en,dU,du,eW,fQ,af,h1,I,ab,aZ,bH⟩:=iq.form;clear en dU du eW fQ af h1 I ab aZ bH iq;refine br E.H3 ?_;refine J ?_;refine L_ 14 (o.refs m).length [0,1,13] (fun v:gA=>[(5,.slice v.1 v.2.1 v.2.2)]) (none,0,0) (fun k v W=>Ext w W/\eP uk T.k 3 w.heap.size W (.slice v.1 v.2.1 v.2.2) (o.jy m s k)) bc bc ⟨Ext.refl _,eP.nil _ _ _ _ _⟩ ?_;clear ao;rintro k C1 S aD a1 ⟨aj,dA⟩;have iw:=o.QI m s k;refine J ?_;refine I_ (fun j2=>?_) (fun j2=>?_)
 .have z6:k<(o.refs m).length:=AK
  obtain⟨q,p,kE,bF⟩:=o.pM (m:=m) (ref:=k) ⟨hk,AK,AK⟩;obtain⟨as5,El⟩:=bF.ends s;have uP:=o.agv m s q (o.bT m p kE);refine J ?_;refine J_ (Xh c9 _ m s k q p kE aD (ye.ext aj) (ak.ext Flat.ext aj) ay bF) ?_;rintro u aN ⟨⟨cq,IV⟩,ah⟩;have z2:=aj.size;have z3:=ah.size;have lx:=IV.len;obtain⟨oJ,lb,rfl,_⟩:=(aS.jD kg IV.row).form;have dT:=dA.ext ah;have a7:=aj.trans ah;refine J ?_;refine L_ 22 cq.length [0,1,6,13,14,20,21] (fun v:gA=>[(5,.slice v.1 v.2.1 v.2.2)]) C1 (fun j v W=>Ext w W/\xE aD.heap.size W (.slice oJ cq.length lb) cq (o.jV m s q (o.bT m p kE))/\eP uk T.k 3 w.heap.size W (.slice v.1 v.2.1 v.2.2) (o.jy m s k++(o.kW m s k).take j)) bc bc ⟨a7,IV,by simpa using dT⟩ ?_;clear IV dT dA;rintro j v S aU aF ⟨ax,N9,dO⟩;have XO:=aS.jD kg N9.row;refine J ?_;refine I_ (fun hS=>?_) (fun hS=>?_);rotate_left
  .have atL:j=cq.length:=AK
   rw[LJ AK,<-o.F9] at dO;refine J ?_;exact⟨z6,aL,v,⟨aL,trivial⟩,ax,dO⟩
  have ek:j<cq.length:=AK
  obtain⟨ac,rfl⟩:=XO.addr;obtain⟨Q0,Nu,fx,fO⟩:=N9.at_ j ek AK;have gq:aU.cell? (ac.add (j*1))=some (.slice Q0 (o.jV m s q (o.bT m p kE))[j].length Nu):=by
   have:=XO.at j ek 0 (.slice Q0 (o.jV m s q (o.bT m p kE))[j].length Nu) (by show(cq[j].1)[0]? = _;rw[fx];rfl)
   rwa[add_zero] at this
  refine J ?_;refine M_ gq ?_;refine J ?_;intro bt dR kT aI b9;have dF:=dO.ext aI;have PB:=fO.ext aI;have aij:=N9.ext aI;have z4:=ax.size;have z5:=aI.size;have hlen:(o.jy m s k++(o.kW m s k).take j).length<=2*k+2:=by rw[Ln,K9];omega
  have PV:∀i,(Value.slice v.1 v.2.1 v.2.2).ownBlock=some i->∃x,bt.heap[i]? = some (.cells x T.k):=fun i U=>by
   obtain⟨afX,_,ni,_⟩:=dF.ex;exact aS.cx ni i U
  have cz:∀(k:Nat) (x:Array B_) (e:F_),bt.heap[k]? = some (.cells x e)->e=T.b\/e=T.a->(Value.slice v.1 v.2.1 v.2.2).ownBlock=some k->False:=fun k x e h1 I ab=>by
   obtain⟨k3,dt⟩:=PV k ab;rw[h1] at dt;injection dt with dt
   injection dt with _ dt
   subst dt
   revert I;decide
  refine _I (x:=(⟨k,j,(o.jV m s q (o.bT m p kE))[j]⟩:o.iR)) (cs:=[.I k,.I j,.slice Q0 (o.jV m s q (o.bT m p kE))[j].length Nu]) dF (gT b9)
   (fun W eD=>⟨_,rfl,kF (aS.mod PB eD fun i U ar=>by
    obtain⟨ka,cZ⟩:=aS.cx PB i U;rcases ar with ar | ar
    .exact cz i _ _ cZ (.inr rfl) ar
    .have:=(aS.lt PB i U).1
     omega)⟩) rfl (by simp[Value.oneCell']) AK (by unfold maxLen;omega) AK fun b0 bz tC iJ=>?_
  have iE:=dF.ln (ax.trans aI) iJ (GA _);have Ek:=aij.mod (Mod.grown iJ fun k hk=>hk) fun k x e _ h1 I ab=>cz k x e h1 I ab;obtain⟨qK,s9,rfl,_⟩:=tC.form;refine J ?_;refine⟨ek,aL,(qK,_,s9),⟨rfl,trivial⟩,iE,Ek,?_⟩;rw[Ly AK,<-Vq,El j AK AK];exact tC
 .have jL:k=(o.refs m).length:=AK
  subst jL;obtain⟨aaY,co,Px,_⟩:=dA.form;obtain⟨an1,auR,afZ⟩:=C1;cases Px;refine J ?_;refine I_ (fun hS=>?_) (fun hS=>?_)
  .have Ac:o.jy m s (o.refs m).length=[]:=AF9 AK;have nj:o.gv m s=o.jy m s (o.refs m).length++[⟨-1,0,s⟩]:=by unfold o.gv;rw[Ac];rfl
   replace dA:eP uk T.k 3 w.heap.size aD (.slice an1 (o.jy m s (o.refs m).length).length afZ) (o.jy m s (o.refs m).length):=dA;have E2:(o.jy m s (o.refs m).length).length=0:=by rw[Ac];rfl
   have ep:=ak.ext Flat.ext aj;have z2:=aj.size;have kA:o.dN m<=64:=o.jd aW;have lK:=ay.len;refine J ?_;refine J_ (Qj _ s aD ep (by unfold o.ew;omega)) ?_;rintro u aU ⟨dO,eo⟩;obtain⟨gP,AT,rfl,_⟩:=(kF dO).form;have Pv:=aS.new (enc:=cL) (fun _=>rfl) dO;have PF:=dA.ext eo;have z4:=eo.size;refine J ?_;intro bt dR kT aI b9;have tB:=PF.ext aI;have z5:=aI.size;refine _I (x:=(⟨-1,0,s⟩:o.iR)) (cs:=[.I (-1),.I 0,.slice gP s.length AT]) tB (gT b9)
    (((ey.own (w1:=aU) Pv dA AK).imp fun w h=>⟨_,rfl,h⟩).ext aI fun i U hk=>by have:=dA.under AK i hk;omega) rfl (by simp[Value.oneCell']) AK (by unfold maxLen;omega) AK fun b0 bz tC iJ=>?_
   have Mn:=tB.ln ((aj.trans eo).trans aI) iJ (GA _);obtain⟨qK,s9,rfl,_⟩:=tC.form;refine J ?_;exact⟨by rw[nj];exact tC,Mn⟩
  .have nj:o.gv m s=o.jy m s (o.refs m).length:=by
    unfold o.gv;split
    .rename_i az;rw[az] at hS;simp at hS
    .rfl
   refine J ?_;exact⟨by rw[nj];exact dA,aj⟩
def Hv(m:o.Model)(s:C_ Int)(ref:Int)(t:Bool):Prop:=t=true↔(o.gL m s/\o.Told m ref/\∀q p k,o.fr m ref q p k->o.hF m s q (o.bT m p k)≠none)
end Go.Proofs.R
end
section
namespace ba
open Go Go.RowKit
theorem eP.low{α:Type}{C:A_->C_ B_->α->Prop}{e:F_}{sz base vN:Nat}{w:A_}{v:B_}{xs:C_ α}(ao:vN<=base)(h:eP C e sz base w v xs):eP C e sz vN w v xs:=by
 obtain⟨cq,h1,I,ab⟩:=h.ex;exact⟨cq,h1,aS.low ao I,fun i cZ dt=>(ab i cZ dt).mono fun k _ hk=>by
  rcases hk with hk | hk
  .exact .inl hk
  .exact .inr AK⟩
end ba
namespace Go.Proofs.R
open Go Go.RowKit ba
theorem WU(cs:C_ B_)(v:B_)(m:o.Model)(s:C_ Int)(w:A_)(h:o.eh w cs m)(aK:m.cK)(aO:gK w)(ak:dw w v s) :
  DD F.By #[.agg cs.toArray,v] w fun u w'=>((o.gL m s/\∃b,u = .tuple #[.pointer (some ⟨b,0,none⟩),.bool true]/\pC w' b m)\/(¬o.gL m s/\∃ae,u = .tuple #[.pointer ae,.bool false]))/\Ext w w':=by
 have dc:=h;obtain⟨b6,bx,bR,c1,bX,c2,bZ,bu,ca,bC,rfl,_⟩:=h.form;obtain⟨os,r9,rfl,_⟩:=ak.form;refine br E.By ?_;refine J ?_;intro w1 bS dm ai av;refine J ?_;refine J_ (ahD _ m w1 (dc.ext ai) aK (aO.ext ai)) ?_;rintro _ aD ⟨hO,aj⟩;replace av:=aj.obj av;have aJ:=ai.trans aj;rcases hO with ⟨hk,rfl⟩ | ⟨hk,b,rfl,ao,eD⟩
 .refine J ?_;exact⟨.inr ⟨fun bH=>hk bH.1,_,aL⟩,aJ⟩
 refine J ?_;refine J_ (acH _ m _ s aD (dc.ext aJ) aK (aO.ext aJ) (ak.ext Flat.ext aJ)) ?_;rintro _ aN ⟨⟨t,rfl,aB⟩,ah⟩;have a7:=aJ.trans ah;cases t with
 | false =>
  refine J ?_;exact⟨.inr ⟨fun bH=>(by have:=aB.2 bH;cases this),_,aL⟩,a7⟩
 | true =>
  refine J ?_;exact⟨.inl ⟨aB.1 rfl,b,aL,eD.ext ah⟩,a7⟩
theorem ahp(c9:Nat)(m:o.Model)(ref:Int)(w:A_)(eD:pC w c9 m) :
  DD F.th #[.pointer (some ⟨c9,0,none⟩),.I ref] w fun u w'=>(∃t:Bool,u = .bool t/\(t=true↔0<=ref/\ref<(o.refs m).length))/\Ext w w':=by
 obtain⟨zs,ao,iq⟩:=eD;obtain⟨eK,d0,dM,d1,et,d2,eB,d3,eL,d4,b6,bx,bR,c1,bX,c2,bZ,bu,ca,bC,yH,xW,fA,gp,rfl,_⟩:=iq.form;clear iq;refine br E.th ?_;refine J ?_;refine I_ (fun g=>?_) (fun g=>?_)
 .refine J ?_;exact⟨⟨_,aL,by rw[decide_eq_true_eq];exact⟨fun h=>⟨AK,h⟩,fun h=>h.2⟩⟩,Ext.refl _⟩
 .refine J ?_;exact⟨⟨false,aL,by simp only[Bool.false_eq_true,false_iff];omega⟩,Ext.refl _⟩
theorem ahh(cs:C_ B_)(v:B_)(m:o.Model)(s:C_ Int)(ref:Int)(w:A_)(h:o.eh w cs m)(aK:m.cK)(aO:gK w)(ak:dw w v s) :
  DD F.gp #[.agg cs.toArray,v,.I ref] w fun u w'=>(∃t:Bool,u = .bool t/\Hv m s ref t)/\Ext w w':=by
 have dc:=h;obtain⟨b6,bx,bR,c1,bX,c2,bZ,bu,ca,bC,rfl,_⟩:=h.form;obtain⟨os,r9,rfl,_⟩:=ak.form;have no:∀{P:Prop},¬P->(false=true↔P):=fun h=>⟨fun k=>(by cases k),fun k=>absurd k h⟩;refine br E.gp ?_;refine J ?_;intro w1 bW fe ai bl;refine J ?_;refine J_ (WU _ _ m s w1 (dc.ext ai) aK (aO.ext ai) (ak.ext Flat.ext ai)) ?_;rintro _ aD ⟨dg,aj⟩;have aJ:=ai.trans aj;rcases dg with ⟨bH,b,rfl,eD⟩ | ⟨bH,ae,rfl⟩
 rotate_left
 .refine J ?_;exact⟨⟨false,aL,no fun c3=>bH c3.1⟩,aJ⟩
 refine J ?_;refine J_ (ahp b m ref aD eD) ?_;rintro _ aN ⟨⟨t,rfl,aB⟩,ah⟩;have a7:=aJ.trans ah;cases t with
 | false =>
  refine J ?_;exact⟨⟨false,aL,no fun c3=>by have:=aB.2 c3.2.1.2;cases this⟩,a7⟩
 | true =>
 have bU:o.Told m ref:=⟨bH.1,aB.1 rfl⟩;obtain⟨q,p,k,bF⟩:=o.pM bU;refine J ?_;refine J_ (Xh b _ m s ref q p k aN (eD.ext ah) (ak.ext Flat.ext a7) bH.2 bF) ?_;rintro u aU ⟨⟨cq,dW⟩,ax⟩;obtain⟨oJ,lb,rfl,_⟩:=(aS.jD kg dW.row).form;have lx:=dW.len;refine J ?_;refine⟨⟨_,aL,?_⟩,a7.trans ax⟩;unfold Hv;rw[decide_eq_true_eq];constructor
 .intro Ca;refine⟨bH,bU,fun e3 gB k' uK az=>?_⟩;obtain⟨rfl,rfl,rfl⟩:=bF.one uK
  have:o.jV m s q (o.bT m p k)=[]:=by unfold o.jV;rw[az]
  have af:cq.length=0:=by rw[lx,this];rfl
  omega
 .rintro⟨_,_,ab⟩;have aH:=ab q p k bF;cases an:o.hF m s q (o.bT m p k) with
  | none=>exact absurd an aH
  | some t =>
   have:0<(o.jV m s q (o.bT m p k)).length:=by unfold o.jV;rw[an];simp
   omega
theorem ahg(cs:C_ B_)(v:B_)(m:o.Model)(s:C_ Int)(w:A_)(h:o.eh w cs m)(aK:m.cK)(aO:gK w)(ak:dw w v s) :
  DD F.cs #[.agg cs.toArray,v] w fun u w'=>((o.gL m s/\eP uk T.k 3 w.heap.size w' u (o.gv m s))\/(¬o.gL m s/\u = .slice none 0 0))/\Ext w w':=by
 have dc:=h;obtain⟨b6,bx,bR,c1,bX,c2,bZ,bu,ca,bC,rfl,_⟩:=h.form;obtain⟨os,r9,rfl,_⟩:=ak.form;refine br E.cs ?_;refine J ?_;intro w1 bW fe ai bl;refine J ?_;refine J_ (WU _ _ m s w1 (dc.ext ai) aK (aO.ext ai) (ak.ext Flat.ext ai)) ?_;rintro _ aD ⟨dg,aj⟩;have aJ:=ai.trans aj;rcases dg with ⟨bH,b,rfl,eD⟩ | ⟨bH,ae,rfl⟩
 rotate_left
 .refine J ?_;exact⟨.inr ⟨bH,aL⟩,aJ⟩
 refine J ?_;refine J_ (ahC b _ m s aD eD bH.1 (ak.ext Flat.ext aJ) bH.2) ?_;rintro u aN ⟨aP,ah⟩;obtain⟨aQ,eZ,rfl,_⟩:=aP.form;refine J ?_;exact⟨.inl ⟨bH,eP.low aJ.size aP⟩,aJ.trans ah⟩
structure asq(w:World)(vO n base:Nat)(bs:List Nat)(M:List (List Bool)):Prop where
 len:bs.length=M.length
 le:bs.length<=n
 row:w.heap[vO]? = some (.cells (bs.map (fun b=>Value.slice (some ⟨b,0,none⟩) n n)++List.replicate (n - bs.length) (Value.slice none 0 0)).toArray T.q1)
 rows:∀j (h:j<bs.length) (bo:j<M.length),w.heap[bs[j]]? = some (.cells (oo M[j]).toArray T.ae)/\M[j].length=n
 low:∀b∈bs,base<=b
end Go.Proofs.R
namespace o
open Go
theorem lD.ns{m:Model}{ref:Int}{a b:C_ Int}(h:lD m ref a b):a.Pairwise (· < ·)/\b.Pairwise (· < ·):=by
 by_cases aB:Told m ref
 .obtain⟨q,p,k,bF⟩:=pM aB;obtain⟨h1,I⟩:=h.there q p k bF;exact⟨h1.ns,I.ns⟩
 .obtain⟨rfl,rfl⟩:=h.none aB;exact⟨List.Pairwise.nil,List.Pairwise.nil⟩
end o
end
section
namespace ba
open Go Go.RowKit
def agu(b:Bool):C_ B_:=[.bool b]
end ba
namespace Go.Proofs.R
open Go Go.RowKit ba
def ajG(n:Nat)(vs:Nat->H_ Addr×Nat×Nat):C_ B_:=(List.range n).map fun j=>cw (vs j)
structure asr(w:World)(vO n base:Nat)(vs:Nat->Option Addr×Nat×Nat)(xs:Nat->List Bool):Prop where
 head:w.heap[vO]? = some (.cells (ajG n vs).toArray T.q1)
 rows:iT agu T.ae 1 base w n vs xs
end Go.Proofs.R
end
section
namespace ba
open Go Go.RowKit
section
variable{P:Program}{S:Fr}{w:World}
theorem gC.apS{α:Type}{enc:α->B_}{g:G_}{p:Nat}{a b:eN}{Q:H_ Nat->eu->Fr->A_->Prop}{jq:Nat}{hU:Array B_}{iG:A_->A_->Prop}{od qh:C_ α->Prop}{N:Nat}{w0:A_}
  (aK:aX S g = .func (.func jq) #[] hU)(dh:okF P jq=true)(tD:SeqStopsK Fence.wide 0 P jq hU (fun x=>#[enc x]) iG od qh N w0)(he:Ext w0 w)(tp:Dj iG w.heap.size)
  (c8 Hh:C_ α->A_->Prop)(aZ:OwnFrom w.heap.size c8)(aip:OwnFrom w.heap.size Hh)(af:c8 [] w)
  (Fj:∀pre x W,c8 pre W->pre.length<N->eg P a (ic (fun uo iU=>KeepsFrom w.heap.size W iU/\iG W iU/\∀e5,um w.heap.size iU e5 ->
   eg P b (ic (fun _ b8=>KeepsFrom w.heap.size e5 b8/\iG e5 b8/\c8 (pre++[x]) b8) (fun e _ b8=>e = .ret/\KeepsFrom w.heap.size e5 b8/\Hh (pre++[x]) b8) ⟨⟩) uo e5 ⟨⟩) (fun _ _ _=>False) ⟨⟩) (b4 S p (enc x)) W ⟨⟩)
  (zU:∀D xs W,w.heap.size<=D->od xs->c8 xs W->W.heap[D]? = some (.deferred (some []))->Q (some D) .normal S W)
  (ak3:∀D xs W,w.heap.size<=D->Hh xs W->W.heap[D]? = some (.deferred (some []))->Q (some D) .ret S W):oM P (.tY g p a b) Q S w:=by
 refine⟨α,enc,jq,hU,iG,od,qh,N,w0,aK,dh,tD,he,tp,c8,fun e xs W=>e = .ret/\Hh xs W,aZ,fun e s A B row ak rn aP=>⟨ak.1,aip s A B row ak.2 rn aP⟩,af,fun pre x W U aC=>?_,zU,fun D e pre W _ im _ h bb=>?_⟩
 .have h:=Fj pre x W U aC;unfold eg ic at h;refine p8 a _ _ _ W (fun e uo iU _ h1=>?_) h;cases e with
  | normal =>
   obtain⟨cE,cW,fz⟩:=h1;refine⟨cE,cW,fun e5 aP=>?_⟩;have I:=fz e5 aP;refine p8 b _ _ _ e5 (fun e k7 og _ ab=>?_) I;cases e with
   | normal=>exact ab
   | exit _=>exact absurd ab.1 Bs
   | ret=>exact⟨ab.2.1,rfl,ab.2.2⟩
   | gx _=>exact absurd ab.1 Bs
  | exit _=>exact h1.elim
  | ret=>exact h1.elim
  | gx _=>exact h1.elim
 .obtain⟨rfl,U⟩:=h;exact ak3 D pre W im U bb
theorem gC.hf{β:Type}{a:eN}{b:sO}{Q:H_ Nat->eu->Fr->A_->Prop}(cD:C_ Nat)(M:β->C_ (Nat×B_))(N:β->A_->Prop)(h1:eg P a (ic (fun fT bO => ∃x,Has fT (M x)/\N x bO) (Q none) ⟨⟩) S w ⟨⟩)
  (I:∀x a6 w',N x w'->oM P b Q (vk (M x) (u1 S cD a6)) w')(bb:(cD.all fun t => !a.fV.contains t)=true:=by rfl):oM P (.jg a b) Q S w:=by
 unfold eg ic at h1;show dV P a (vm (fun S w=>oM P b Q S w) (Q none)) S w;refine p8 a _ _ _ w (fun e uo iU hk h=>?_) h1;cases e with
 | normal =>
  obtain⟨x,aW,fM⟩:=h;have h:=I x uo iU fM;rw[FF cD fun t aB=>hk t (Ld bb t aB),GB _ aW] at h;exact h
 | exit _=>exact h
 | ret=>exact h
 | gx _=>exact h
theorem mV.mod{hV:Nat}{cD:C_ F_}{W b8:A_}(h:mV hV cD W b8):Mod (fun k => ¬∃c t f,W.heap[k]? = some (.cells c t f)/\t∈cD) W b8 :=
 ⟨h.1.os,h.1.tape,h.1.output,h.1.size,fun k _ az=>by
  obtain⟨c,t,f,h1,I⟩:=Classical.not_not.1 az;exact h.2 k c t f h1 I⟩
theorem mV.ext{w:A_}{cD:C_ F_}{W b8:A_}(h:mV w.heap.size cD W b8)(he:Ext w W):Ext w b8:=Below.trans he h.1
theorem mV.own{α:Type}{enc:α->C_ B_}{e:F_}{sz base hV:Nat}{cD:C_ F_}{W b8:A_}{v:B_}{xs:C_ α}(h:mV hV cD W b8)(aO:aS enc e sz base W v xs)(he:e∈cD):aS enc e sz base b8 v xs :=
 aO.mod h.mod fun k hk a=>by
  obtain⟨cur,an⟩:=aO.cx k hk;exact a ⟨_,_,_,an,he⟩
theorem mV.obj{hV:Nat}{cD:C_ F_}{W b8:A_}(h:mV hV cD W b8){k:Nat}{c:Array B_}{t:F_}{f:Nat×Nat}(hk:W.heap[k]? = some (.cells c t f))(aB:t∈cD):b8.heap[k]? = some (.cells c t f):=(h.2 k c t f hk aB).trans hk
end
end ba
end
section
namespace o
open Go
abbrev Dy(m:Model)(q l:Int):={i:Nat // i<(refs m).length/\oW m q l i}
end o
namespace Go.Proofs.R
open Go Go.RowKit ba
abbrev ahI:C_ F_:=[T.f,T.e,T.a,T.d]
theorem ahJ{po w0:A_}{cP nz ux:Nat}{cs:C_ B_}{m:o.Model}{q l:Int}(mD:w0.heap[cP]? = some (.cells cs.toArray T.d))(Yn:w0.heap[nz]? = some (.cells #[.I q] T.a))(dY:w0.heap[ux]? = some (.cells #[.I l] T.a))
  (h:o.eh po cs m)(qD:Ext po w0)(aK:m.cK)(gr:(o.check m).cN=0) :
  SeqStopsK Fence.wide 0 Tryz.prog F.sW #[.pointer (some ⟨cP,0,none⟩),.pointer (some ⟨nz,0,none⟩),.pointer (some ⟨ux,0,none⟩)] (fun x:o.Dy m q l=>#[.I (x.1:Nat)]) (mV po.heap.size ahI) (fun xs => ∀i,o.oW m q l i->i∈xs.map Subtype.val) (fun _=>True) (o.refs m).length w0:=by
 intro w9 jl Mr W ao rf aiq bV Jz;have B4:Ext po W:=qD.trans ao;have Yl:=Ext.obj (w:=w0) ao mD;have Yq:=Ext.obj (w:=w0) ao Yn;have Yi:=Ext.obj (w:=w0) ao dY;have dc:=h;have na:=o.j3 gr;have ix:=o.ve na.lim;obtain⟨b6,bx,bR,c1,bX,c2,bZ,bu,ca,bC,rfl,af,h1,I,ab,aH,e2,eE,eJ,er,eH⟩:=h.form;refine callsIn_wide.2 (Calls.mono (show DD F.sW #[.func (.yield w9) #[] #[],.pointer (some ⟨cP,0,none⟩),.pointer (some ⟨nz,0,none⟩),.pointer (some ⟨ux,0,none⟩)] W (fun _ b8=>(∃xs,(∀i,o.oW m q l i->i∈xs.map Subtype.val)/\jl xs b8)\/(∃pre:C_ (o.Dy m q l),True/\Mr pre b8)) from ?_) fun e b8 ⟨v,bB,aJ⟩=>⟨⟨v,bB⟩,aJ⟩);have BU:∀{pre:C_ (o.Dy m q l)} {w w':A_},jl pre w->Ext w w'->jl pre w':=fun {pre w w'} aF e=>rf pre w w' none aF e.Xl (fun r e=>by cases e);clear mD Yn dY;refine br E.sW ?_;refine J ?_;refine J_ (wU _ m W (dc.ext B4) aK) ?_;rintro bL w1 ⟨eV,ai⟩;obtain⟨cn,ci,rfl,_⟩:=eV.form;have bB:=B4.trans ai;refine J ?_;refine J_ (yN _ m w1 (dc.ext bB) na.lim) ?_;rintro hy aD ⟨jt,aj⟩;obtain⟨fA,ql,rfl,_⟩:=jt.form;have aJ:=bB.trans aj;have q7:=ai.trans aj;have Jm:=q7.obj Yl;have Jn:=q7.obj Yq;have Jl:=q7.obj Yi;have Zs:=eV.ext aj;have mE:=BU Jz q7;clear Yl Yq Yi eV Jz;refine J ?_;refine L_ 13 (o.refs m).length [0,1,2,3,5,11,12] (fun _=>[]) ([]:C_ (o.Dy m q l)) (fun k pre w'=>(Ext po w'/\w'.heap[cP]? = aD.heap[cP]? /\ w'.heap[nz]? = aD.heap[nz]? /\ w'.heap[ux]? = aD.heap[ux]? /\ aS o.cX.enc T.e 2 W.heap.size w' (.slice cn (o.insts m).length ci) (o.insts m)/\aS o.Ref.enc T.f 2 w1.heap.size w' (.slice fA (o.refs m).length ql) (o.refs m)/\jl pre w')/\pre.length<=k/\∀i,i<k->o.oW m q l i->i∈pre.map Subtype.val) bc bc
  ⟨⟨aJ,rfl,rfl,rfl,Zs,jt,mE⟩,GA _,fun i h=>absurd h (K8 _)⟩ ?_
 rintro k pre S aN hk ⟨⟨a7,ON,OS,OL,PY,P1,yn⟩,sm,fs⟩;rw[Jm] at ON;rw[Jn] at OS;rw[Jl] at OL;refine J ?_;apply I_<;>intro g1;rotate_left
 .refine J ?_;exact .inl ⟨pre,fun i U=>fs i (by have:=U.lt;omega) U,yn⟩
 have cI:k<(o.refs m).length:=AK
 have kj:bn 2 (Flat o.Ref.enc) aN _ _:=aS.hE (enc:=o.Ref.enc) (fun _=>rfl) P1;have XB:ku aN _ (o.insts m):=aS.hE (enc:=o.cX.enc) (fun _=>rfl) PY;obtain⟨jG,rfl⟩:=kj.addr;obtain⟨e3,gB,k',bF⟩:=o.pM (m:=m) (ref:=k) ⟨gr,AK,AK⟩;have gu:(o.refs m)[k].inst=(e3:Int):=bF.at_.pk;have pd:(o.refs m)[k].cmd=(k':Int):=bF.at_.sC;have O2:=o.Xf (q:=q) (l:=l) bF;have gq:=kj.at k cI;obtain⟨x,ag⟩:∃x,x=(o.refs m)[k]:=⟨_,rfl⟩;rw[<-ag] at gu pd gq;have gq:fi aN (jG.add (k*2)) x.enc:=gq;unfold o.Ref.enc at gq;refine J ?_;intro wn hp ir fC eU;refine J ?_;intro aU dE ct;replace ct:aU.heap[hp]? = some (.cells #[.I x.inst,.I x.cmd] T.f):=by rw[ag];exact ct
 have ax:Ext aN aU:=dE.ext fC ir;have bD:=a7.trans ax;have Yj:=ax.obj ON;have Yo:=ax.obj OS;have Yg:=ax.obj OL;have XC:=XB.ext Flat.ext ax;clear eU fC ON OS OL;refine J ?_;intro bt aI;have bJ:=bD.trans aI;have OO:=aI.obj Yj;have OT:=aI.obj Yo;have OM:=aI.obj Yg;have Jg:=aI.obj ct;have XD:=XC.ext Flat.ext aI;have Mk:=ax.trans aI;have EY:=BU yn Mk;have PZ:=PY.ext Mk;have P2:=P1.ext Mk;clear Yj Yo Yg ct XC PY P1;have skip:¬o.oW m q l k->∀i,i<k+1->o.oW m q l i->i∈pre.map Subtype.val:=fun az i U ay=>by
  rcases AH0 i k with h | h
  .exact fs i h ay
  .obtain rfl:i=k:=AK
   exact absurd ay az
 refine J ?_;apply I_<;>intro g2;rotate_left
 .refine J ?_;exact⟨cI,aL,pre,trivial,⟨bJ,OO.trans Jm.symm,OT.trans Jn.symm,OM.trans Jl.symm,PZ,P2,EY⟩,AK,skip fun ay=>by rw[O2] at ay;omega⟩
 refine J ?_;have ej:DD F.g #[.agg #[.slice b6 m.scalars.length bx,.slice bR m.vars.length c1,.slice bX m.aw.length c2,.slice bZ m.procs.length bu,.slice ca m.props.length bC],.slice cn (o.insts m).length ci,.agg #[.I x.inst,.I x.cmd]] bt fun u w'=>(∃gw fS aQ eZ,u = .agg #[.string (o.bT m gB k').name,.I (o.bT m gB k').from_,.I (o.bT m gB k').to,.slice gw (o.bT m gB k').guard.length fS,.slice aQ (o.bT m gB k').bQ.length eZ,.bool (o.bT m gB k').fair])/\Ext bt w':=(Wl _ _ m k e3 gB k' bt (dc.ext bJ) XD bF x gu pd).mono fun u w' ⟨⟨fq,dH,hu,az,aV⟩,iY⟩=>by
  obtain⟨gw,fS,rfl,_⟩:=az.form;obtain⟨aQ,eZ,rfl,_⟩:=aV.form;exact⟨⟨gw,fS,aQ,eZ,hu⟩,iY⟩
 refine J_ ej ?_;clear ej;rintro _ bz ⟨⟨gw,fS,aQ,eZ,rfl⟩,aM⟩;have cv:=bJ.trans aM;have Cf:=BU EY aM;have Yk:=aM.obj OO;have Yp:=aM.obj OT;have Yh:=aM.obj OM;have Zt:=PZ.ext aM;have Ft:=P2.ext aM;refine⟨aM,?_⟩;clear OO OT OM Jg PZ P2 XD kj XB gq;refine J ?_;refine _K (v:=.I (o.bT m gB k').from_) rfl ?_;refine J ?_;apply I_<;>intro g3;rotate_left
 .refine J ?_;exact⟨cI,aL,pre,trivial,⟨cv,Yk.trans Jm.symm,Yp.trans Jn.symm,Yh.trans Jl.symm,Zt,Ft,Cf⟩,AK,skip fun ay=>by rw[O2] at ay;omega⟩
 have ay:o.oW m q l k:=O2.2 ⟨AK,g3⟩;refine J ?_;refine _2 (bV pre ⟨k,cI,ay⟩ bz Cf AK) ?_;rintro e bK (⟨rfl,Pf,zZ⟩ | ⟨rfl,Pf⟩)
 .refine⟨.bool true,rfl,?_⟩;refine J ?_;refine⟨cI,aL,pre++[⟨k,cI,ay⟩],trivial,⟨zZ.ext cv,(zZ.obj Yk BN).trans Jm.symm,(zZ.obj Yp BN).trans Jn.symm,(zZ.obj Yh BN).trans Jl.symm,zZ.own Zt BN,zZ.own Ft BN,Pf⟩,by simp;omega,fun i U O4=>?_⟩;rw[AF4,AH7];rcases AH0 i k with h | h
  .exact .inl (fs i h O4)
  .obtain rfl:i=k:=AK
   exact .inr Bs
 .refine⟨.bool false,rfl,?_⟩;refine J ?_;exact .inr ⟨_,trivial,Pf⟩
theorem amK(x:o.Ref)(nz:Nat)(q:Int)(w:A_)(h:w.heap[nz]? = some (.cells #[.I q] T.a)) :
  DD F.ac #[.agg #[.I x.inst,.I x.cmd],.pointer (some ⟨nz,0,none⟩)] w fun v w'=>v = .bool (!decide (x.inst=q))/\Ext w w':=by
 refine br E.ac ?_;refine J ?_;intro w1 bw cM ai al;have Zf:=ai.obj h;refine J ?_;exact⟨aL,ai⟩
theorem ahH(cs:C_ B_)(m:o.Model)(q l:Int)(w:A_)(h:o.eh w cs m) :
  DD F.DM #[.agg cs.toArray,.I q,.I l] w fun v w'=>(∃cP nz ux,v = .func (.func F.sW) #[] #[.pointer (some ⟨cP,0,none⟩),.pointer (some ⟨nz,0,none⟩),.pointer (some ⟨ux,0,none⟩)]/\w'.heap[cP]? = some (.cells cs.toArray T.d)/\w'.heap[nz]? = some (.cells #[.I q] T.a)/\w'.heap[ux]? = some (.cells #[.I l] T.a))/\Ext w w':=by
 obtain⟨b6,bx,bR,c1,bX,c2,bZ,bu,ca,bC,rfl,_⟩:=h.form;refine br E.DM ?_;refine J ?_;intro w1 bW fe ai al;refine J ?_;intro aD cC ff aj av;refine J ?_;intro aN dR kT ah bl;refine J ?_;exact⟨⟨_,_,_,aL,(aj.trans ah).obj al,ah.obj av,bl⟩,(ai.trans aj).trans ah⟩
def adD(m:o.Model)(q:Int)(L:C_ (C_ Int×C_ Int))(i:Nat):Prop := ∀j (aF:j<(o.refs m).length),(o.refs m)[j].inst≠q->∀x y,L[i]? = some x->L[j]? = some y->¬o.sM x.1 x.2 y.1 y.2
theorem af5(cs:C_ B_)(m:o.Model)(q l:Int)(w:A_)(h:o.eh w cs m)(aK:m.cK)(aO:gK w) :
  DD F.x2 #[.agg cs.toArray,.I q,.I l] w fun u w'=>(∃t,u = .bool t/\o.oY m q l t)/\Ext w w':=by
 have dc:=h;obtain⟨b6,bx,bR,c1,bX,c2,bZ,bu,ca,bC,rfl,af,h1,I,ab,aH,e2,eE,eJ,er,eH⟩:=h.form;refine gC.start lN Dg.x2 (args:=[_,_,_]) (Nat.le_of_ble_eq_true rfl) ?_;dsimp only[D.x2,ad,cf,iO,bA,dQ,bP,bY,e8,b3,aq,fc,bd,bk,dq,ys,jP,cu,ch,qO,fR,gH,qa,oS,cO,kb,ig,p9,Mc,C6,nZ,vr,vq,rS,lW,xw,List.map_cons,List.map_nil];refine gC.jg ?_;refine J ?_;intro w1 bW fe ai bl;refine J ?_;intro aD cC ff aj bp;refine J ?_;intro aN ez gm ah cb;have a7:=(ai.trans aj).trans ah;replace bl:=(aj.trans ah).obj bl;replace bp:=ah.obj bp;have ks:=ai.size;have jE:=aj.size;have wu:w.heap.size<=ez:=AK
 refine J ?_;refine gC.jg ?_;refine J ?_;refine J_ (yC _ m aN (dc.ext a7) aK (aO.ext a7)) ?_;rintro _ aU ⟨rfl,ax⟩;replace bl:=ax.obj bl;replace bp:=ax.obj bp;replace cb:=ax.obj cb;have bD:=a7.trans ax;refine J ?_;refine _K (v:=.I (o.check m).cN) rfl ?_;refine J ?_;apply I_<;>intro g1;rotate_left
 .refine J ?_;intro bt fg b9;have aI:=fg.ext bD wu;refine gC.D2 ?_;refine J ?_;exact⟨⟨false,aL,o.oY.no fun k=>g1 k.1⟩,aI⟩
 have na:=o.j3 g1;have ix:=o.ve na.lim;refine J ?_;refine gC.hf [1,2,3,4,6] (fun x:(H_ Addr×Nat)×Nat=>[(7,.slice x.1.1 (o.insts m).length x.1.2),(8,.pointer (some ⟨x.2,0,none⟩))]) (fun x W=>(∃fA ql,W.heap[x.2]? = some (.cells #[.slice fA (o.refs m).length ql] T.c)/\sQ W (.slice fA (o.refs m).length ql) (o.refs m))/\ku W (.slice x.1.1 (o.insts m).length x.1.2) (o.insts m)/\Ext aU W) ?_ ?_
 .have wE:∀{W},Ext aU W->DD F.b #[.agg #[.slice b6 m.scalars.length bx,.slice bR m.vars.length c1,.slice bX m.aw.length c2,.slice bZ m.procs.length bu,.slice ca m.props.length bC]] W fun v w'=>(∃cn ci,v = .slice cn (o.insts m).length ci/\aS o.cX.enc T.e 2 W.heap.size w' v (o.insts m))/\Ext W w':=fun {W} he=>(wU _ m W (dc.ext (bD.trans he)) aK).mono fun v w' ⟨aG,iY⟩=>by
   obtain⟨cn,ci,rfl,_⟩:=aG.form;exact⟨⟨cn,ci,rfl,aG⟩,iY⟩
  have PI:∀{W},Ext aU W->DD F.c #[.agg #[.slice b6 m.scalars.length bx,.slice bR m.vars.length c1,.slice bX m.aw.length c2,.slice bZ m.procs.length bu,.slice ca m.props.length bC]] W fun v w'=>(∃cn ci,v = .slice cn (o.refs m).length ci/\aS o.Ref.enc T.f 2 W.heap.size w' v (o.refs m))/\Ext W w':=fun {W} he=>(yN _ m W (dc.ext (bD.trans he)) na.lim).mono fun v w' ⟨aG,iY⟩=>by
   obtain⟨cn,ci,rfl,_⟩:=aG.form;exact⟨⟨cn,ci,rfl,aG⟩,iY⟩
  have Rk:∀{W v base},aS o.cX.enc T.e 2 base W v (o.insts m)->ku W v (o.insts m):=fun h=>aS.hE (enc:=o.cX.enc) (fun _=>rfl) h;have Rl:∀{W v base},aS o.Ref.enc T.f 2 base W v (o.refs m)->sQ W v (o.refs m):=fun h=>aS.hE (enc:=o.Ref.enc) (fun _=>rfl) h;refine J ?_;intro bt aI;replace bl:=aI.obj bl;refine J ?_;refine⟨?_,?_⟩
  .refine J_ (wE aI) ?_;rintro _ bz ⟨⟨cn,ci,rfl,aZ⟩,aM⟩;have cv:=aI.trans aM;refine⟨aM,?_⟩;refine J ?_;refine⟨?_,?_⟩
   .refine J_ (PI cv) ?_;rintro _ bK ⟨⟨fA,ql,rfl,bH⟩,bq⟩;have dz:=cv.trans bq;refine J ?_;intro c4 iI ov bG cG;refine⟨(aM.trans bq).trans bG,?_⟩;refine J ?_;intro c6 hQ dD;have b5:=hQ.ext bG ov;refine J ?_;exact⟨((cn,ci),iI),⟨aL,aL,trivial⟩,⟨_,_,dD,Rl (bH.ext b5)⟩,Rk (aZ.ext (bq.trans b5)),dz.trans b5⟩
   .refine O_ ?_;intro bK iI ov bq cG;refine⟨aM.trans bq,?_⟩;have dz:=cv.trans bq;refine J ?_;refine J_ (PI dz) ?_;rintro _ c4 ⟨⟨fA,ql,rfl,bH⟩,bG⟩;have B2:=cG;replace cG:=bG.obj cG;refine J ?_;intro c6 hQ dD;have b5:Ext bz c6:=hQ.ext (bq.trans bG) ov;have Qw:=cA B2;refine J ?_;exact⟨((cn,ci),iI),⟨aL,aL,trivial⟩,⟨_,_,dD,Rl (bH.wr hQ Qw)⟩,Rk (aZ.ext b5),cv.trans b5⟩
  .refine O_ ?_;intro bz iI ov aM cG;have cv:=aI.trans aM;refine⟨aM,?_⟩;refine J ?_;refine J_ (wE cv) ?_;rintro _ bK ⟨⟨cn,ci,rfl,aZ⟩,bq⟩;have dz:=cv.trans bq;refine⟨aM.trans bq,?_⟩;refine J ?_;refine J_ (PI dz) ?_;rintro _ c4 ⟨⟨fA,ql,rfl,bH⟩,bG⟩;have OF:=cG;have B2:=bq.obj cG;replace cG:=(bq.trans bG).obj cG;refine J ?_;intro c6 hQ dD;have amh:=cA OF;have Qw:=cA B2;have b5:Ext bt c6:=hQ.ext ((aM.trans bq).trans bG) ov;refine J ?_;exact⟨((cn,ci),iI),⟨aL,aL,trivial⟩,⟨_,_,dD,Rl (bH.wr hQ Qw)⟩,Rk ((aZ.ext bG).wr hQ amh),aI.trans b5⟩
 rintro⟨⟨cn,ci⟩,iI⟩ S bt ⟨⟨fA,ql,cG,bH⟩,aZ,aI⟩;dsimp only at cG aZ;replace bl:=aI.obj bl;replace bp:=aI.obj bp;replace cb:=aI.obj cb;have bJ:=bD.trans aI;refine gC.jg ?_;have bad:∀{W:A_} {a6:Fr},Ext bt W->¬o.pt m q l->True:=fun _ _=>trivial;have aud:=cA cb;refine J ?_;apply I_<;>intro g2
 .refine J ?_;intro bz aM;replace cb:=aM.obj cb;refine J ?_;intro bK dL ct;refine gC.D2 ?_;refine J ?_;exact⟨⟨false,aL,o.oY.no fun k=>by have:=k.aR;omega⟩,dL.ext (bJ.trans aM) wu⟩
 refine J ?_;apply I_<;>intro g3
 .refine J ?_;intro bz aM;replace cb:=aM.obj cb;refine J ?_;intro bK dL ct;refine gC.D2 ?_;refine J ?_;exact⟨⟨false,aL,o.oY.no fun k=>by have:=k.aR;omega⟩,dL.ext (bJ.trans aM) wu⟩
 refine J ?_;apply I_<;>intro g4
 .refine J ?_;intro bz aM;replace cb:=aM.obj cb;refine J ?_;intro bK dL ct;refine gC.D2 ?_;refine J ?_;exact⟨⟨false,aL,o.oY.no fun k=>by have:=k.aR;omega⟩,dL.ext (bJ.trans aM) wu⟩
 obtain⟨rK,rfl⟩:=QA (show 0<=q by omega);have ar:rK<(o.insts m).length:=AK
 obtain⟨p,hIn⟩:=o.Fy ar;have au:=hIn.au;have oB:=hIn.eq;obtain⟨ij,rfl⟩:=aZ.addr;obtain⟨a3,rfl⟩:=ab.addr;obtain⟨mc,b2,dV,dP,e7,fy⟩:=ab.at p au;obtain⟨eF,fB,rfl,_⟩:=e7.form;obtain⟨CB,BA,rfl,Cs⟩:=fy.form;unfold o.dJ.enc at dP;have akK:=dP.ext bJ;refine J ?_;refine K_ p (by rw[oB]) au ?_;refine J ?_;intro bz aM;replace bl:=aM.obj bl;replace bp:=aM.obj bp;replace cb:=aM.obj cb;replace cG:=aM.obj cG;have uL:=bH.ext Flat.ext aM;have cv:=bJ.trans aM;apply I_<;>intro g5
 .refine J ?_;intro bK dL ct;refine gC.D2 ?_;refine J ?_;exact⟨⟨false,aL,o.oY.no fun k=>by have:=k.lt hIn;omega⟩,dL.ext cv wu⟩
 have dg:o.pt m rK l:=o.FK g1 hIn AK AK;clear dP akK aZ bH;refine J ?_;refine gC.jg ?_;refine J ?_;refine J_ (ary _ m bz (dc.ext cv) aK (aO.ext cv) na.lim) ?_;rintro _ bK ⟨⟨L,base,lI,sg,atd,Om⟩,bq⟩;obtain⟨auV,asM,rfl,_⟩:=Om.form;have I4:bn 2 UD bK _ L:=Om.jD;have aiL:=lI.len;have dz:=cv.trans bq;replace bl:=bq.obj bl;replace bp:=bq.obj bp;replace cb:=bq.obj cb;replace cG:=bq.obj cG;have Oj:=uL.ext Flat.ext bq;clear Om uL;refine J ?_;intro wn ik l6 fC eU;refine J ?_;intro c4 jc dD;have bG:Ext bK c4:=jc.ext fC l6;clear eU;have fk:=dz.trans bG;replace bl:=bG.obj bl;replace bp:=bG.obj bp;replace cb:=bG.obj cb;replace cG:=bG.obj cG;refine J ?_;refine gC.ub (gC.jg ?_);refine J ?_;refine J_ (ahH _ m rK l c4 (dc.ext fk)) ?_;rintro _ c6 ⟨⟨cP,nz,ux,rfl,ajM,ajN,lK⟩,b5⟩;have ll:=fk.trans b5;replace bp:=b5.obj bp;replace cb:=b5.obj cb;replace cG:=b5.obj cG;replace dD:=b5.obj dD;have Et:=Oj.ext Flat.ext (bG.trans b5);have agh:=bG.trans b5;clear bl;have A1:=cA cb;have z4:=cA bp;have Sn:=cA cG;have z9:=cA dD;refine J ?_;refine gC.cx (gC.apS (w0:=c6) (enc:=fun x:o.Dy m rK l=>.I (x.1:Nat)) (by simp[de,bN]) Ct (ahJ ajM ajN lK h ll aK g1) (Ext.refl _) (mV.ok _ ll.size)
  (fun pre W=>Ext c6 W/\∀x∈pre,adD m rK L x.1) (fun _ W=>Mod (fun k=>k=ez) c6 W/\W.heap[ez]? = some (.cells #[.bool false] T.ae)/\¬o.Bb m L rK l) ?_ ?_ ⟨Ext.refl _,fun x ag=>by cases ag⟩ ?_ ?_ ?_)
 .rintro pre W b8 row ⟨he,En⟩ rn aP;exact⟨he.grown rn fun k hk=>(aP k hk).1,En⟩
 .rintro _ W b8 row ⟨hm,an,az⟩ rn aP;have fN:Mod (fun k=>row=some k) W b8:=Mod.grown rn fun k hk=>hk;refine⟨hm.comp fN (fun _ _ a=>a) fun k hk a=>?_,fN.obj (fun a=>?_) an,az⟩
  .have:=(aP k a).1;omega
  .have:=(aP ez a).1;omega
 .rintro pre x W ⟨ts,En⟩ cg;refine eb ?_;refine⟨(Ext.refl W).keeps _,(Ext.refl W).iB (QB ll.size ts.size),fun e5 wN=>?_⟩;have aj:Ext c6 e5:=wN.ext ts (GA _);have gP:=aj.obj bp;have CF:=aj.obj cG;have Re:=aj.obj dD;have Oi:=Et.ext Flat.ext aj;have wS:=x.2.1;have JY:x.1<L.length:=AK
  have XL:sQ e5 _ (o.refs m):=Oi;have as8:=I4;have adz:=agh.trans aj;obtain⟨asx,rfl⟩:=I4.addr;obtain⟨ka,k3,lq,alz,alA⟩:=I4.at x.1 JY;obtain⟨aoP,aoQ⟩:=(lI.is x.1 JY).ns;refine J ?_;refine L_ 58 (o.refs m).length [4,6,9,10,11,56,57] (fun _:Unit=>[]) () (fun j _ b8=>Ext e5 b8/\∀k,k<j->∀(hk:k<(o.refs m).length),(o.refs m)[k].inst≠(rK:Int)->∀y,L[k]? = some y->¬o.sM L[x.1].1 L[x.1].2 y.1 y.2) bc bc ⟨Ext.refl _,fun k h=>absurd h (K8 _)⟩ ?_;rintro j _ k7 eO aF ⟨cr,Y8⟩;refine J ?_;apply I_<;>intro g6;rotate_left
  .refine J ?_;refine⟨cr.keeps _,cr.iB (QB ll.size aj.size),aj.trans cr,fun v aG=>?_⟩;rcases List.mem_append.1 aG with aG | aG
   .exact En v aG
   .rw[AG0] at aG;subst aG;intro k hk cz a b aV ao;rw[List.getElem?_eq_getElem JY] at aV;injection aV with aV
    subst aV;exact Y8 k AK hk cz b ao
  have JB:j<(o.refs m).length:=AK
  have JA:j<L.length:=AK
  obtain⟨jG,rfl⟩:=XL.addr;have gq:=(XL.ext Flat.ext cr).at j JB;obtain⟨r,aP⟩:∃r,r=(o.refs m)[j]:=⟨_,rfl⟩;rw[<-aP] at gq;have gq:fi eO (jG.add (j*2)) r.enc:=gq;unfold o.Ref.enc at gq;have next:∀{W},Ext e5 W->(r.inst≠(rK:Int)->¬o.sM L[x.1].1 L[x.1].2 L[j].1 L[j].2)->Ext e5 W/\∀k,k<j+1->∀(hk:k<(o.refs m).length),(o.refs m)[k].inst≠(rK:Int)->∀y,L[k]? = some y->¬o.sM L[x.1].1 L[x.1].2 y.1 y.2:=fun e az=>⟨e,fun k hk z6 cz y bV=>by
   rcases AH0 k j with h | h
   .exact Y8 k h z6 cz y bV
   .obtain rfl:k=j:=AK
    rw[List.getElem?_eq_getElem JA] at bV;injection bV with bV
    subst bV;exact az (by rw[aP];exact cz)⟩
  have abq:=cr.obj gP;have abr:=cr.obj Re;refine J ?_;intro wn uw I8 fC eU;refine J ?_;intro gy iz jK;replace jK:gy.heap[uw]? = some (.cells #[.I r.inst,.I r.cmd] T.f):=by first | exact jK | (rw[aP];exact jK)
  have e6:Ext eO gy:=iz.ext fC I8;have aoV:=e6.obj abq;have au5:=e6.obj abr;have sJ:=cr.trans e6;clear eU gq abq abr;have call:∀{w':A_},Ext gy w'->DD F.ac #[.agg #[.I r.inst,.I r.cmd],.pointer (some ⟨cC,0,none⟩)] w' fun v bO=>v = .bool (!decide (r.inst=(rK:Int)))/\Ext w' bO:=fun e=>amK r cC rK _ (e.obj aoV);by_cases g7:r.inst=(rK:Int)
  .refine J ?_;refine _w (.bool false) (fun w' e=>_e (first:=[]) (cap:=[.pointer (some ⟨cC,0,none⟩)]) Ct (call e) fun v bO ⟨h1,I⟩=>⟨by rw[h1,decide_eq_true g7];rfl,I⟩) ?_;refine J ?_;intro ji fb;refine J ?_;exact⟨JB,aL,(),trivial,next (sJ.trans fb) fun h=>absurd g7 h⟩
  .obtain⟨ks,jE,ajv,alF,alG⟩:=I4.at j JA;obtain⟨aoS,aoT⟩:=(lI.is j JA).ns;have A7:=adz.trans sJ;have atC:=lq.ext A7;have atD:=ajv.ext A7;refine J ?_;refine _w (.bool true) (fun w' e=>_e (first:=[]) (cap:=[.pointer (some ⟨cC,0,none⟩)]) Ct (call e) fun v bO ⟨h1,I⟩=>⟨by rw[h1,decide_eq_false g7];rfl,I⟩) ?_;refine J ?_;refine P_ (.bool (decide (o.sM L[x.1].1 L[x.1].2 L[j].1 L[j].2))) (fun w' e=>anL ka k3 ks jE _ _ _ _ w' (alz.ext Flat.ext (A7.trans e)) (alA.ext Flat.ext (A7.trans e)) (alF.ext Flat.ext (A7.trans e)) (alG.ext Flat.ext (A7.trans e)) aoP aoQ aoS aoT) ?_;refine J ?_;intro ji fb;have qc:=sJ.trans fb;have au4:=(aj.trans qc).obj cb;apply I_<;>intro g8
   .refine J ?_;intro mR kq aiY;have tw:Mod (fun k=>k=ez) ji mR:=kq.mod rfl;refine J ?_;refine⟨aL,?_,?_,aiY,fun aC=>aC x.1 x.2.2 j JB (by rw[<-aP];exact g7) _ _ (List.getElem?_eq_getElem JY) (List.getElem?_eq_getElem JA) g8⟩
    .exact⟨QB qc.size tw.size,fun k ae ki hk an=>tw.obj (fun a=>by subst a;omega) (qc.obj hk)⟩
    .exact Mod.comp (A':=fun k=>k=ez) (aj.trans qc).mod tw (fun _ _ a=>a) fun k hk a=>a
   .refine J ?_;exact⟨JB,aL,(),trivial,next qc fun _=>g8⟩
 .rintro D xs W im cc ⟨ts,En⟩ bb;have tW:=ts.obj cb;refine J ?_;intro eO pe kk;have IW:D≠ez:=AK
  refine gC.ret (pe.obj bb IW) ?_;have ak:dy D eO (fF eO D (.deferred none)):=dy.fF _ _ _;have abp:=ak.obj kk (Ne.symm IW);have aiv:o.Bb m L rK l:=fun i U j aF cz x y ag bV=>by
   obtain⟨v,aG,rfl⟩:=List.mem_map.1 (cc i U);exact En v aG j aF cz x y ag bV
  refine J ?_;exact⟨⟨true,aL,o.oY.of dg lI ⟨fun _=>aiv,fun _=>rfl⟩⟩,ak.ext (pe.ext (ll.trans ts) wu) (QB ll.size im)⟩
 .rintro D xs W im ⟨hm,an,az⟩ bb;have IW:D≠ez:=AK
  refine J ?_;refine gC.ret bb ?_;have ak:dy D W (fF W D (.deferred none)):=dy.fF _ _ _;have abp:=ak.obj an (Ne.symm IW);refine J ?_;exact⟨⟨false,aL,o.oY.of dg lI ⟨(fun h=>by cases h),fun h=>absurd h az⟩⟩,ak.ext (hm.ext ll fun k hk a=>AK) (QB ll.size im)⟩
end Go.Proofs.R
end
section
namespace ba
open Go Go.RowKit
theorem afa{w:A_}{b:Nat}{v:B_}{e:F_}{a:Addr}{n:Int}(ao:w.heap[b]? = some (.cells #[v] e))(aG:∀k:Int,v≠.I k)(h:w.cell? a=some (.I n)):a.block≠b:=fun he=>by
 unfold World.cell? at h;rw[he,ao] at h;simp only at h;cases ak:a.spot with
 | some x=>simp[ak] at h
 | none =>
  simp[ak] at h
  have:a.off=0:=by
   cases aO:a.off with
   | zero=>rfl
   | succ k=>rw[aO] at h;simp at h
  rw[this] at h;simp at h;exact aG n h
theorem Lx{α:Type}{enc:α->C_ B_}{sz b:Nat}{w w':A_}{v u:B_}{e:F_}{xs:C_ α}(hint:∀x,∀y∈enc x,∃n,y = .I n)(h:bn sz (Flat enc) w v xs)(ao:w.heap[b]? = some (.cells #[u] e))(hu:∀k:Int,u≠.I k)(hw:dy b w w'):bn sz (Flat enc) w' v xs:=by
 obtain⟨aQ,cap,bB,h1,I,ab,aH⟩:=h;refine⟨aQ,cap,bB,h1,I,ab,fun a aV i U j y aF=>?_⟩;have an:=aH a aV i U j y aF;obtain⟨n,rfl⟩:=hint _ y (List.mem_of_getElem? aF);exact hw.cell an (afa ao hu an)
end ba
namespace Go.Proofs.R
open Go Go.RowKit ba
theorem aaK(x:Int):∀y∈cL x,∃n,y = .I n:=by simp[cL]
theorem apF(x:o.Ref):∀y∈x.enc,∃n,y = .I n:=by simp[o.Ref.enc]
theorem alO(x:o.cX):∀y∈x.enc,∃n,y = .I n:=by simp[o.cX.enc]
abbrev abd:C_ Nat:=[5,6,7,26,28,30,31]
def vc(b:Bool)(v:B_):B_:=if b then v else .slice none 0 0
structure jR(fU:Fr)(w0:World)(m:o.Model)(D:List Nat)(S:Fr)(w:World):Prop where
 ext:Ext w0 w
 hG:∀t,¬t∈abd->S t=fU t
 f26:26∈D->sQ w (S 26) (o.refs m)
 f28:28∈D->ku w (S 28) (o.insts m)
 f30:30∈D->∃(ys:List Value) (v:Value),S 30 = .agg ys.toArray/\ys[2]? = some v/\bn 1 (Flat cL) w v (o.layout m).insts
 f31:31∈D->bn 1 (Flat cL) w (S 31) (o.layout m).insts
 f7:7∈D->bn 1 (Flat cL) w (S 7) (o.layout m).insts
 f5:5∈D->∃b,w0.heap.size<=b/\S 5 = .pointer (some ⟨b,0,none⟩)/\w.heap[b]? = some (.cells #[vc (decide (1<=D.count 100000)) (S 26)] T.c)
 f6:6∈D->∃b,w0.heap.size<=b/\S 6 = .pointer (some ⟨b,0,none⟩)/\w.heap[b]? = some (.cells #[vc (decide (2<=D.count 100000)) (S 28)] T.g)
 la:7∈D->2<=D.count 100000
theorem xe{S:Fr}{D:C_ Nat}{d t:Nat}{v:B_}(h:t∈D)(bb:¬d∈D):b4 S d v t=S t:=by
 have cz:t≠d:=fun e=>bb (e ▸ h);unfold b4;rw[if_neg cz]
section
variable{fU:Fr}{w0 w w':World}{m:o.Model}{D:List Nat}{S:Fr}
theorem jR.nm(h:jR fU w0 m D S w){d:Nat}{v:B_}(e:Ext w w')(ak:d∈abd)(bb:¬d∈D)(an:D.count 100000=0/\d≠7\/(d=7/\26∈D/\28∈D/\2<=D.count 100000))
  (n26:d=26->sQ w' v (o.refs m))(n28:d=28->ku w' v (o.insts m))(n30:d=30->∃(ys:C_ B_) (u:B_),v = .agg ys.toArray/\ys[2]? = some u/\bn 1 (Flat cL) w' u (o.layout m).insts)
  (n31:d=31->bn 1 (Flat cL) w' v (o.layout m).insts)(n7:d=7->bn 1 (Flat cL) w' v (o.layout m).insts)
  (n5:d=5->∃b,w0.heap.size<=b/\v = .pointer (some ⟨b,0,none⟩)/\w'.heap[b]? = some (.cells #[.slice none 0 0] T.c))
  (n6:d=6->∃b,w0.heap.size<=b/\v = .pointer (some ⟨b,0,none⟩)/\w'.heap[b]? = some (.cells #[.slice none 0 0] T.g)):jR fU w0 m (d :: D) (b4 S d v) w':=by
 have cz:d≠100000:=fun e=>by rw[e] at ak;exact absurd ak BN
 have EJ:(d :: D).count 100000=D.count 100000:=List.count_cons_of_ne (by simpa using cz);refine⟨h.ext.trans e,fun t aB=>?_,fun a=>?_,fun a=>?_,fun a=>?_,fun a=>?_,fun a=>?_,fun a=>?_,fun a=>?_,fun a=>?_⟩
 .have cz:t≠d:=fun e=>aB (e ▸ ak);rw[<-h.hG t aB];unfold b4;rw[if_neg cz]
 .by_cases q:d=26
  .subst q;simpa[b4] using n26 rfl
  .have cF:26∈D:=by simpa[Ne.symm q] using a
   rw[xe cF bb];exact bn.ext Flat.ext e (h.f26 cF)
 .by_cases q:d=28
  .subst q;simpa[b4] using n28 rfl
  .have cF:28∈D:=by simpa[Ne.symm q] using a
   rw[xe cF bb];exact bn.ext Flat.ext e (h.f28 cF)
 .by_cases q:d=30
  .subst q;simpa[b4] using n30 rfl
  .have cF:30∈D:=by simpa[Ne.symm q] using a
   rw[xe cF bb];obtain⟨ys,u,h1,I,ab⟩:=h.f30 cF;exact⟨ys,u,h1,I,bn.ext Flat.ext e ab⟩
 .by_cases q:d=31
  .subst q;simpa[b4] using n31 rfl
  .have cF:31∈D:=by simpa[Ne.symm q] using a
   rw[xe cF bb];exact bn.ext Flat.ext e (h.f31 cF)
 .by_cases q:d=7
  .subst q;simpa[b4] using n7 rfl
  .have cF:7∈D:=by simpa[Ne.symm q] using a
   rw[xe cF bb];exact bn.ext Flat.ext e (h.f7 cF)
 .by_cases q:d=5
  .subst q;rw[EJ];have af:D.count 100000=0:=by rcases an with ⟨af,_⟩ | ⟨af,_⟩;exact af;cases af
   rw[af];simpa[b4,vc] using n5 rfl
  .have cF:5∈D:=by simpa[Ne.symm q] using a
   obtain⟨b,h1,I,ab⟩:=h.f5 cF;rw[xe cF bb,EJ];refine⟨b,h1,I,?_⟩;rcases an with ⟨af,_⟩ | ⟨_,mB,_⟩
   .rw[af] at ab ⊢;simpa[vc] using e.obj ab
   .rw[xe mB bb];exact e.obj ab
 .by_cases q:d=6
  .subst q;rw[EJ];have af:D.count 100000=0:=by rcases an with ⟨af,_⟩ | ⟨af,_⟩;exact af;cases af
   rw[af];simpa[b4,vc] using n6 rfl
  .have cF:6∈D:=by simpa[Ne.symm q] using a
   obtain⟨b,h1,I,ab⟩:=h.f6 cF;rw[xe cF bb,EJ];refine⟨b,h1,I,?_⟩;rcases an with ⟨af,_⟩ | ⟨_,_,N4,_⟩
   .rw[af] at ab ⊢;simpa[vc] using e.obj ab
   .rw[xe N4 bb];exact e.obj ab
 .rw[EJ];rcases an with ⟨af,q⟩ | ⟨_,_,_,q⟩
  .have cF:7∈D:=by simpa[Ne.symm q] using a
   exact h.la cF
  .exact q
variable{cs:List Value}
theorem an9(bb:¬26∈D)(an:D.count 100000=0)(aW:o.eh w0 cs m)(aC:o.vB m)(cc:fU 25 = .agg cs.toArray):sS Tryz.prog w0 (jR fU w0 m) D ⟨some 26,none,.c (.fn F.c [.tmp 25])⟩:=⟨rfl,fun S w h=>by
 show DD F.c #[S 25] w fun v w'=>Ext w0 w'/\jR fU w0 m (26 :: D) (b4 S 26 v) w';rw[h.hG 25 BN,cc];exact(yN _ m w (aW.ext h.ext) aC).mono fun v w' ⟨h1,I⟩=>⟨h.ext.trans I,h.nm I BN bb (.inl ⟨an,BN⟩) (fun _=>aS.hE (enc:=o.Ref.enc) (fun _=>rfl) h1) (fun q=>by cases q) (fun q=>by cases q) (fun q=>by cases q) (fun q=>by cases q) (fun q=>by cases q) (fun q=>by cases q)⟩⟩
theorem aoa(bb:¬28∈D)(an:D.count 100000=0)(aW:o.eh w0 cs m)(aK:m.cK)(cc:fU 27 = .agg cs.toArray):sS Tryz.prog w0 (jR fU w0 m) D ⟨some 28,none,.c (.fn F.b [.tmp 27])⟩:=⟨rfl,fun S w h=>by
 show DD F.b #[S 27] w fun v w'=>Ext w0 w'/\jR fU w0 m (28 :: D) (b4 S 28 v) w';rw[h.hG 27 BN,cc];exact(wU _ m w (aW.ext h.ext) aK).mono fun v w' ⟨h1,I⟩=>⟨h.ext.trans I,h.nm I BN bb (.inl ⟨an,BN⟩) (fun q=>by cases q) (fun _=>aS.hE (enc:=o.cX.enc) (fun _=>rfl) h1) (fun q=>by cases q) (fun q=>by cases q) (fun q=>by cases q) (fun q=>by cases q) (fun q=>by cases q)⟩⟩
theorem aob(bb:¬30∈D)(an:D.count 100000=0)(aW:o.eh w0 cs m)(aK:m.cK)(aO:gK w0)(hk:(o.check m).cN=0)(cc:fU 29 = .agg cs.toArray):sS Tryz.prog w0 (jR fU w0 m) D ⟨some 30,none,.c (.fn F.a [.tmp 29])⟩:=⟨rfl,fun S w h=>by
 show DD F.a #[S 29] w fun v w'=>Ext w0 w'/\jR fU w0 m (30 :: D) (b4 S 30 v) w';rw[h.hG 29 BN,cc];exact(FI _ m w (aW.ext h.ext) aK (aO.ext h.ext)).mono fun v w' ⟨⟨ys,h1,cY⟩,I⟩=>⟨h.ext.trans I,h.nm I BN bb (.inl ⟨an,BN⟩) (fun q=>by cases q) (fun q=>by cases q) (fun _=>by
  rw[o.FJ hk] at cY;obtain⟨eK,d0,dM,d1,et,d2,eB,d3,eL,d4,rfl,_,_,du,_⟩:=cY.here.form;exact⟨_,_,h1,rfl,du⟩) (fun q=>by cases q) (fun q=>by cases q) (fun q=>by cases q) (fun q=>by cases q)⟩⟩
theorem aoc(bb:¬31∈D)(an:D.count 100000=0)(au:30∈D):RunT Tryz.prog w0 (jR fU w0 m) D ⟨some 31,none,.p (.gN 2 (.tmp 30))⟩:=⟨rfl,fun S w h=>by
 obtain⟨ys,v,h1,I,ab⟩:=h.f30 au;show Hc 2 (S 30) fun v=>jR fU w0 m (31 :: D) (b4 S 31 v) w;rw[h1];refine⟨ys.toArray,v,rfl,by simpa using I,h.nm (Ext.refl _) BN bb (.inl ⟨an,BN⟩) (fun q=>by cases q) (fun q=>by cases q) (fun q=>by cases q) (fun _=>ab) (fun q=>by cases q) (fun q=>by cases q) (fun q=>by cases q)⟩⟩
theorem aod(bb:¬5∈D)(an:D.count 100000=0):sS Tryz.prog w0 (jR fU w0 m) D ⟨some 5,none,.e (.new T.c (.slice none 0 0))⟩:=⟨rfl,fun S w h=>by
 show Ext w0 (w.alloc (.cells #[.slice none 0 0] T.c))/\jR fU w0 m (5 :: D) (b4 S 5 (.pointer (some ⟨w.heap.size,0,none⟩))) (w.alloc (.cells #[.slice none 0 0] T.c));exact⟨h.ext.alloc _,h.nm ((Ext.refl w).alloc _) BN bb (.inl ⟨an,BN⟩) (fun q=>by cases q) (fun q=>by cases q) (fun q=>by cases q) (fun q=>by cases q) (fun q=>by cases q) (fun _=>⟨_,h.ext.size,rfl,heap_alloc_new w _⟩) (fun q=>by cases q)⟩⟩
theorem aoe(bb:¬6∈D)(an:D.count 100000=0):sS Tryz.prog w0 (jR fU w0 m) D ⟨some 6,none,.e (.new T.g (.slice none 0 0))⟩:=⟨rfl,fun S w h=>by
 show Ext w0 (w.alloc (.cells #[.slice none 0 0] T.g))/\jR fU w0 m (6 :: D) (b4 S 6 (.pointer (some ⟨w.heap.size,0,none⟩))) (w.alloc (.cells #[.slice none 0 0] T.g));exact⟨h.ext.alloc _,h.nm ((Ext.refl w).alloc _) BN bb (.inl ⟨an,BN⟩) (fun q=>by cases q) (fun q=>by cases q) (fun q=>by cases q) (fun q=>by cases q) (fun q=>by cases q) (fun q=>by cases q) (fun _=>⟨_,h.ext.size,rfl,heap_alloc_new w _⟩)⟩⟩
theorem aof(bb:¬7∈D)(au:31∈D/\26∈D/\28∈D/\2<=D.count 100000):RunT Tryz.prog w0 (jR fU w0 m) D ⟨some 7,none,.p (.np (.tmp 31))⟩:=⟨rfl,fun S w h=>by
 show jR fU w0 m (7 :: D) (b4 S 7 (S 31)) w;exact h.nm (Ext.refl _) BN bb (.inr ⟨rfl,au.2⟩) (fun q=>by cases q) (fun q=>by cases q) (fun q=>by cases q) (fun q=>by cases q) (fun _=>h.f31 au.1) (fun q=>by cases q) (fun q=>by cases q)⟩
theorem jR.store(h:jR fU w0 m D S w){b:Nat}{u:B_}{e:F_}(ao:w.heap[b]? = some (.cells #[u] e))(hu:∀k:Int,u≠.I k)(hN:w0.heap.size<=b)(hw:dy b w w')(cj:¬7∈D)
  (n5:5∈D->∃b,w0.heap.size<=b/\S 5 = .pointer (some ⟨b,0,none⟩)/\w'.heap[b]? = some (.cells #[vc (decide (1<=(100000 :: D).count 100000)) (S 26)] T.c))
  (n6:6∈D->∃b,w0.heap.size<=b/\S 6 = .pointer (some ⟨b,0,none⟩)/\w'.heap[b]? = some (.cells #[vc (decide (2<=(100000 :: D).count 100000)) (S 28)] T.g)):jR fU w0 m (100000 :: D) S w':=by
 have mem:∀{t:Nat},t≠100000->t∈100000 :: D->t∈D:=fun aB h=>by
  rcases List.mem_cons.1 h with e | e
  .exact absurd e aB
  .exact e
 refine⟨hw.ext h.ext hN,h.hG,fun a=>Lx apF (h.f26 (mem BN a)) ao hu hw,fun a=>Lx alO (h.f28 (mem BN a)) ao hu hw,fun a=>?_,fun a=>Lx aaK (h.f31 (mem BN a)) ao hu hw,fun a=>absurd (mem BN a) cj,fun a=>n5 (mem BN a),fun a=>n6 (mem BN a),fun a=>absurd (mem BN a) cj⟩;obtain⟨ys,v,h1,I,ab⟩:=h.f30 (mem BN a);exact⟨ys,v,h1,I,Lx aaK ab ao hu hw⟩
theorem abe(b:Bool){v:B_}(aG:∃aQ n c,v = .slice aQ n c):∀k:Int,vc b v≠.I k:=fun k=>by
 obtain⟨aQ,n,c,rfl⟩:=aG;cases b<;>simp[vc]
theorem VH{w:A_}{b gS:Nat}{c kN:Array B_}{e e':F_}(h:w.heap[b]? = some (.cells c e))(bo:w.heap[gS]? = some (.cells kN e'))(he:e≠e'):b≠gS:=fun ao=>by
 rw[ao,bo] at h;injection h with h
 injection h with _ h
 exact he h.symm
theorem aog(an:D.count 100000=0)(au:5∈D/\6∈D/\26∈D)(cj:¬7∈D):sS Tryz.prog w0 (jR fU w0 m) D ⟨none,none,.e (.st (.tmp 5) (.tmp 26))⟩:=⟨rfl,fun S w h=>by
 obtain⟨b,h1,I,ab⟩:=h.f5 au.1;obtain⟨ez,cE,cW,fz⟩:=h.f6 au.2.1;obtain⟨aQ,n,aG,_⟩:=(h.f26 au.2.2).form;have cz:ez≠b:=VH fz ab BN;have al:(100000 :: D).count 100000=1:=by rw[List.count_cons_self,an]
 show vG (S 5) (S 26) w fun w'=>Ext w0 w'/\jR fU w0 m (100000 :: D) S w';rw[I];have key:=_W (KW:=fun w'=>Ext w0 w'/\jR fU w0 m (100000 :: D) S w') (t:=⟨⟩) (v:=S 26) ab (Nat.zero_lt_one) (by rw[aG];rfl) fun w1 iy cM=>⟨iy.ext h.ext h1,h.store ab (abe _ ⟨_,_,_,aG⟩) h1 iy cj (fun _=>⟨b,h1,I,by rw[al];exact cM⟩) (fun _=>⟨ez,cE,cW,by rw[al];rw[an] at fz;exact iy.obj fz cz⟩)⟩;unfold qZ at key;exact key⟩
theorem aoh(an:D.count 100000=1)(au:5∈D/\6∈D/\28∈D)(cj:¬7∈D):sS Tryz.prog w0 (jR fU w0 m) D ⟨none,none,.e (.st (.tmp 6) (.tmp 28))⟩:=⟨rfl,fun S w h=>by
 obtain⟨b,h1,I,ab⟩:=h.f6 au.2.1;obtain⟨dR,cE,cW,fz⟩:=h.f5 au.1;obtain⟨aQ,n,aG,_⟩:=(h.f28 au.2.2).form;have cz:dR≠b:=VH fz ab BN;have al:(100000 :: D).count 100000=2:=by rw[List.count_cons_self,an]
 show vG (S 6) (S 28) w fun w'=>Ext w0 w'/\jR fU w0 m (100000 :: D) S w';rw[I];have key:=_W (KW:=fun w'=>Ext w0 w'/\jR fU w0 m (100000 :: D) S w') (t:=⟨⟩) (v:=S 28) ab (Nat.zero_lt_one) (by rw[aG];rfl) fun w1 iy cM=>⟨iy.ext h.ext h1,h.store ab (abe _ ⟨_,_,_,aG⟩) h1 iy cj (fun _=>⟨dR,cE,cW,by rw[al];rw[an] at fz;exact iy.obj fz cz⟩) (fun _=>⟨b,h1,I,by rw[al];exact cM⟩)⟩;unfold qZ at key;exact key⟩
end
theorem aoo(cs:C_ B_)(bL hy:B_)(m:o.Model)(r bS ez dR:Nat)(w:A_)(h:o.eh w cs m)(aZ:ku w bL (o.insts m))(kj:sQ w hy (o.refs m))(gr:(o.check m).cN=0)(aP:r<(o.refs m).length)
  (av:w.heap[bS]? = some (.cells cs.toArray T.d))(cb:w.heap[ez]? = some (.cells #[bL] T.g))(b9:w.heap[dR]? = some (.cells #[hy] T.c)) :
  DD F.oi #[.I r,.pointer (some ⟨bS,0,none⟩),.pointer (some ⟨ez,0,none⟩),.pointer (some ⟨dR,0,none⟩)] w fun u w'=>u = .I (o.BO m r)/\Ext w w':=by
 obtain⟨b6,bx,bR,c1,bX,c2,bZ,bu,ca,bC,rfl,af,h1,I,ab,aH,e2,eE,eJ,er,eH⟩:=h.form;obtain⟨cn,ci,rfl,_⟩:=aZ.form;obtain⟨fA,gp,rfl,_⟩:=kj.form;obtain⟨Lm,p,k,bF⟩:=o.pM (m:=m) (ref:=r) ⟨gr,AK,AK⟩;obtain⟨Rw,Rx⟩:=bF.rel;have ar:=bF.at_.U;have au:=bF.at_.au;have nd:=bF.at_.hk;have oB:=bF.at_.ip;have gu:(o.refs m)[r].inst=(Lm:Int):=bF.at_.pk;have pd:(o.refs m)[r].cmd=(k:Int):=bF.at_.sC;obtain⟨jG,rfl⟩:=kj.addr;obtain⟨ij,rfl⟩:=aZ.addr;obtain⟨a3,rfl⟩:=ab.addr;obtain⟨mc,b2,dV,dP,e7,fy⟩:=ab.at p au;obtain⟨CB,BA,rfl,Cs⟩:=fy.form;obtain⟨ac,rfl⟩:=fy.addr;obtain⟨eU,fq,dH,gF,h6,gG⟩:=fy.at k nd;obtain⟨gw,fS,rfl,_⟩:=h6.form;obtain⟨sy,r6,rfl,_⟩:=gG.form;unfold o.dJ.enc at dP;unfold o.ea.enc at gF;have km:=o.xX au nd;refine br E.oi ?_;refine J ?_;refine K_ Lm (by rw[gu]) AK ?_;refine J ?_;refine K_ p (by rw[oB]) au ?_;refine J ?_;refine K_ k (by rw[pd]) AK ?_;refine J ?_;intro w1 ai;refine J ?_;exact⟨by rw[Rx,km],ai⟩
end Go.Proofs.R
end
section
namespace Go.Proofs.R
open Go Go.RowKit ba
theorem o.alU{m:o.Model}{s:C_ Int}{r:Nat}{t:Bool}(bH:o.gL m s)(aP:r<(o.refs m).length)(h:Hv m s r t):t=true↔o.A9 m s r:=by
 obtain⟨q,p,k,bF⟩:=o.pM (m:=m) (ref:=r) ⟨bH.1,AK,AK⟩;unfold Hv at h;rw[h];constructor
 .rintro⟨_,_,ab⟩;exact⟨q,p,k,bF,ab q p k bF⟩
 .rintro⟨e3,gB,k',uK,ab⟩;refine⟨bH,bF.told,fun a b c IU=>?_⟩;obtain⟨rfl,rfl,rfl⟩:=uK.one IU;exact ab
theorem HF(cs:C_ B_)(v:B_)(m:o.Model)(s:C_ Int)(w:A_)(h:o.eh w cs m)(aK:m.cK)(aO:gK w)(ak:dw w v s) :
  DD F.HS #[.agg cs.toArray,v] w fun u w'=>(∃i:Int,u = .I i/\o.qU m s i)/\Ext w w':=by
 have dc:=h;obtain⟨b6,bx,bR,c1,bX,c2,bZ,bu,ca,bC,rfl,_⟩:=h.form;obtain⟨os,r9,rfl,_⟩:=ak.form;refine br E.HS ?_;refine J ?_;intro w1 bS dm ai av;refine J ?_;refine J_ (yC _ m w1 (dc.ext ai) aK (aO.ext ai)) ?_;rintro _ aD ⟨rfl,aj⟩;replace av:=aj.obj av;have aJ:=ai.trans aj;refine J ?_;refine _K (v:=.I (o.check m).cN) rfl ?_;refine J ?_;refine I_ (fun hk=>?_) (fun hk=>?_);rotate_left
 .have az:¬o.gL m s:=fun bH=>hk bH.1;refine J ?_;exact⟨⟨-1,aL,⟨fun _=>rfl,fun bH=>absurd bH az,fun bH=>absurd bH az⟩⟩,aJ⟩
 refine J ?_;refine J_ (acH _ m _ s aD (dc.ext aJ) aK (aO.ext aJ) (ak.ext Flat.ext aJ)) ?_;rintro _ aN ⟨⟨t,rfl,aB⟩,ah⟩;replace av:=ah.obj av;have a7:=aJ.trans ah;cases t with
 | false =>
  have az:¬o.gL m s:=fun bH=>by have:=aB.2 bH;cases this
  refine J ?_;exact⟨⟨-1,aL,⟨fun _=>rfl,fun bH=>absurd bH az,fun bH=>absurd bH az⟩⟩,a7⟩
 | true =>
 have bH:=aB.1 rfl;have na:=o.j3 hk;have ak4:=o.ve na.lim;have gM:=o.Fz na;obtain⟨f6,f7,f8⟩:=o.tI m;have hlen:=bH.2.len;refine eb ?_;refine S_ [1,2] (fun x:(Nat×Nat)×B_=>[(5,.pointer (some ⟨x.1.1,0,none⟩)),(6,.pointer (some ⟨x.1.2,0,none⟩)),(7,x.2)]) (fun x W=>Ext aN W/\∃hy bL,W.heap[x.1.1]? = some (.cells #[hy] T.c)/\W.heap[x.1.2]? = some (.cells #[bL] T.g)/\sQ W hy (o.refs m)/\ku W bL (o.insts m)/\bn 1 (Flat cL) W x.2 (o.layout m).insts) ?_ ?_
 .refine AB5 _ _ (by rfl) ?_;intro aU ax;dsimp only[strip];replace av:=ax.obj av;have bD:=a7.trans ax;refine J ?_;refine⟨jR _ aU m,[5,6,7,26,28],?_,⟨Ext.refl _,fun _ _=>rfl,Bs,Bs,Bs,Bs,Bs,Bs,Bs,Bs⟩,?_⟩
  .have BV:=dc.ext bD;have dO:=aO.ext bD;clear av h ak
   repeat' first
    | exact h2.nil
    | exact h2.done BN
    | refine h2.alt (an9 BN BN BV na.lim rfl) ?_ ?_
    | refine h2.alt (aoa BN BN BV aK rfl) ?_ ?_
    | refine h2.bh (aob BN BN BV aK dO hk rfl) ?_ ?_
    | refine h2.alt (aod BN BN) ?_ ?_
    | refine h2.alt (aoe BN BN) ?_ ?_
    | refine h2.take (aoc BN BN BN) ?_
    | refine h2.take (aof BN BN) ?_
    | refine h2.bh (aog BN BN BN) ?_ ?_
    | refine h2.bh (aoh BN BN BN) ?_ ?_
  .rintro D qg bt im aZ;have an:=aZ.la (im 7 BN);obtain⟨dR,cZ,dt,ef⟩:=aZ.f5 (im 5 BN);obtain⟨ez,dU,du,eW⟩:=aZ.f6 (im 6 BN);rw[decide_eq_true (show 1<=D.count 100000 by omega)] at ef;rw[decide_eq_true an] at eW;exact⟨((dR,ez),qg 7),⟨dt,du,rfl,trivial⟩,ax.trans aZ.ext,_,_,ef,eW,aZ.f26 (im 26 BN),aZ.f28 (im 28 BN),aZ.f7 (im 7 BN)⟩
 rintro⟨⟨dR,ez⟩,dH⟩ qg aU ⟨ax,hy,bL,b9,cb,kj,aZ,du⟩;dsimp only at b9 cb du;replace av:=ax.obj av;have bD:=a7.trans ax;have BV:=dc.ext bD;obtain⟨cn,ci,rfl,_⟩:=aZ.form;obtain⟨fA,gp,rfl,_⟩:=kj.form;obtain⟨aQ,eZ,rfl,_⟩:=du.form;have dY:∀{W} (r:Nat),Ext aU W->r<(o.refs m).length->DD F.oi #[.I r,.pointer (some ⟨bS,0,none⟩),.pointer (some ⟨ez,0,none⟩),.pointer (some ⟨dR,0,none⟩)] W fun u w'=>u = .I (o.BO m r)/\Ext W w' :=
  fun {W} r e aP=>aoo _ _ _ m r bS ez dR W (BV.ext e) (aZ.ext Flat.ext e) (kj.ext Flat.ext e) hk aP (e.obj av) (e.obj cb) (e.obj b9)
 have gW:∀{W},Ext aU W->W.heap[bS]? = _:=fun e=>e.obj av;have P9:∀{W},Ext aU W->W.heap[dR]? = _:=fun e=>e.obj b9;refine J ?_;refine L_ 35 (o.insts m).length [1,2,5,6,7,8,33,34] (fun _:Unit=>[(9,.I (-1))]) () (fun i _ W=>Ext aU W/\∀j,j<i->¬o.n3 m s j) bc bc ⟨Ext.refl _,fun j aF=>absurd aF (K8 _)⟩ ?_;clear av b9 cb;rintro i _ S bt U ⟨aI,fD⟩;have av:=gW aI;have b9:=P9 aI;have bJ:=bD.trans aI;refine J ?_;apply I_<;>intro g1;rotate_left
 .refine J ?_;exact⟨⟨-1,aL,⟨fun _=>rfl,fun _ _=>⟨rfl,fun j aF=>fD j AK⟩,fun _ h=>absurd h AK⟩⟩,bJ⟩
 have cH:i<(o.insts m).length:=AK
 obtain⟨p,hIn⟩:=o.Fy cH;obtain⟨EW,qB⟩:=o.rB cH;have EX:=hIn.room;have yL:=du.ext Flat.ext aI;have rA:=ak.ext Flat.ext bJ;obtain⟨a2,rfl⟩:∃a,aQ=some a:=du.addr;obtain⟨MO,rfl⟩:=ak.addr;have uR:o.Aw m s i=s[o.dG m i]' AK:=by unfold o.Aw;rw[List.getElem?_eq_getElem AK];rfl
 refine J ?_;refine K_ (o.dG m i) (by rw[qB]) AK ?_;refine J ?_;obtain⟨loc,akc⟩:∃loc,loc=s[o.dG m i]:=⟨_,rfl⟩;rw[<-akc] at uR ⊢;clear yL rA;refine J_ (af5 _ m i loc bt (dc.ext bJ) aK (aO.ext bJ)) ?_;rintro _ bz ⟨⟨t,rfl,cY⟩,aM⟩;replace av:=aM.obj av;replace b9:=aM.obj b9;have cv:=bJ.trans aM;have iE:=aI.trans aM;have XE:=cY.is;have pT:¬o.n3 m s i->∀j,j<i+1->¬o.n3 m s j:=fun cz j aF dW=>by
  by_cases e:j=i
  .rw[e] at dW;exact cz dW
  .exact fD j AK dW
 cases t with
 | false =>
  have cz:¬o.n3 m s i:=fun dW=>by have:=dW.loc;rw[uR,<-XE] at this;cases this
  have:=pT cz
  refine J ?_;exact⟨AK,aL,(),⟨aL,trivial⟩,iE,this⟩
 | true =>
 have Dx:=kj.ext Flat.ext iE;refine J ?_;have P8:∀{W},Ext bz W->W.heap[bS]? = _:=fun e=>e.obj av;clear av b9;refine L_ 52 (o.refs m).length [1,2,5,6,7,8,9,10,11,33,34,35,50,51] (fun b:Bool=>[(12,.bool b)]) false (fun k b W=>Ext bz W/\(∀r,r<k->o.pQ m i loc r=true->o.xo m r=false)/\(b=true↔∃r,r<k/\o.pQ m i loc r=true/\o.A9 m s r)) bc bc ⟨Ext.refl _,fun r aP=>absurd aP (K8 _),Bs⟩ ?_;rintro k b S bK zZ ⟨bq,EN,JJ⟩;have av:=P8 bq;have dz:=cv.trans bq;have gR:=iE.trans bq;have Bg:=Dx.ext Flat.ext bq;refine J ?_;apply I_<;>intro g2;rotate_left
 .have oD:k=(o.refs m).length:=AK
  have Oa:b=true↔o.n3 m s i:=by
   rw[o.agw,uR,JJ];constructor
   .rintro⟨r,h1,I,ab⟩;exact⟨XE.symm,fun hv ry=>EN hv (by have:=ry.lt;omega) ((o.IA hk ry.lt).2 ry),r,(o.IA hk AK).1 I,ab⟩
   .intro dW;obtain⟨r,h1,I⟩:=dW.on;exact⟨r,by have:=h1.lt;omega,(o.IA hk h1.lt).2 h1,I⟩
  clear EN JJ;cases b with
  | true =>
   have dW:=Oa.1 rfl;refine J ?_;have l5:o.qU m s (i:Int):=⟨fun az=>absurd bH az,fun _ h=>absurd h AK,fun _ _=>⟨AK,by rw[AG9];exact dW,fun j aF=>fD j AK⟩⟩;exact⟨⟨i,aL,l5⟩,dz⟩
  | false =>
   have:=pT fun dW=>by have:=Oa.2 dW;cases this
   clear Oa fD;refine J ?_;exact⟨AK,aL,(),⟨aL,trivial⟩,gR,this⟩
 have a1:k<(o.refs m).length:=AK
 obtain⟨Lm,pp,kE,bF⟩:=o.pM (m:=m) (ref:=k) ⟨hk,AK,AK⟩;obtain⟨Rw,Rx⟩:=bF.rel;have gu:(o.refs m)[k].inst=(Lm:Int):=bF.at_.pk;obtain⟨jG,rfl⟩:=Bg.addr;have gq:=Bg.at k a1;obtain⟨r,aP⟩:∃r,r=(o.refs m)[k]:=⟨_,rfl⟩;rw[<-aP] at gq gu;have gq:fi bK (jG.add (k*2)) r.enc:=gq;unfold o.Ref.enc at gq;obtain⟨hG,qz⟩:∃hG,hG=o.BO m k:=⟨_,rfl⟩;have O3:o.pQ m i loc k=(decide (r.inst=i)&&decide (hG=loc)):=by unfold o.pQ;rw[Rw,<-gu,qz]
 have dY:∀{W},Ext bK W->DD F.oi #[.I k,.pointer (some ⟨bS,0,none⟩),.pointer (some ⟨ez,0,none⟩),.pointer (some ⟨dR,0,none⟩)] W fun u w'=>u = .I hG/\Ext W w':=fun e=>by rw[qz];exact dY k (gR.trans e) a1
 have tR:∀{W} (gS:Bool),Ext bK W->(o.pQ m i loc k=true->o.xo m k=false)->(gS=true↔b=true\/(o.pQ m i loc k=true/\o.A9 m s k))->Ext bz W/\(∀r,r<k+1->o.pQ m i loc r=true->o.xo m r=false)/\(gS=true↔∃r,r<k+1/\o.pQ m i loc r=true/\o.A9 m s r):=fun gS e h1 I=>⟨bq.trans e,fun r aP ay=>by
   by_cases e:r=k
   .subst e;exact h1 ay
   .exact EN r AK ay,by
   rw[I,JJ];constructor
   .rintro(⟨r,db,a2,a3⟩ | ⟨a2,a3⟩)
    .exact⟨r,AK,a2,a3⟩
    .exact⟨k,AK,a2,a3⟩
   .rintro⟨r,db,a2,a3⟩;by_cases e:r=k
    .subst e;exact .inr ⟨a2,a3⟩
    .exact .inl ⟨r,AK,a2,a3⟩⟩
 clear JJ Dx Rw Rx;refine J ?_;intro wn s6 BZ fC eU;refine J ?_;intro c4 jc ox;replace ox:c4.heap[s6]? = some (.cells #[.I r.inst,.I r.cmd] T.f):=by first | exact ox | (rw[aP];exact ox)
 have bG:Ext bK c4:=jc.ext fC BZ;replace av:=bG.obj av;have fk:=dz.trans bG;have iF:=gR.trans bG;clear eU gq Bg;by_cases g7:r.inst=(i:Int);rotate_left
 .have af:o.pQ m i loc k=false:=by rw[O3,decide_eq_false g7];rfl
  have:=tR b bG (fun h=>by rw[af] at h;cases h) ⟨fun h=>.inl h,fun h=>by rcases h with h | ⟨h,_⟩;exact h;rw[af] at h;cases h⟩
  clear EN tR fD pT dY gW P9 P8;refine J ?_;exact⟨a1,aL,b,⟨aL,trivial⟩,this⟩
 have lJ:o.pQ m i loc k=decide (hG=loc):=by rw[O3,decide_eq_true g7,AJ3]
 replace tR:=i_ @tR trivial;replace fD:=i_ fD trivial;replace dY:=i_ @dY trivial;replace pT:=i_ pT trivial;have B3:o.n3 m s i->o.pQ m i loc k=true->o.xo m k=false:=fun dW ay=>dW.H6 k (by rw[uR];exact(o.IA hk a1).1 ay);replace B3:=i_ B3 trivial;replace lJ:=i_ lJ trivial;clear EN qz O3 gu bF aP gW P9 P8;refine J ?_;refine V_ (first:=[]) (cap:=[.pointer (some ⟨bS,0,none⟩),.pointer (some ⟨ez,0,none⟩),.pointer (some ⟨dR,0,none⟩)]) Ct (dY.1 bG) ?_;rintro _ c6 ⟨rfl,b5⟩;replace av:=b5.obj av;have ll:=fk.trans b5;have gk:=iF.trans b5;have Xv:=bG.trans b5;clear dY;by_cases g8:hG=loc;rotate_left
 .have af:o.pQ m i loc k=false:=by rw[lJ.1,decide_eq_false g8]
  have:=tR.1 b Xv (fun h=>by rw[af] at h;cases h) ⟨fun h=>.inl h,fun h=>by rcases h with h | ⟨h,_⟩;exact h;rw[af] at h;cases h⟩
  clear tR fD pT;refine J ?_;exact⟨a1,aL,b,⟨aL,trivial⟩,this⟩
 have h1:o.pQ m i loc k=true:=by rw[lJ.1,decide_eq_true g8]
 replace h1:=i_ h1 trivial;refine J ?_;refine J_ (af6 _ m k c6 (dc.ext ll) aK (aO.ext ll)) ?_;rintro _ eO ⟨⟨t,rfl,cc⟩,cr⟩;replace av:=cr.obj av;have lk:=ll.trans cr;have xB:=gk.trans cr;have Xu:=Xv.trans cr;have kS:=cc.is;cases t with
 | true =>
  have cz:¬o.n3 m s i:=fun dW=>by have:=B3.1 dW h1.1;rw[<-kS] at this;cases this
  have:=pT.1 cz
  clear tR fD pT B3 cc kS;refine J ?_;exact⟨AK,aL,(),⟨aL,trivial⟩,xB,this⟩
 | false =>
 cases b with
 | true =>
  have:=tR.1 true Xu (fun _=>kS.symm) ⟨fun h=>.inl h,fun _=>rfl⟩
  clear tR fD pT B3 cc kS;refine J ?_;exact⟨a1,aL,true,⟨aL,trivial⟩,this⟩
 | false =>
  replace kS:=i_ kS trivial;clear cc;refine J ?_;refine J_ (ahh _ _ m s k eO (dc.ext lk) aK (aO.ext lk) (ak.ext Flat.ext lk)) ?_;rintro _ gy ⟨⟨t2,rfl,hO⟩,e6⟩;have Og:=o.alU bH a1 hO
  have:=tR.1 t2 (Xu.trans e6) (fun _=>kS.1.symm) ⟨fun h=>.inr ⟨h1.1,Og.1 h⟩,fun h=>by rcases h with h | ⟨_,h⟩;cases h;exact Og.2 h⟩
  clear tR fD pT B3 kS hO Og;refine J ?_;exact⟨a1,aL,t2,⟨aL,trivial⟩,this⟩
end Go.Proofs.R
end
section
namespace ba
open Go Go.RowKit
theorem W1{α:Type}{p:α->Bool}:∀(l:C_ α) (n:Nat),(l4 p l n = -1/\l.filter (fun x => !p x)=l)\/∃k,∃h:k<l.length,l4 p l n=((n+k:Nat):Int)/\p l[k]=true/\(l.take (k+1)).filter (fun x => !p x)=l.take k
 | [],_=>.inl ⟨rfl,rfl⟩
 | x :: r,n=>by
  by_cases au:p x=true
  .exact .inr ⟨0,Bs,by simp[l4,au],by simpa using au,by simp[au]⟩
  .rcases W1 (p:=p) r (n+1) with ⟨h1,I⟩ | ⟨k,hk,h1,I,ab⟩
   .exact .inl ⟨by simp[l4,au,h1],by simp[au,I]⟩
   .exact .inr ⟨k+1,by simpa using hk,by simp only[l4,if_neg au,h1];congr 1;omega,by simpa using I,by simp[au,ab]⟩
theorem WY{α:Type}{q:α->Bool}{l:C_ α}{j:Nat}(h:j<l.length):(l.take (j+1)).filter q=(l.take j).filter q++if q l[j] then [l[j]] else []:=by
 rw[Ly h,AK3];congr 1;cases h:q l[j]<;>simp[h]
theorem RJ:∀(cs:C_ B_) (w:A_) (b ae i:Nat) (cur:Array B_) (e:F_),w.heap[b]? = some (.cells cur e)->ae+i+cs.length<=cur.size ->
  ∃l2,(iC w ⟨b,ae,none⟩ cs i).heap[b]? = some (.cells l2 e)/\l2.size=cur.size/\(∀j,j<ae+i\/ae+i+cs.length<=j->l2[j]? = cur[j]?)/\∀j (h:j<cs.length),l2[ae+i+j]? = some cs[j]
 | [],w,b,ae,i,cur,e,ao,_=>⟨cur,ao,rfl,fun _ _=>rfl,fun j h=>absurd h (K8 _)⟩
 | c :: cs,w,b,ae,i,cur,e,ao,aC=>by
  have aF:ae+i<cur.size:=by simp at aC;omega
  have h1:=Gz ao aF c;have kP:Addr.add ⟨b,0,none⟩ (ae+i)=Addr.add ⟨b,ae,none⟩ i:=by rw[add_eq,add_eq,AE8]
  rw[kP] at h1;obtain⟨l2,cE,cW,fz,iA⟩:=RJ cs _ b ae (i+1) _ e h1 (by simp at aC ⊢;omega);refine⟨l2,cE,by simpa using cW,fun j mE=>?_,fun j h=>?_⟩
  .rw[fz j (by simp at mE ⊢;omega),Array.getElem?_set_ne _ (by simp at mE;omega)]
  .cases j with
   | zero =>
    rw[AJ2,fz (ae+i) AK,Array.getElem?_set_self];rfl
   | succ j =>
    have:=iA j (by simpa using h)
    rw[show ae+i+(j+1)=ae+(i+1)+j from AK,this];rfl
end ba
namespace Go.Proofs.R
open Go Go.RowKit ba
theorem VS{w:A_}{b j:Nat}{c:Array B_}{t:F_}{v:B_}(h:w.heap[b]? = some (.cells c t))(aF:c[j]? = some v):w.cell? ⟨b,j,none⟩=some v:=by
 simp[World.cell?,h,aF]
structure iH(w:World)(b:Nat)(l:List (fj 3)):Prop where
 ex:∃cur,w.heap[b]? = some (.cells cur T.k)/\3*l.length<=cur.size/\∀i (h:i<l.length),∀j,j<3->cur[3*i+j]? = l[i].1[j]?
theorem iH.ext{w w':A_}{b:Nat}{l:C_ (fj 3)}(h:iH w b l)(he:Ext w w'):iH w' b l:=by
 obtain⟨cur,h1,I,ab⟩:=h.ex;exact⟨cur,he.obj h1,I,ab⟩
theorem iH.at_{w:A_}{b:Nat}{l:C_ (fj 3)}(h:iH w b l){i:Nat}(U:i<l.length):fi w ⟨b,3*i,none⟩ l[i].1:=by
 obtain⟨cur,h1,I,ab⟩:=h.ex;have e:(⟨b,3*i,none⟩:Addr)=Addr.add ⟨b,0,none⟩ (3*i):=by rw[add_eq,AE8]
 intro j v aF;have aC:j<3:=by
  have:=(List.getElem?_eq_some_iff.1 aF).1
  rw[l[i].2.1] at this;exact this
 have cE:=ab i U j aC;rw[aF] at cE;rw[e,add_eq,add_eq,AE8];exact VS h1 cE
theorem iH.take{w:A_}{b:Nat}{l:C_ (fj 3)}(h:iH w b l)(k:Nat):iH w b (l.take k):=by
 obtain⟨cur,h1,I,ab⟩:=h.ex;refine⟨cur,h1,by rw[K9];omega,fun i U j aF=>?_⟩;rw[K9] at U;rw[ab i AK j aF,AI7]
theorem iH.set{w:A_}{b i:Nat}{l:C_ (fj 3)}(h:iH w b l)(U:i<l.length)(x:fj 3):iH (iC w ⟨b,3*i,none⟩ x.1 0) b (l.set i x):=by
 obtain⟨cur,h1,I,ab⟩:=h.ex;have ag:=x.2.1;obtain⟨l2,cE,cW,fz,iA⟩:=RJ x.1 w b (3*i) 0 cur _ h1 AK;refine⟨l2,cE,by rw[AE9,cW];exact I,fun t aB j aF=>?_⟩;rw[AE9] at aB;by_cases e:i=t
 .subst e;rw[AK4]
  have:=iA j AK
  rw[AJ2] at this;rw[this,List.getElem?_eq_getElem AK]
 .rw[List.getElem_set_ne e,fz _ AK];exact ab t aB j aF
theorem iH.cut{w:A_}{b k:Nat}{l:C_ (fj 3)}{zs:C_ B_}(h:iH w b l)(bI:3*k+zs.length<=3*l.length):iH (iC w ⟨b,3*k,none⟩ zs 0) b (l.take k):=by
 obtain⟨cur,h1,I,ab⟩:=h.ex;obtain⟨l2,cE,cW,fz,_⟩:=RJ zs w b (3*k) 0 cur _ h1 AK;refine⟨l2,cE,by rw[K9,cW];omega,fun t aB j aF=>?_⟩;rw[K9] at aB;rw[AI7,fz _ AK];exact ab t AK j aF
theorem asc{P:D_}{ty:F_}{z:B_}(h:(P.info? ty).bind (·.zero)=some z)(w:A_):(zeroValue ty).run P w = .ok z w:=by
 cases U:P.info? ty with
 | none=>rw[U] at h;cases h
 | some i =>
  rw[U] at h;have I:i.zero=some z:=h;simp[zeroValue,ua U,I]
theorem iH.free{w:A_}{b:Nat}{l:C_ (fj 3)}(h:iH w b l){j:Nat}(aF:j<3*l.length):(∃hD,w.cell? ⟨b,j,none⟩=some hD)/\w.frozen? ⟨b,j,none⟩=false:=by
 obtain⟨cur,h1,I,_⟩:=h.ex;exact⟨⟨cur[j]' AK,VS h1 (Array.getElem?_eq_getElem AK)⟩,by simp[World.frozen?,h1]⟩
theorem AE0{w:A_}{b i:Nat}{l:C_ (fj 3)}{x:fj 3}{a:Addr}{KW:A_->Prop}{t}(h:iH w b l){v:B_}(aG:v = .agg x.1.toArray)(aV:a=⟨b,3*i,none⟩)(U:i<l.length)(hk:∀w1,dy b w w1->iH w1 b (l.set i x)->KW w1) :
  zf 3 (.pointer (some a)) v w KW t:=by
 subst aV aG;refine _5 (by simp[x.2.1]) (fun j aF=>?_) x.2.2 (hk _ (dy.iC _ w ⟨b,3*i,none⟩ 0) (h.set U x));rw[add_eq];exact h.free AK
theorem AE1{S:Fr}{w:A_}{b k n cap:Nat}{l:C_ (fj 3)}{x:G_}{aQ:H_ Addr}{cT:B_->A_->Prop}{ty:F_}{t}(h:iH w b l)(ag:aX S x = .slice aQ n cap)(az:k+n=l.length)(aV:0<n->aQ=some ⟨b,3*k,none⟩)
  (hk:∀v w1,Mod (fun i=>i=b) w w1->iH w1 b (l.take k)->cT v w1):sP Tryz.prog (.call ⟨.builtin .clear,#[x],#[T.pG]⟩) ty S w cT t:=by
 have bI:∀w:A_,(zeroValue T.k).run Tryz.prog w = .ok (.agg #[.I 0,.I 0,.slice none 0 0]) w:=asc Ct;have hu:Tryz.prog.underlying T.pG=some (.slice T.k):=Ct
 cases n with
 | zero =>
  refine _D (v:=.tuple #[]) (w':=w) ?_ (hk _ _ (Mod.refl _ _) (h.take k));cases aQ<;>simp[execOp,resolve,invoke,builtin,ag,Builtin.clear_,run_underlying hu]
 | succ n =>
  obtain rfl:=aV AK;refine _D (v:=.tuple #[]) (w':=iC w ⟨b,3*k,none⟩ (Builtin.zeroCells #[.I 0,.I 0,.slice none 0 0] (n+1)).toList 0) ?_ (hk _ _ ((dy.iC _ w ⟨b,3*k,none⟩ 0).mod rfl) (h.cut ?_))
  .have ak:=Gv Tryz.prog ⟨b,3*k,none⟩ (Builtin.zeroCells #[.I 0,.I 0,.slice none 0 0] (n+1)).toList 0 w (fun j aF=>?_) ?_
   .simp[execOp,resolve,invoke,builtin,ag,Builtin.clear_,run_underlying hu,bI,Value.cells,ak]
   .rw[add_eq];exact h.free (by simp[Builtin.zeroCells] at aF;omega)
   .intro c an;simp only[Builtin.zeroCells,Array.toList_map,List.mem_map] at an;obtain⟨i,_,rfl⟩:=an;show((#[Value.int .i64 0,.I 0,.slice none 0 0]:Array B_)[i % 3]!).oneCell'=true;rcases(by omega:i % 3=0\/i % 3=1\/i % 3=2) with e | e | e<;>rw[e]<;>rfl
  .simp[Builtin.zeroCells];omega
end Go.Proofs.R
end