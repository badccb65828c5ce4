/- Parts. -/
import Derived.Test.YtakmdjclehkglaaGreatDoorQasm
import Derived.Laws.Bits64b
import Derived.Lib.AppendZerosOnto
set_option linter.all false
set_option maxRecDepth 4000
set_option maxHeartbeats 6400000
section
namespace Go.Proofs.R
open Go Go.RowKit ba
def y8(w:A_)(cs:C_ B_)(l:C_ Int):Prop := ∃v,cs=[v]/\dw w v l
instance auy:Rel Ht y8 1 where
 out h:=by
  obtain⟨v,h1,I⟩:=h;exact⟨[v],fun j u aF=>by cases j with | zero=>simp at aF;subst aF;rw[add_zero];exact h1 | succ j=>simp at aF,v,rfl,I⟩
 oG h k:=by
  obtain⟨v,rfl,k⟩:=k
  have:=h 0 v rfl
  rw[add_zero] at this;exact⟨v,this,k⟩
 len h:=by obtain⟨v,rfl,_⟩:=h;rfl
 one h:=by obtain⟨v,rfl,h⟩:=h;simpa using h.one
 ext e h:=let ⟨v,h1,I⟩:=h; ⟨v,h1,I.ext Flat.ext e⟩
def adL(_:A_)(cs:C_ B_)(x:Int):Prop:=cs=cL x
instance auw:Rel (Flat cL) adL 1 where
 out h:=⟨_,h,rfl⟩
 oG h k:=by cases k;exact h
 len h:=by cases h;rfl
 one h:=by cases h;exact l3 _
 ext _ h:=h
theorem _root_.ba.Mod.own{A:Nat->Prop}{a b c:A_}{v:B_}(h:Mod A a b)(aK:b.grownBy c v.ownBlock)(aG:∀k,v.ownBlock=some k->a.heap.size<=k):Mod A a c :=
 h.comp (Mod.grown (A:=fun k=>v.ownBlock=some k) aK fun k hk=>hk) (fun _ _ a=>a) fun i U e=>by have:=aG i e;omega
structure Mm(w:World)(cs:List Value)(x:o.Env):Prop where
 ex:∃v0 v1 v2 v3,cs=[v0,v1,v2,v3,.int .i64 x.self]/\xI w v0 x.vars/\dw w v1 x.lens/\dw w v2 x.locals/\xI w v3 x.at_
end Go.Proofs.R
namespace o
open Go
theorem LF(m:Model)(s:C_ Int)(inst:Int):(cR m s inst).vars.length=m.vars.length:=by simp[cR]
theorem RR{m:Model}{s:C_ Int}{inst:Int}{k:Nat}(h:k<m.vars.length):(cR m s inst).vars[k]? = some ((s.drop (hn m k)).take (cells m.vars[k] m.scalars).toNat):=by
 have e:(c0 m)[k]!.length=(cells m.vars[k] m.scalars).toNat:=by
  have bo:k<(c0 m).length:=by simpa[c0] using h
  rw[getElem!_pos (c0 m) k bo];simp[c0,C0]
 simp only[cR,List.getElem?_map,List.getElem?_range h,Option.map_some,e]
theorem LD(m:Model)(s:C_ Int)(inst:Int):(cR m s inst).lens.length=m.aw.length:=by simp[cR]
theorem acF{m:Model}{s:C_ Int}{inst:Int}{k:Nat}(h:k<m.aw.length)(ak:cm m k<s.length):(cR m s inst).lens[k]? = some s[cm m k]:=by
 simp only[cR,List.getElem?_map,List.getElem?_range h,Option.map_some];rw[getElem!_pos s (cm m k) ak]
theorem aqU{m:Model}{s:C_ Int}{inst:Int}(h:inst<0):(cR m s inst).locals=[]/\(cR m s inst).self=0:=by
 simp only[cR,LC,gX (.inl h),and_self]
theorem GF{m:Model}(s:C_ Int){q n:Nat}(h:q<(insts m).length)(az:n=(me m (insts m)[q]).length - 1):(cR m s q).locals=(s.drop (dG m q+1)).take n/\(cR m s q).self=(insts m)[q].elem:=by
 simp only[cR,LC,iM (show(0:Int)<=q by omega) (show(q:Int)<(insts m).length by omega),Int.toNat_natCast,az,and_self]
theorem RQ(m:Model)(s:C_ Int)(inst:Int):(cR m s inst).at_.length=m.procs.length:=by simp[cR]
theorem acE{m:Model}{s:C_ Int}{inst:Int}{k:Nat}(h:k<m.procs.length):(cR m s inst).at_[k]? = some (kz m s k m.procs[k].cp (insts m).length):=by
 simp only[cR,List.getElem?_map,List.getElem?_range h,Option.map_some,List.getElem?_eq_getElem h,Option.getD_some]
end o
namespace Go.Proofs.R
open Go Go.RowKit ba
theorem ab3(cs ys:C_ B_)(v:B_)(m:o.Model)(s:C_ Int)(inst:Int)(w:A_)(h:o.eh w cs m)(aK:m.cK)(aW:o.eX m)(cY:o.kK w ys (o.layout m))(ak:dw w v s)(ay:o.Fits m s)(h1 : -1<=inst)(I:inst<(o.insts m).length) :
  DD F.FW #[.agg cs.toArray,.agg ys.toArray,v,.I inst] w fun u w'=>(∃es,u = .agg es.toArray/\ey w (fun w=>Mm w es (o.cR m s inst)) w')/\Ext w w':=by
 have dc:=h;have sf:=cY;have ala:=ak;obtain⟨b6,bx,bR,c1,bX,c2,bZ,bu,ca,bC,rfl,af,h1,I,ab,aH,e2,eE,eJ,er,eH⟩:=h.form;obtain⟨mj,d0,ka,d1,k3,d2,pq,d3,oQ,d4,rfl,en,dU,du,eW,fQ⟩:=cY.form;obtain⟨eF,fB,rfl,fm⟩:=ak.form;have hlen:=ay.len;have kA:o.dN m<=64:=o.jd aW;have gM:=aW.gM;have jX:(o.insts m).length<=30:=by have:=o.tH m;have:=aW.procs;omega
 refine br E.FW ?_;refine J ?_;intro w1 bw cM ai al;refine J ?_;intro aD bS dm aj av;replace al:=aj.obj al;refine J ?_;intro aN bW fe ah bl;replace al:=ah.obj al;replace av:=ah.obj av;have a7:=(ai.trans aj).trans ah;refine J ?_;refine J_ (Gs _ m aN (dc.ext a7) aK) ?_;rintro bL aU ⟨eV,ax⟩;obtain⟨cn,ci,rfl,_⟩:=eV.form;have fs:ku aU _ _:=aS.hE (enc:=o.cX.enc) (fun _=>rfl) eV;replace al:=ax.obj al;replace av:=ax.obj av;replace bl:=ax.obj bl;have bD:=a7.trans ax;refine J ?_;intro bt fv aiS aI dX;have oF:∀{W},Ext aU W->W.heap[bw]? = _:=fun e=>e.obj al;have gW:∀{W},Ext aU W->W.heap[bS]? = _:=fun e=>e.obj av;have Sq:=cA dX;have Em:∀{W},Mod (fun i=>i=fv) bt W->Ext aU W:=fun h=>h.ext aI fun i U e=>AK
 refine L_ 11 m.vars.length [2,3,4,5,8,9,10] (fun _:gA=>[]) (none,0,0) (fun k v W=>(Mod (fun i=>i=fv) bt W/\W.heap[fv]? = some (.cells #[.slice v.1 v.2.1 v.2.2,.slice none 0 0,.slice none 0 0,.slice none 0 0,.I 0] T.v))/\eP y8 T.b 1 bt.heap.size W (.slice v.1 v.2.1 v.2.2) (((o.cR m s inst).vars).take k)) bc bc ⟨⟨Mod.refl _ _,dX⟩,by simpa using eP.nil _ _ _ _ _⟩ ?_;clear dX;rintro k v S bz hk ⟨⟨jZ,dX⟩,dn⟩;have al:=oF (Em jZ);have av:=gW (Em jZ);have iE:=bD.trans (Em jZ);refine J ?_;apply I_<;>intro g1
 .have cI:k<m.vars.length:=AK
  obtain⟨a,rfl⟩:=h1.addr;have dY:=o.r7 m.vars[k] m.scalars;have nL:=o.rQ cI;have eU:=o.mZ m;obtain⟨eV,hP⟩:=o.xr cI;have ej:=((h1.at k cI).cells).ext iE;refine J ?_;refine P_ _ (fun w' e=>Rr m.vars[k] _ m.scalars w' (af.ext (iE.trans e))) ?_;refine J ?_;intro bK bq;replace al:=bq.obj al;replace av:=bq.obj av;replace dX:=bq.obj dX;have ec:=dn.ext bq;have gR:=iE.trans bq;have iv:Mod (fun i=>i=fv) bt bK:=jZ.trans bq.mod;have ko:=ak.ext Flat.ext gR;have Lo:=en.ext Flat.ext gR;obtain⟨a0,rfl⟩:=en.addr;clear ej;refine J ?_;intro c4 bG;replace al:=bG.obj al;replace av:=bG.obj av;replace dX:=bG.obj dX;have hB:=ec.ext bG;have iF:=gR.trans bG;have iZ:Mod (fun i=>i=fv) bt c4:=iv.trans bG.mod;have Cm:=ko.ext Flat.ext bG;have au9:=Lo.ext Flat.ext bG;clear ko Lo dn ec;refine J ?_;refine _Y (k:=.i64) (k':=.i64) (o.hn m k) (o.hn m k+(o.cells m.vars[k] m.scalars).toNat) Cm (by simp[de,bN,hP]) (by simp[de,bN,hP];omega) AK AK fun ae c au=>?_;refine J ?_;intro c6 ik l6 b5 dD;refine⟨b5,?_⟩;rw[show o.hn m k+(o.cells m.vars[k] m.scalars).toNat - o.hn m k=(o.cells m.vars[k] m.scalars).toNat from AK] at au ⊢;have wR:=o.RR (s:=s) (inst:=inst) cI;refine AD2 au (Ext.refl _) l6 b5 dD (fun h=>h) (by simp;omega) fun aQ eZ eO ru cr _=>?_;refine⟨cr,?_⟩;refine J ?_;intro gy o0 zP e6 iW;refine⟨cr.trans e6,?_⟩;have z58:=iZ.size;have avI:=cr.size;have Md:=e6.size;have oE:=hB.ext (cr.trans e6);have cg:(((o.cR m s inst).vars).take k).length<=12:=by rw[K9,o.LF];omega
  refine _I (x:=(s.drop (o.hn m k)).take (o.cells m.vars[k] m.scalars).toNat) (cs:=[.slice aQ ((s.drop (o.hn m k)).take (o.cells m.vars[k] m.scalars).toNat).length eZ]) oE (gT iW)
   (((ey.own ru hB AK).imp fun w h=>⟨_,rfl,h⟩).ext e6 fun i U hk=>by have:=hB.under AK i hk;omega) rfl (by simp[Value.oneCell']) AK (by unfold maxLen;omega) AK fun b0 ji aP ym=>?_
  have X7:=oE.box ym ((cr.trans e6).obj dX) BN;have rr:=((iZ.trans cr.mod).trans e6.mod).own ym fun q ar=>(oE.lt q ar).1;obtain⟨kY,pI,rfl,_⟩:=aP.form;clear dX ru oE hB iW dD au;refine J ?_;intro mR kq jK;refine J ?_;refine⟨cI,aL,(kY,_,pI),trivial,⟨rr.trans (kq.mod rfl),jK⟩,?_⟩;rw[AJ4,wR];exact aP.wr kq Sq
 have l8:m.vars.length=k:=AK
 rw[LJ (by rw[o.LF];omega)] at dn;have nb:=dn.new (R:=Ht);obtain⟨dH,nV,eZ⟩:=v;have A1:=cA dX;have A0:=jZ.size;have asi:=Em jZ;have ya:∀{W},Mod (fun i=>i=fv) bz W->Ext aU W:=fun h=>Em (jZ.trans h);clear al av dn;refine J ?_;refine L_ 13 m.aw.length [2,3,4,5,8,9,10] (fun _:gA=>[]) (none,0,0) (fun k v W=>(Mod (fun i=>i=fv) bz W/\W.heap[fv]? = some (.cells #[.slice dH nV eZ,.slice v.1 v.2.1 v.2.2,.slice none 0 0,.slice none 0 0,.I 0] T.v))/\aS cL T.a 1 bz.heap.size W (.slice v.1 v.2.1 v.2.2) (((o.cR m s inst).lens).take k)) bc bc ⟨⟨Mod.refl _ _,dX⟩,by simpa using aS.nil _ _ _ _ _⟩ ?_;clear dX;rintro k v S bK hk ⟨⟨iv,dX⟩,ec⟩;have al:=oF (ya iv);have av:=gW (ya iv);have gR:=bD.trans (ya iv);refine J ?_;apply I_<;>intro g1
 .have cI:k<m.aw.length:=AK
  have nL:=o.vR cI;have eU:=o.mZ m;obtain⟨eV,e0⟩:=o.s8 cI;obtain⟨db,rfl⟩:=dU.addr;obtain⟨aem,rfl⟩:=ak.addr;have ko:=ak.ext Flat.ext gR;have Lp:=dU.ext Flat.ext gR;refine J ?_;intro c4 bG;replace av:=bG.obj av;replace dX:=bG.obj dX;have hB:=ec.ext bG;have iZ:Mod (fun i=>i=fv) bz c4:=iv.trans bG.mod;have Cm:=ko.ext Flat.ext bG;have avc:=Lp.ext Flat.ext bG;clear ko Lp ec al;refine J ?_;refine K_ (o.cm m k) (by rw[e0]) AK ?_;refine J ?_;intro c6 ik l6 b5 dD;refine⟨b5,?_⟩;have fx:o.cm m k<s.length:=AK
  have wR:=o.acF (inst:=inst) cI fx;have aj9:(((o.cR m s inst).lens).take k).length<=12:=by rw[K9,o.LD];omega
  have gU:=hB.ext b5;have Sm:=iZ.size;have Me:=b5.size;refine U_ (y:=s[o.cm m k]) gU dD rfl (fun _=>rfl) l3 AK (by unfold maxLen;omega) AK fun aQ n c eO pW o7=>?_;have ajh:=gU.box o7 (b5.obj dX) BN;have sl:=(iZ.trans b5.mod).own o7 fun q ar=>(gU.lt q ar).1;clear dX gU hB dD;refine J ?_;intro gy iz iW;refine J ?_;refine⟨cI,aL,(aQ,n,c),trivial,⟨sl.trans (iz.mod rfl),iW⟩,?_⟩;rw[AJ4,wR];exact pW.mod (iz.mod (A:=fun i=>i=fv) rfl) fun q ar e=>by have:=(pW.lt q ar).1;omega
 have rp:m.aw.length=k:=AK
 rw[LJ (by rw[o.LD];omega)] at ec;have XR:hc (fun i=>i<bt.heap.size) (fun w=>xI w (.slice dH nV eZ) (o.cR m s inst).vars) bK:=nb.move iv (fun i _ e=>AK) fun i _ e=>e;have Ep:ey bz (fun w=>dw w (.slice v.1 v.2.1 v.2.2) (o.cR m s inst).lens) bK:=aS.new (fun _=>rfl) ec;clear nb;obtain⟨lV,mf,pK⟩:=v;have adr:=cA dX;have z67:=iv.size;have zJ:∀{W},Mod (fun i=>i=fv) bK W->Ext aU W:=fun h=>ya (iv.trans h);clear al av ec;refine J ?_;refine L_ 14 m.procs.length [2,3,4,5,8,9,10] (fun _:gA=>[]) (none,0,0) (fun k v W=>(Mod (fun i=>i=fv) bK W/\W.heap[fv]? = some (.cells #[.slice dH nV eZ,.slice lV mf pK,.slice none 0 0,.slice v.1 v.2.1 v.2.2,.I 0] T.v))/\eP y8 T.b 1 bK.heap.size W (.slice v.1 v.2.1 v.2.2) (((o.cR m s inst).at_).take k)) bc bc ⟨⟨Mod.refl _ _,dX⟩,by simpa using eP.nil _ _ _ _ _⟩ ?_;clear dX;rintro k v S c4 hk ⟨⟨iZ,dX⟩,hB⟩;have al:=oF (zJ iZ);have av:=gW (zJ iZ);have iF:=bD.trans (zJ iZ);refine J ?_;apply I_<;>intro g1
 .have cI:k<m.procs.length:=AK
  refine J ?_;intro c6 b5;replace al:=b5.obj al;replace av:=b5.obj av;replace dX:=b5.obj dX;have gU:=hB.ext b5;have gk:=iF.trans b5;have ng:Mod (fun i=>i=fv) bK c6:=iZ.trans b5.mod;clear hB;refine J ?_;refine J_ (apg _ _ _ m s k c6 (dc.ext gk) aK aW (sf.ext gk) (ala.ext Flat.ext gk) ay cI) ?_;rintro _ eO ⟨ru,cr⟩;obtain⟨aQ,eZ,rfl,_⟩:=ru.form;replace ru:ey c6 (fun w=>dw w (.slice aQ (o.kz m s k m.procs[k].cp (o.insts m).length).length eZ) (o.kz m s k m.procs[k].cp (o.insts m).length)) eO:=aS.new (enc:=cL) (sz:=1) (fun _=>rfl) ru;refine⟨cr,?_⟩;have wR:=o.acE (s:=s) (inst:=inst) cI;refine J ?_;intro gy o0 zP e6 iW;refine⟨cr.trans e6,?_⟩;have z79:=ng.size;have Sp:=cr.size;have Md:=e6.size;have oE:=gU.ext (cr.trans e6);have cg:(((o.cR m s inst).at_).take k).length<=12:=by rw[K9,o.RQ];have:=aW.procs;omega
  refine _I (x:=o.kz m s k m.procs[k].cp (o.insts m).length) (cs:=[.slice aQ (o.kz m s k m.procs[k].cp (o.insts m).length).length eZ]) oE (gT iW)
   (((ey.own ru gU AK).imp fun w h=>⟨_,rfl,h⟩).ext e6 fun i U hk=>by have:=gU.under AK i hk;omega) rfl (by simp[Value.oneCell']) AK (by unfold maxLen;omega) AK fun b0 ji aP ym=>?_
  have X7:=oE.box ym ((cr.trans e6).obj dX) BN;have rr:=((ng.trans cr.mod).trans e6.mod).own ym fun q ar=>(oE.lt q ar).1;obtain⟨kY,pI,rfl,_⟩:=aP.form;clear dX ru oE gU iW;refine J ?_;intro mR kq jK;refine J ?_;refine⟨cI,aL,(kY,_,pI),trivial,⟨rr.trans (kq.mod rfl),jK⟩,?_⟩;rw[AJ4,wR];exact aP.wr kq adr
 have uQ:m.procs.length=k:=AK
 rw[LJ (by rw[o.RQ];omega)] at hB;have Ot:hc (fun i=>i<bt.heap.size) (fun w=>xI w (.slice dH nV eZ) (o.cR m s inst).vars) c4:=XR.move iZ (fun i _ e=>AK) fun i _ e=>e;have XK:ey bz (fun w=>dw w (.slice lV mf pK) (o.cR m s inst).lens) c4:=Ep.move iZ (fun i _ e=>AK) fun i _ e=>e;have wj:=hB.new (R:=Ht);clear XR Ep;obtain⟨L0,QO,ta⟩:=v;have Sn:=cA dX;have z78:=iZ.size;have wk:∀{W},Mod (fun i=>i=fv) c4 W->Ext aU W:=fun h=>zJ (iZ.trans h);clear hB;have iF:=bD.trans (wk (Mod.refl _ _));have z3:=cA bl;have z45:=aI.size;have avz:=(ai.trans aj).size;replace bl:=(wk (Mod.refl _ _)).obj bl;refine J ?_;apply I_<;>intro g2;rotate_left
 .refine J ?_;intro c6 hQ dD;refine J ?_;obtain⟨ei,bB⟩:=o.aqU (m:=m) (s:=s) (inst:=inst) AK;refine⟨⟨_,rfl,fun W eD=>⟨_,_,_,_,by rw[bB],?_,?_,?_,?_⟩⟩,hQ.ext iF AK⟩
  .exact(Ot.move (A':=fun i=>i<w.heap.size) (hQ.mod (A:=fun i=>i=bW) rfl) (fun i _ e=>AK) fun i _ e=>AK) W eD
  .exact(XK.move (A':=fun i=>i<w.heap.size) (hQ.mod (A:=fun i=>i=bW) rfl) (fun i _ e=>AK) fun i _ e=>AK) W eD
  .rw[ei];exact bn.nil
  .exact(wj.move (A':=fun i=>i<w.heap.size) (hQ.mod (A:=fun i=>i=bW) rfl) (fun i _ e=>AK) fun i _ e=>AK) W eD
 .obtain⟨q,rfl⟩:=QA (show 0<=inst by omega);have ar:q<(o.insts m).length:=AK
  have nL:=o.Qi ar;obtain⟨eV,hP⟩:=o.rB ar;obtain⟨a2,rfl⟩:=du.addr;have ao5:=du.ext Flat.ext iF;have al:=oF (wk (Mod.refl _ _));have av:=gW (wk (Mod.refl _ _));obtain⟨ij,rfl⟩:=fs.addr;have Ce:=fs.ext Flat.ext (wk (Mod.refl _ _));have nj:=o.rC _ (GR ar);obtain⟨p,au,h7,qo⟩:=o.Am nj;have Je:(o.me m (o.insts m)[q]).length=1+m.procs[p].vars.length:=by rw[qo,o.AG]
  obtain⟨a,rfl⟩:=ab.addr;obtain⟨mc,b2,dV,dP,e7,fy⟩:=ab.at p au;obtain⟨aa1,We,rfl,aaC⟩:=e7.form;obtain⟨aaW,VR,rfl,aap⟩:=fy.form;replace dP:=dP.ext iF;unfold o.dJ.enc at dP;refine J ?_;refine K_ p h7 au ?_;refine J ?_;intro L3 rl c6 ajF;have b5:=rl.trans ajF;replace al:=b5.obj al;replace av:=b5.obj av;replace dX:=b5.obj dX;replace bl:=b5.obj bl;have gk:=iF.trans b5;have ak9:=ak.ext Flat.ext gk;have Me:=b5.size;clear dP Ce ao5;refine J ?_;refine _Y (k:=.i64) (k':=.i64) (o.dG m q+1) (o.dG m q+1+m.procs[p].vars.length) ak9 (by simp[de,bN,hP]) (by simp[de,bN,hP]) AK AK fun ae c Fg=>?_;rw[show o.dG m q+1+m.procs[p].vars.length - (o.dG m q+1)=m.procs[p].vars.length from AK] at Fg ⊢;obtain⟨cq,aC,lK,bF⟩:=Fg.cells;have dY:cq.length<=64:=by rw[aC,K9,AF7];omega
  refine J ?_;refine AA4 (sz:=1) (base:=c6.heap.size) (aS.nil _ _ _ _ _) lK (by rw[AI1];omega) (by rw[AI1];unfold maxLen;omega) (GA _) fun b0 eO pW o7=>?_;rw[AF8] at pW;have ru:ey c6 (fun w=>dw w b0 ((s.drop (o.dG m q+1)).take m.procs[p].vars.length)) eO:=ey.clone (R:=Flat cL) aC pW (fun h=>h) fun i h1 I=>bF i h1 I;have cr:Ext c6 eO:=(Ext.refl _).grown o7 fun k hk=>by simp[Value.ownBlock] at hk
  replace av:=cr.obj av;replace dX:=cr.obj dX;replace bl:=cr.obj bl;have Sp:=cr.size;obtain⟨ol,cl,rfl,_⟩:=ru.here.form;clear al;refine J ?_;intro gy iz iW;have Ch:Mod (fun i=>i=fv) c4 gy:=(b5.mod.trans cr.mod).trans (iz.mod rfl);have atJ:=fs.ext Flat.ext (wk Ch);replace bl:=iz.obj bl AK;refine J ?_;intro ji lP iX;have rr:Mod (fun i=>i=fv) c4 ji:=Ch.trans (lP.mod rfl);replace bl:=lP.obj bl AK;refine J ?_;intro mR kq jK;refine J ?_;obtain⟨ei,bB⟩:=o.GF s ar (n:=m.procs[p].vars.length) AK;have Md:=iz.size;have adq:=lP.size;refine⟨⟨_,rfl,fun W eD=>⟨_,_,_,_,by rw[bB];rfl,?_,?_,?_,?_⟩⟩,kq.ext (bD.trans (wk rr)) AK⟩
  .exact(Ot.move (A':=fun i=>i<w.heap.size) (rr.comp (B:=fun i=>i=fv\/i=bW) (kq.mod (A:=fun i=>i=bW) rfl) (fun i _ e=>.inl e) fun i _ e=>.inr e) (fun i _ e=>AK) fun i _ e=>AK) W eD
  .exact(XK.move (A':=fun i=>i<w.heap.size) (rr.comp (B:=fun i=>i=fv\/i=bW) (kq.mod (A:=fun i=>i=bW) rfl) (fun i _ e=>.inl e) fun i _ e=>.inr e) (fun i _ e=>AK) fun i _ e=>AK) W eD
  .rw[ei];exact((((ru.wr iz AK).wr lP AK).wr kq AK).mono fun i _ e=>AK) W eD
  .exact(wj.move (A':=fun i=>i<w.heap.size) (rr.comp (B:=fun i=>i=fv\/i=bW) (kq.mod (A:=fun i=>i=bW) rfl) (fun i _ e=>.inl e) fun i _ e=>.inr e) (fun i _ e=>AK) fun i _ e=>AK) W eD
end Go.Proofs.R
end
section
namespace o
open Go
theorem acv{s t:C_ Int}{a n:Nat}(h:∀k,k<n->s[a+k]? = t[a+k]?):(s.drop a).take n=(t.drop a).take n:=by
 apply List.ext_getElem?;intro i;rw[List.getElem?_take,List.getElem?_take];split
 .rw[List.getElem?_drop,List.getElem?_drop];exact h i ‹_›
 .rfl
def Gj(m:Model)(e:C_ Node):C_ Int:=e.flatMap (hW m 0 false)
def ju(l:C_ Int):Bool:=match l with
 | []=>false
 | n :: r=>decide (0<=n/\n<=r.length)&&(r.drop n.toNat).all (fun x=>decide (x=0))
def jv(l:C_ Int):C_ Int:=if ju l then (l.drop 1).take (l.headD 0).toNat else []
def rH(k:Nat)(l:C_ Int):C_ Int:=(l.length:Int) :: (List.range (k - 1)).map fun i=>l.getD i 0
def nr(l:C_ Int)(v:Int):H_ (C_ Int):=if ju l=true/\l.headD 0≠(l.length:Int) - 1 then some (rH l.length (jv l++[v])) else none
def p6(l:C_ Int):H_ (C_ Int×Int):=match jv l with
 | []=>none
 | x :: r=>some (rH l.length r,x)
theorem Q2{k:Nat}(h:1<=k)(l:C_ Int):(rH k l).length=k:=by simp[rH];omega
theorem ZV{l:C_ Int}(h:ju l=true):1<=l.length:=by
 cases l with
 | nil=>cases h
 | cons n r=>simp
theorem Ll{l r:C_ Int}{v:Int}(h:nr l v=some r):r.length=l.length:=by
 unfold nr at h;split at h
 .rename_i h1;injection h with h
  rw[<-h,Q2 (ZV h1.1)]
 .cases h
theorem LN{l r:C_ Int}{v:Int}(h:p6 l=some (r,v)):r.length=l.length:=by
 unfold p6 at h;split at h
 .cases h
 .rename_i x q ar;injection h with h
  injection h with h1 I
  have:ju l=true:=Classical.byContradiction fun az=>by
   unfold jv at ar;rw[if_neg az] at ar;cases ar
  rw[<-h1,Q2 (ZV this)]
def chanOf(m:Model)(s:C_ Int)(c:Nat):C_ Int:=(s.drop (cm m c)).take (1+gE m c)
def hR(s:C_ Int)(a:Nat)(l:C_ Int):C_ Int:=s.take a++l++s.drop (a+l.length)
def DN(m:Model)(c:Nat):Int×Int:=match (b1 m)[c]? with
 | some x=>(x.aR,x.U)
 | none=>(0,-1)
def putAt(m:Model)(s:C_ Int)(c:Nat)(n:Int):H_ (C_ Int):=if n<(DN m c).1\/(DN m c).2<n then none else some (s.set c n)
def vS(m:Model)(c:Nat):ed:=match m.aw[c]? with
 | some x=>eY x.scalar x.aR x.U m.scalars
 | none=>eY 0 0 0 m.scalars
def vi(m:Model)(s:C_ Int)(c:Nat)(n:Int):H_ (C_ Int) :=
 if n<(vS m c).aR\/(vS m c).U<n then none else (nr (chanOf m s c) n).map (hR s (cm m c))
def yM(m:Model)(s:C_ Int)(q:Nat)(a:Act):H_ (C_ Int):=match p6 (chanOf m s a.to.toNat) with
 | none=>none
 | some (rest,n)=>putAt m (hR s (cm m a.to.toNat) rest) (dG m q+1+a.loc.toNat) n
def wV(m:Model)(s:C_ Int)(a:Act)(k:Int×Int)(n:Int):H_ (C_ Int) :=
 if k.2≠0\/k.1<1\/(ph m a.to.toNat:Int)<k.1 then none else putAt m s (hn m a.to.toNat+k.1.toNat - 1) n
def h4(m:Model)(s:C_ Int)(q:Nat)(a:Act):H_ (C_ Int) :=
 if a.kind=5 then yM m s q a
 else if (eval a.value (cR m s q)).2≠0 then none
 else if a.kind=1 then putAt m s (hn m a.to.toNat) (eval a.value (cR m s q)).1
 else if a.kind=2 then wV m s a (eval a.index (cR m s q)) (eval a.value (cR m s q)).1
 else if a.kind=3 then putAt m s (dG m q+1+a.to.toNat) (eval a.value (cR m s q)).1
 else vi m s a.to.toNat (eval a.value (cR m s q)).1
def k8(m:Model)(q:Nat):C_ Act->C_ Int->H_ (C_ Int)
 | [],s=>some s
 | a :: r,s=>match h4 m s q a with
  | none=>none
  | some t=>k8 m q r t
def hF(m:Model)(s:C_ Int)(q:Nat)(c:ea):H_ (C_ Int) :=
 if s[dG m q]? ≠ some c.from_ then none
 else if 0<c.guard.length/\((eval c.guard (cR m s q)).2≠0\/(eval c.guard (cR m s q)).1=0) then none
 else (k8 m q c.bQ s).map fun t=>t.set (dG m q) c.to
theorem Vh(m:Model)(q:Nat)(a:Act):∀(l:C_ Act) (s:C_ Int),k8 m q (l++[a]) s=match k8 m q l s with | none=>none | some t=>h4 m t q a
 | [],s=>by
  simp only[List.nil_append,k8];cases h4 m s q a<;>rfl
 | x :: l,s=>by
  simp only[List.cons_append,k8];cases h4 m s q x with
  | none=>rfl
  | some t=>exact Vh m q a l t
theorem FA{s:C_ Int}{a:Nat}{l:C_ Int}(h:a+l.length<=s.length):(hR s a l).length=s.length:=by
 simp[hR];omega
theorem An{s:C_ Int}{a:Nat}{l:C_ Int}(h:a+l.length<=s.length)(x:Nat):(hR s a l)[x]? = if a<=x/\x<a+l.length then l[x - a]? else s[x]? := by
 unfold hR;have aB:(s.take a).length=a:=by simp;omega
 by_cases h1:x<a
 .rw[if_neg AK,List.getElem?_append_left (by rw[Ln];omega),List.getElem?_append_left AK,List.getElem?_take,if_pos h1]
 .by_cases I:x<a+l.length
  .rw[if_pos ⟨AK,I⟩,List.getElem?_append_left (by rw[Ln];omega),List.getElem?_append_right AK,aB]
  .rw[if_neg AK,List.getElem?_append_right (by rw[Ln];omega),List.getElem?_drop,Ln,aB];congr 1;omega
theorem uz{m:Model}{s:C_ Int}{c:Nat}(h:cm m c+(1+gE m c)<=s.length):(chanOf m s c).length=1+gE m c:=by
 simp[chanOf];omega
theorem Gk{m:Model}{s t:C_ Int}{c:Nat}{n:Int}(h:putAt m s c n=some t):t=s.set c n:=by
 unfold putAt at h;split at h
 .cases h
 .injection h with h
  exact h.symm
def e9(s t:C_ Int)(l:C_ Int):Prop:=t.length=s.length/\∀c:Nat,t[c]? ≠ s[c]? -> (c:Int)∈l
theorem e9.refl(s l:C_ Int):e9 s s l:=⟨rfl,fun _ h=>absurd rfl h⟩
theorem e9.trans{s t u l:C_ Int}(h:e9 s t l)(k:e9 t u l):e9 s u l:=⟨k.1.trans h.1,fun c an=>by
 by_cases e:u[c]? = t[c]?
 .exact h.2 c (by rw[<-e];exact an)
 .exact k.2 c e⟩
theorem e9.mono{s t l r:C_ Int}(h:e9 s t l)(ak:∀x∈l,x∈r):e9 s t r:=⟨h.1,fun c an=>ak _ (h.2 c an)⟩
theorem e9.set(s:C_ Int)(a:Nat)(n:Int):e9 s (s.set a n) (gQ a 1):=⟨AE9 ..,fun c an=>by
 rw[Gu,AG0];apply Classical.byContradiction;intro az;exact an (List.getElem?_set_ne AK)⟩
theorem e9.ZP{s l:C_ Int}{a:Nat}(h:a+l.length<=s.length):e9 s (hR s a l) (gQ a l.length):=⟨FA h,fun c an=>by
 rw[An h] at an;apply Classical.byContradiction;intro az;rw[tZ] at az;exact an (if_neg AK)⟩
theorem aqu{m:Model}{s t:C_ Int}{c:Nat}{n:Int}(an:cm m c+(1+gE m c)<=s.length)(h:vi m s c n=some t):e9 s t (xV m c):=by
 unfold vi at h;split at h
 .cases h
 .cases au:nr (chanOf m s c) n with
  | none=>rw[au] at h;cases h
  | some r =>
   rw[au] at h;have aC:=Ll au;rw[uz an] at aC;have e:hR s (cm m c) r=t:=by injection h
   rw[<-e];unfold xV;rw[<-aC];exact e9.ZP AK
theorem apr{m:Model}{s t:C_ Int}{q:Nat}{a:Act}(an:cm m a.to.toNat+(1+gE m a.to.toNat)<=s.length)(h:yM m s q a=some t):e9 s t (xV m a.to.toNat++gQ (dG m q+1+a.loc.toNat) 1):=by
 unfold yM at h;cases au:p6 (chanOf m s a.to.toNat) with
 | none=>rw[au] at h;cases h
 | some Ry =>
  obtain⟨r,n⟩:=Ry;rw[au] at h;have aC:=LN au;rw[uz an] at aC;have e:=Gk h;rw[e];refine e9.trans (t:=hR s (cm m a.to.toNat) r) ?_ ((e9.set _ _ _).mono fun x ag=>AI4 _ ag)
  have:=e9.ZP (s:=s) (a:=cm m a.to.toNat) (l:=r) AK
  rw[aC] at this;exact this.mono fun x ag=>AH9 _ ag
theorem aqt{m:Model}{s:C_ Int}{q:Nat}{a:Act}(h:sE a=true):eval a.index (cR m s q)=((cR m s q).self,0):=by
 unfold sE at h;split at h
 .rename_i x ag;rw[ag];have a8:x.op=5:=by simpa using h
  have az:fI x.op=0:=by rw[a8];decide
  have ay:jn (cR m s q) x []=((cR m s q).self,0):=by
   unfold jn;rw[a8];simp[hj,ha,a8]
  unfold eval mN gi;simp only[List.length_singleton,stepG,az,ay];simp[gi]
 .cases h
theorem ad2{m:Model}{s t:C_ Int}{q:Nat}{a:Act}(ar:q<(insts m).length)(an:(a.kind=4\/a.kind=5)->cm m a.to.toNat+(1+gE m a.to.toNat)<=s.length)(hk:1<=a.kind/\a.kind<=5)(h:h4 m s q a=some t):e9 s t (oj m q a):=by
 unfold h4 at h;unfold oj;by_cases a8:a.kind=5
 .rw[if_pos a8] at h;rw[if_neg AK,if_neg AK,if_neg AK,if_neg AK,if_pos a8];exact apr (an (.inr a8)) h
 rw[if_neg a8] at h;by_cases he:(eval a.value (cR m s q)).2≠0
 .rw[if_pos he] at h;cases h
 rw[if_neg he] at h;by_cases h1:a.kind=1
 .rw[if_pos h1] at h ⊢;rw[Gk h];exact e9.set _ _ _
 rw[if_neg h1] at h ⊢;by_cases I:a.kind=2
 .rw[if_pos I] at h ⊢;unfold wV at h;split at h
  .cases h
  .rename_i az;rw[Gk h];refine(e9.set _ _ _).mono fun x ag=>?_;rw[Gu,AG0] at ag;subst ag;unfold rD;by_cases ak:sE a=true
   .rw[if_pos ak,Gu,AG0,Ih ar];have Ai:(cR m s q).self=(insts m)[q].elem:=(GF s ar rfl).2
    have:=aqt (m:=m) (s:=s) (q:=q) (a:=a) ak
    rw[this];simp only[Ai]
   .rw[if_neg ak,tZ];omega
 rw[if_neg I] at h ⊢;by_cases ab:a.kind=3
 .rw[if_pos ab] at h ⊢;rw[Gk h];exact e9.set _ _ _
 rw[if_neg ab] at h ⊢;rw[if_pos AK];exact aqu (an AK) h
theorem nA{m:Model}{c:Nat}(h:c<m.aw.length):cm m c+(1+gE m c)<=dN m:=by
 have:=vR h
 rw[pJ h]
 have:=mZ m
 omega
theorem Vm{m:Model}{kZ:Scope}{q:Nat}(ar:q<(insts m).length)(wx:kZ.aw=m.aw):∀(l:C_ Act) (s t:C_ Int),(∀a∈l,n0 kZ a)->s.length=dN m->k8 m q l s=some t->e9 s t (l.flatMap (oj m q))
 | [],s,t,_,_,h=>by
  injection h with h
  rw[<-h];exact e9.refl _ _
 | a :: l,s,t,aV,ak,h=>by
  simp only[k8] at h;cases h1:h4 m s q a with
  | none=>rw[h1] at h;cases h
  | some u =>
   rw[h1] at h;have I:=ad2 ar (fun hk=>by rw[ak];exact nA (by have:=((aV a (AG6 ..)).chan hk).2;rwa[wx] at this)) (aV a (AG6 ..)).kind h1;have ab:=Vm ar wx l u t (fun b ao=>aV b (AI2 _ ao)) (I.1.trans ak) h;rw[AI0];exact(I.mono fun x ag=>AH9 _ ag).trans (ab.mono fun x ag=>AI4 _ ag)
theorem HG{kZ:Scope}{c:ea}(h:xz kZ c):∀a∈c.bQ,n0 kZ a:=fun a aV=>by
 obtain⟨k,hk,rfl⟩:=List.mem_iff_getElem.1 aV;exact h.act k hk
theorem afK{m:Model}{kZ:Scope}{q:Nat}{c:ea}{s t:C_ Int}(ar:q<(insts m).length)(wx:kZ.aw=m.aw)(an:xz kZ c)(ak:s.length=dN m)(h:hF m s q c=some t):e9 s t (oP m q c c.bQ.length):=by
 unfold hF at h;split at h
 .cases h
 split at h
 .cases h
 cases h1:k8 m q c.bQ s with
 | none=>rw[h1] at h;cases h
 | some u =>
  rw[h1] at h;have e:u.set (dG m q) c.to=t:=by injection h
  rw[<-e];unfold oP;rw[AF3];exact((Vm ar wx _ s u (HG an) ak h1).mono fun x ag=>AI4 _ ag).trans ((e9.set _ _ _).mono fun x ag=>AH9 _ ag)
theorem aam{s w:Int}:∀{l:C_ ed} {k:Nat} {x:Cell},x∈fH s w l k->∃b∈l,x.aR=b.aR/\x.U=b.U
 | [],_,_,h=>by cases h
 | b :: l,k,x,h=>by
  rcases List.mem_cons.1 h with rfl | h
  .exact⟨b,Bs,rfl,rfl⟩
  .obtain⟨gS,h1,I⟩:=aam h;exact⟨gS,by simp[h1],I⟩
theorem HQ{s:Int}:∀{ls:C_ (C_ ed)} {i:Nat} {x:Cell},x∈cellsOf s ls i->∃l∈ls,∃b∈l,x.aR=b.aR/\x.U=b.U
 | [],_,_,h=>by cases h
 | l :: r,i,x,h=>by
  rcases List.mem_append.1 h with h | h
  .obtain⟨b,h1,I⟩:=aam h;exact⟨l,Bs,b,h1,I⟩
  .obtain⟨w2,h1,I⟩:=HQ h;exact⟨w2,by simp[h1],I⟩
def vt(aR U:Int):Prop := -1048576<=aR/\aR<=U/\U<=1048576
theorem MV{kZ aR U:Int}{s:C_ Scalar}(h:kZ=0->vt aR U):vt (eY kZ aR U s).aR (eY kZ aR U s).U:=by
 unfold eY;by_cases af:kZ=0
 .rw[if_pos af];exact h af
 .rw[if_neg af]
  have:=size_le kZ s
  unfold vt;simp only;omega
theorem aaI{aR U:Int}(h:narrow aR U=true):vt aR U:=by have:=aaH h;unfold vt;omega
theorem ae9{m:Model}(h:eX m):∀x∈b1 m,vt x.aR x.U:=fun x ag=>by
 unfold b1 at ag;rcases List.mem_append.1 ag with ag | ag
 .rcases List.mem_append.1 ag with ag | ag
  .obtain⟨l,aC,b,ao,bB,aJ⟩:=HQ ag;obtain⟨v,aG,rfl⟩:=List.mem_map.1 aC;rw[(List.mem_replicate.1 ao).2] at bB aJ;rw[bB,aJ];exact MV fun af=>aaI ((h.var v aG).Lb af)
  .obtain⟨l,aC,b,ao,bB,aJ⟩:=HQ ag;obtain⟨c,an,rfl⟩:=List.mem_map.1 aC;rw[bB,aJ];have dh:=h.chan c an;have iu:=dh.cap;rcases List.mem_cons.1 ao with rfl | ao
   .unfold vt;simp only;omega
   .rw[(List.mem_replicate.1 ao).2];exact MV fun af=>by
     have:=aaH (dh.Lb af)
     unfold vt;omega
 .obtain⟨l,aC,b,ao,bB,aJ⟩:=HQ ag;obtain⟨AX,uW,rfl⟩:=List.mem_map.1 aC;rw[bB,aJ];unfold me at ao;split at ao
  .rename_i p au;have hm:p∈m.procs:=by
    unfold nth at au;split at au
    .exact List.mem_of_getElem? au
    .cases au
   have dh:=h.proc p hm;rcases List.mem_cons.1 ao with rfl | ao
   .have:=dh.cp;unfold vt;simp only;omega
   .obtain⟨v,aG,rfl⟩:=List.mem_map.1 ao;exact MV fun af=>aaI ((dh.var v aG).Lb af)
  .cases ao
end o
end
section
namespace ba
open Go Go.RowKit
def uE(d:Nat):C_ B_:=[.int .u8 d]
theorem agr(d:Nat):∀u∈uE d,u.oneCell'=true:=by simp[uE,Value.oneCell']
def M0(l:C_ Nat):C_ B_:=l.map fun(d:Nat)=>Value.int .u8 (d:Int)
theorem M1:∀l:C_ Nat,M0 l=l.flatMap uE
 | []=>rfl
 | x :: r=>by
  have:=M1 r
  simp only[M0,List.map_cons,List.flatMap_cons] at this ⊢;rw[this];rfl
theorem ahy(l:C_ Nat)(k x:Nat):(l.flatMap uE).set k (.int .u8 x)=(l.set k x).flatMap uE:=by
 rw[<-M1,<-M1];simp[M0,List.map_set]
theorem AE7{e:F_}{base:Nat}{w:A_}{l:C_ Nat}{a:Addr}{n c k x:Nat}{KW:A_->Prop}{t}(h:aS uE e 1 base w (.slice (some a) n c) l)(hk:k<l.length)
  (c3:∀w1,dy a.block w w1->aS uE e 1 base w1 (.slice (some a) n c) (l.set k x)->KW w1):qZ (.pointer (some (a.add (k*1)))) (.int .u8 (x:Nat)) w KW t:=by
 rcases h.2 with ⟨az,af⟩ | ⟨g,cap,cur,h1,I,ab,aH,a8,bE,cj⟩
 .cases az
 .injection h1 with bB aJ a7
  injection bB with bB
  subst bB a7;have cg:k<cur.size:=AK
  have kP:Addr.add ⟨g,0,none⟩ (k*1)=⟨g,k,none⟩:=by rw[add_eq,AG5,AE8]
  have an:w.cell? (Addr.add ⟨g,0,none⟩ (k*1))=some cur[k]:=fW ab (by rw[AG5];exact Array.getElem?_eq_getElem cg);rw[kP] at an ⊢;have bo:w.ownsRow base e 1 (.slice (some ⟨g,0,none⟩) l.length c) l.length (l.flatMap uE):=by unfold aS at h;rw[aJ] at h;exact h
  have ak:=World.ownsRow.stored bo k (.int .u8 (x:Nat));rw[ahy] at ak;refine _1 an (by simp[World.frozen?,ab]) (by simp[Value.oneCell']) (c3 _ (dy.setCell w ⟨g,k,none⟩ _) ?_);unfold aS;rw[AE9,aJ];exact ak.1
theorem _q{α:Type}{P:D_}{cT:B_->A_->Prop}{enc:α->C_ B_}{e:F_}{sz base:Nat}{w:A_}{s x:B_}{xs ys:C_ α}{R:A_->Addr->α->Prop}[oV R enc]{ty:F_}{b:Nat}{t}(ak:aS enc e sz base w s xs)(ag:bn sz R w x ys)(dr:∀x,(enc x).length=sz)(h1:∀y,∀u∈enc y,u.oneCell'=true)
  (ao:(xs.length+ys.length)*b<=140737488355328)(lp:xs.length+ys.length<=maxLen)(kC:base<=w.heap.size)(hk:∀b0 w',aS enc e sz base w' b0 (xs++ys)->w.grownBy w' s.ownBlock->cT b0 w'):ml P ty e sz b s x w cT t:=by
 obtain⟨aQ,cap,rfl,re,I,ab,aH⟩:=ag.ex;cases aQ with
 | some a=>exact AB2 ak ⟨some a,cap,rfl,re,I,ab,aH⟩ dr h1 ao lp kC hk
 | none =>
  have:ys=[]:=Classical.byContradiction fun az=>by have:=ab az;cases this
  subst this;rw[AF1] at hk;refine _n fun⟨aB,i,z,U,bI,Cn,B0,Al,JR⟩=>?_;refine⟨ty,s,w,?_,hk s w ak ⟨rfl,rfl,rfl,GA _,fun _ _ _=>rfl⟩⟩;rcases ak.2 with ⟨rfl,af⟩ | ⟨g,cap,cur,rfl,_,_,Fa,_⟩
  .simp[Builtin.append_,run_underlying aB,Go.sizeOf,typeInfo,U,Builtin.lenOf,Builtin.firstCells]
  .simp[Builtin.append_,run_underlying aB,Go.sizeOf,typeInfo,U,Builtin.lenOf,Builtin.firstCells,Fa,storeCells]
theorem NX:∀(l:C_ Int) (k:Nat) (x:Int),(l.flatMap cL).set k (.I x)=(l.set k x).flatMap cL
 | [],_,_=>rfl
 | y :: l,0,x=>rfl
 | y :: l,k+1,x=>by
  have:=NX l k x
  simp only[List.flatMap_cons,List.set_cons_succ];rw[<-this];rfl
theorem _z{e:F_}{base:Nat}{w:A_}{l:C_ Int}{a:Addr}{n c k:Nat}{x:Int}{KW:A_->Prop}{t}(h:aS cL e 1 base w (.slice (some a) n c) l)(hk:k<l.length)
  (c3:∀w1,dy a.block w w1->aS cL e 1 base w1 (.slice (some a) n c) (l.set k x)->KW w1):qZ (.pointer (some (a.add (k*1)))) (.I x) w KW t:=by
 rcases h.2 with ⟨az,af⟩ | ⟨g,cap,cur,h1,I,ab,aH,a8,bE,cj⟩
 .cases az
 .injection h1 with bB aJ a7
  injection bB with bB
  subst bB a7;have cg:k<cur.size:=AK
  have kP:Addr.add ⟨g,0,none⟩ (k*1)=⟨g,k,none⟩:=by rw[add_eq,AG5,AE8]
  have an:w.cell? (Addr.add ⟨g,0,none⟩ (k*1))=some cur[k]:=fW ab (by rw[AG5];exact Array.getElem?_eq_getElem cg);rw[kP] at an ⊢;have bo:w.ownsRow base e 1 (.slice (some ⟨g,0,none⟩) l.length c) l.length (l.flatMap cL):=by unfold aS at h;rw[aJ] at h;exact h
  have ak:=World.ownsRow.stored bo k (.I x);rw[NX] at ak;refine _1 an (by simp[World.frozen?,ab]) (by simp[Value.oneCell']) (c3 _ (dy.setCell w ⟨g,k,none⟩ _) ?_);unfold aS;rw[AE9,aJ];exact ak.1
end ba
namespace o
open Go
theorem yy{l:C_ Int}:ju l=true↔∃h:0<l.length,0<=l[0]/\l[0]<=(l.length:Int) - 1/\∀k (hk:k<l.length),l[0]+1<=k->l[k]=0:=by
 cases l with
 | nil=>simp[ju]
 | cons n r =>
  simp only[ju,Bool.and_eq_true,decide_eq_true_eq,List.all_eq_true];constructor
  .rintro⟨⟨af,h1⟩,I⟩;refine⟨Bs,af,by simp;omega,fun k hk aC=>?_⟩;cases k with
   | zero=>simp at aC;omega
   | succ k =>
    simp only[List.getElem_cons_zero,List.getElem_cons_succ] at aC ⊢;refine I _ (List.mem_iff_getElem.2 ⟨k - n.toNat,by simp at hk ⊢;omega,?_⟩);rw[AJ7];congr 1;omega
  .rintro⟨_,af,h1,I⟩;simp only[List.getElem_cons_zero,List.length_cons] at af h1 I;refine⟨⟨af,AK⟩,fun x ag=>?_⟩;obtain⟨k,hk,rfl⟩:=List.mem_iff_getElem.1 ag;rw[AJ7]
   have:=I (n.toNat+k+1) (by simp at hk;omega) AK
   simpa using this
theorem Qo{l:C_ Int}(h:ju l=true)(af:0<l.length):jv l=(l.drop 1).take l[0].toNat:=by
 unfold jv;rw[if_pos h];cases l with
 | nil=>simp at af
 | cons n r=>rfl
theorem alY{l:C_ Int}(h:ju l=true)(af:0<l.length):(jv l).length=l[0].toNat:=by
 obtain⟨_,h1,I,_⟩:=yy.1 h;rw[Qo h af,K9,AF7];omega
theorem J2(l:C_ Int):(jv l).length<=l.length:=by
 unfold jv;split
 .rw[K9,AF7];omega
 .simp
theorem ZX{l:C_ Int}(h:¬ju l=true):jv l=[]:=by unfold jv;rw[if_neg h]
theorem aa9(l:C_ Int)(k:Nat):((l.length:Int) :: (List.range (k+1)).map fun i=>l.getD i 0)=((l.length:Int) :: (List.range k).map fun i=>l.getD i 0)++[l.getD k 0]:=by
 rw[AH5,AF4];rfl
end o
namespace Go.Proofs.R
open Go Go.RowKit ba
abbrev iS(base:Nat)(w:A_)(v:B_)(l:C_ Int):Prop:=aS cL T.a 1 base w v l
theorem kF{base:Nat}{w:A_}{v:B_}{l:C_ Int}(h:iS base w v l):dw w v l:=aS.hE (enc:=cL) (fun _=>rfl) h
theorem abR(v:B_)(l:C_ Int)(w:A_)(h:dw w v l) :
  DD F.K2 #[v] w fun u w'=>u = .bool (o.ju l)/\Ext w w':=by
 obtain⟨eF,fB,rfl,fm⟩:=h.form;have no:(¬∃h:0<l.length,0<=l[0]/\l[0]<=(l.length:Int) - 1/\∀k (hk:k<l.length),l[0]+1<=k->l[k]=0)->o.ju l=false:=fun az=>by
  cases ar:o.ju l with
  | false=>rfl
  | true=>exact absurd (o.yy.1 ar) az
 refine br E.K2 ?_;refine J ?_;apply I_<;>intro g1
 .refine J ?_;exact⟨by rw[no];rintro⟨af,_⟩;omega,Ext.refl _⟩
 have af:0<l.length:=AK
 obtain⟨a,rfl⟩:=h.addr af;refine J ?_;apply I_<;>intro g2
 .refine J ?_;exact⟨by rw[no];rintro⟨_,h1,_⟩;omega,Ext.refl _⟩
 refine J ?_;apply I_<;>intro g3
 .refine J ?_;exact⟨by rw[no];rintro⟨_,h1,I,_⟩;omega,Ext.refl _⟩
 refine J ?_;refine _P [0] (fun x:Int=>[(3,.I x)]) (l[0]+1) (fun x W=>W=w/\l[0]+1<=x/\x<=l.length/\∀k (hk:k<l.length),l[0]+1<=k->(k:Int)<x->l[k]=0) (fun x=>((l.length:Int) - x).toNat) bc ⟨rfl,AK,AK,fun k hk a b=>AK⟩ ?_;rintro x S w1 ⟨rfl,Fv,ag,dI⟩;refine J ?_;apply I_<;>intro g4
 .refine J ?_;refine K_ x.toNat AK AK ?_;refine J ?_;apply I_<;>intro g5
  .refine J ?_;refine⟨x+1,bc,⟨aL,AK,AK,fun k hk a b=>?_⟩,AK⟩;by_cases e:(k:Int)=x
   .have:k=x.toNat:=AK
    subst this;exact g5
   .exact dI k hk a AK
  .refine J ?_;exact⟨by rw[no];rintro⟨_,_,_,ab⟩;exact g5 (ab _ AK AK),Ext.refl _⟩
 .refine J ?_;exact⟨by rw[o.yy.2 ⟨af,AK,AK,fun k hk a=>dI k hk a AK⟩],Ext.refl _⟩
theorem abG{w:A_}(v:B_)(l:C_ Int)(c:Nat)(n x:Int)(h:dw w v l)(ag:x=c)(an:c<l.length)(aC:l.length<=100000) :
  DD F.F3 #[v,.I x,.I n] w fun u w'=>iS w.heap.size w' u (l.set c n)/\Ext w w':=by
 subst ag;obtain⟨eF,fB,rfl,fm⟩:=h.form;refine br E.F3 ?_;refine J ?_;intro w1 bw cM ai al;have pb:iS w.heap.size w1 (.slice (some ⟨bw,0,none⟩) 0 0) []:=aS.empty cM al;refine J ?_;refine _q pb (h.ext Flat.ext ai) (fun _=>rfl) l3 (by simp only[List.length_nil];omega) (by simp only[List.length_nil];unfold maxLen;omega) ai.size fun b0 aD dA ajR=>?_;rw[AF8] at dA;have aJ:Ext w aD:=ai.grown ajR fun k hk=>(pb.lt k hk).1;obtain⟨aQ,eZ,rfl,_⟩:=dA.form;obtain⟨a,rfl⟩:=(kF dA).addr;refine J ?_;refine _z dA an fun aN gg dT=>?_;have ao:=dA.lt a.block rfl;refine J ?_;exact⟨dT,gg.ext aJ ao.1⟩
end Go.Proofs.R
end
section
namespace ba
open Go Go.RowKit
section
variable{S:Fr}{w:World}{aE:Value->Prop}
theorem _0{α:Type}{sz n cap:Nat}{R:A_->Addr->α->Prop}{aQ:H_ Addr}{x:G_}{k:IntKind}{xs:C_ α}{t}(l:Nat)(ak:bn sz R w (.slice aQ n cap) xs)(ag:aX S x = .int k (l:Int))(aC:l<=xs.length)
  (hk:∀ae c,bn sz R w (.slice ae (xs.length - l) c) (xs.drop l)->aE (.slice ae (xs.length - l) c)):rZ S sz (.slice aQ n cap) (some x) none none aE t:=by
 obtain⟨bB,aJ,a7⟩:=ak.len;refine _B l n cap (by simp[eG,ag]) (by simp[eG]) (by simp[eG]) ⟨AK,AK,GA _⟩ Bs ?_;have h:=ak.sub l n AK AK;rw[LJ (by rw[AF7];omega)] at h;rw[bB] at h ⊢;exact hk _ _ h
theorem AD3{α:Type}{sz n cap:Nat}{R:A_->Addr->α->Prop}{aQ:H_ Addr}{y:G_}{k:IntKind}{xs:C_ α}{t}(u:Nat)(ak:bn sz R w (.slice aQ n cap) xs)(bV:aX S y = .int k (u:Int))(hu:u<=xs.length)
  (hk:∀ae c,bn sz R w (.slice ae u c) (xs.take u)->aE (.slice ae u c)):rZ S sz (.slice aQ n cap) none (some y) none aE t:=by
 obtain⟨bB,aJ,a7⟩:=ak.len;refine _B 0 u cap (by simp[eG]) (by simp[eG,bV]) (by simp[eG]) ⟨AK,AK,GA _⟩ Bs ?_;have h:=ak.sub 0 u AK hu;exact hk _ _ h
end
end ba
namespace Go.Proofs.R
open Go Go.RowKit ba
theorem abT(v:B_)(l:C_ Int)(w:A_)(h:dw w v l)(aC:l.length<=100000) :
  DD F.KZ #[v] w fun u w'=>iS w.heap.size w' u (o.jv l)/\Ext w w':=by
 obtain⟨eF,fB,rfl,fm⟩:=h.form;refine br E.KZ ?_;refine J ?_;refine J_ (abR _ l w h) ?_;rintro _ w1 ⟨rfl,ai⟩;by_cases ar:o.ju l=true
 .rw[ar];obtain⟨af,h1,I,ab⟩:=o.yy.1 ar;obtain⟨a,rfl⟩:=h.addr af;have fp:=h.ext Flat.ext ai;refine J ?_;refine L_ 4 l[0].toNat [0] (fun v:gA=>[(3,.slice v.1 v.2.1 v.2.2)]) (none,0,0) (fun k v W=>Ext w1 W/\iS w1.heap.size W (.slice v.1 v.2.1 v.2.2) ((l.drop 1).take k)) bc bc ⟨Ext.refl _,aS.nil _ _ _ _ _⟩ ?_;clear fp;rintro k C1 S aD hk ⟨aj,dA⟩;have ep:=h.ext Flat.ext (ai.trans aj);refine J ?_;apply I_<;>intro g1
  .have cI:1+k<l.length:=AK
   refine J ?_;intro aN bW fe ah bl;have qC:((l.drop 1).take k).length<=100000:=by rw[K9,AF7];omega
   refine J ?_;refine U_ (y:=l[1+k]) (dA.ext ah) bl rfl (fun _=>rfl) l3 AK (by unfold maxLen;omega) (by have:=aj.size;have:=ah.size;omega) fun aQ c d aU dO nM=>?_;refine J ?_;refine⟨AK,aL,(aQ,c,d),⟨rfl,trivial⟩,(aj.trans ah).grown nM fun i U=>(dA.lt i U).1,?_⟩;rw[AJ4,List.getElem?_drop,List.getElem?_eq_getElem cI];exact dO
  .have jL:k=l[0].toNat:=AK
   subst jL;refine J ?_;exact⟨by rw[o.Qo ar af];exact aS.low ai.size dA,ai.trans aj⟩
 .have Ae:o.ju l=false:=by simpa using ar
  rw[Ae];refine J ?_;exact⟨by rw[o.ZX ar];exact aS.nil _ _ _ _ _,ai⟩
theorem ab2(n:Nat)(v:B_)(l:C_ Int)(w:A_)(h:dw w v l)(az:1<=n/\n<=100000) :
  DD F.FY #[.I n,v] w fun u w'=>iS w.heap.size w' u (o.rH n l)/\Ext w w':=by
 obtain⟨eF,fB,rfl,fm⟩:=h.form;refine br E.FY ?_;refine J ?_;intro w1 bw cM ai al;have pb:iS w.heap.size w1 (.slice (some ⟨bw,0,none⟩) 1 1) ((l.length:Int) :: (List.range 0).map fun i=>l.getD i 0):=aS.zn _ al cM rfl (fun _=>rfl) rfl (by show 1<=maxLen;unfold maxLen;decide);clear al;refine J ?_;refine L_ 6 (n - 1) [0,1] (fun v:gA=>[(5,.slice v.1 v.2.1 v.2.2)]) (some ⟨bw,0,none⟩,1,1) (fun k v W=>Ext w W/\iS w.heap.size W (.slice v.1 v.2.1 v.2.2) ((l.length:Int) :: (List.range k).map fun i=>l.getD i 0)) bc bc ⟨ai,pb⟩ ?_;clear pb;rintro k C1 S aD hk ⟨aj,dA⟩;have ep:=h.ext Flat.ext aj;have qC:((l.length:Int) :: (List.range k).map fun i=>l.getD i 0).length=k+1:=Bs
 refine J ?_;apply I_<;>intro g1
 .refine J ?_;apply I_<;>intro g2
  .have cI:k<l.length:=AK
   obtain⟨a,rfl⟩:=h.addr;refine J ?_;intro aN bW fe ah bl;refine J ?_;refine U_ (y:=l[k]) (dA.ext ah) bl rfl (fun _=>rfl) l3 AK (by unfold maxLen;omega) (by have:=aj.size;have:=ah.size;omega) fun aQ c d aU dO nM=>?_;refine J ?_;refine⟨AK,aL,(aQ,c,d),⟨rfl,trivial⟩,(aj.trans ah).grown nM fun i U=>(dA.lt i U).1,?_⟩;rw[o.aa9,show l.getD k 0=l[k] from by simp[cI]];exact dO
  .refine J ?_;intro aN bW fe ah bl;refine J ?_;refine U_ (y:=0) (dA.ext ah) bl rfl (fun _=>rfl) l3 AK (by unfold maxLen;omega) (by have:=aj.size;have:=ah.size;omega) fun aQ c d aU dO nM=>?_;refine J ?_;refine⟨AK,aL,(aQ,c,d),⟨rfl,trivial⟩,(aj.trans ah).grown nM fun i U=>(dA.lt i U).1,?_⟩;rw[o.aa9,show l.getD k 0=0 from by simp[List.getD,List.getElem?_eq_none (show l.length<=k by omega)]];exact dO
 .have jL:k=n - 1:=AK
  subst jL;refine J ?_;exact⟨dA,aj⟩
theorem ap0(v:B_)(l:C_ Int)(w:A_)(h:dw w v l)(aC:l.length<=100000) :
  DD F.K1 #[v] w fun u w'=>((o.p6 l=none/\u = .tuple #[.slice none 0 0,.I 0,.bool false])\/(∃r x hy,o.p6 l=some (r,x)/\u = .tuple #[hy,.I x,.bool true]/\iS w.heap.size w' hy r))/\Ext w w':=by
 obtain⟨eF,fB,rfl,fm⟩:=h.form;refine br E.K1 ?_;refine J ?_;refine J_ (abT _ l w h aC) ?_;rintro u w1 ⟨pb,ai⟩;have fM:=kF pb;obtain⟨cn,ci,rfl,_⟩:=fM.form;refine J ?_;apply I_<;>intro g1
 .have U:o.jv l=[]:=AF9 AK;refine J ?_;exact⟨.inl ⟨by unfold o.p6;rw[U],aL⟩,ai⟩
 have jX:=o.J2 l;obtain⟨x,r,U⟩:∃x r,o.jv l=x :: r:=by
  cases an:o.jv l with
  | nil=>rw[an] at g1;simp at g1
  | cons x r=>exact⟨x,r,rfl⟩
 obtain⟨ij,rfl⟩:=fM.addr;refine J ?_;intro aD aj;have I1:=fM.ext Flat.ext aj;have ep:=h.ext Flat.ext (ai.trans aj);refine J ?_;refine _0 (k:=.i64) 1 I1 rfl AK fun ae c au=>?_;have EM:(o.jv l).drop 1=r:=by rw[U];rfl
 have Fv:(o.jv l)[0]' AK=x:=by simp[U]
 rw[EM] at au;refine J ?_;refine K_ 0 rfl AK ?_;refine J ?_;refine J_ (ab2 l.length _ r aD (by have:=au.len.1;exact au) AK) ?_;rintro u aN ⟨dT,ah⟩;refine⟨ah,?_⟩;refine J ?_;refine⟨.inr ⟨o.rH l.length r,x,u,by unfold o.p6;rw[U],by rw[Fv],aS.low (ai.trans aj).size dT⟩,(ai.trans aj).trans ah⟩
theorem apZ(v:B_)(l:C_ Int)(x:Int)(w:A_)(h:dw w v l)(aC:l.length<=100000) :
  DD F.K0 #[v,.I x] w fun u w'=>((o.nr l x=none/\u = .tuple #[.slice none 0 0,.bool false])\/(∃r hy,o.nr l x=some r/\u = .tuple #[hy,.bool true]/\iS w.heap.size w' hy r))/\Ext w w':=by
 obtain⟨eF,fB,rfl,fm⟩:=h.form;refine br E.K0 ?_;refine J ?_;refine J_ (abR _ l w h) ?_;rintro _ w1 ⟨rfl,ai⟩;by_cases ar:o.ju l=true;rotate_left
 .have Ae:o.ju l=false:=by simpa using ar
  rw[Ae];refine J ?_;exact⟨.inl ⟨by unfold o.nr;rw[if_neg (fun e=>ar e.1)],aL⟩,ai⟩
 rw[ar];obtain⟨af,h1,I,ab⟩:=o.yy.1 ar;obtain⟨a,rfl⟩:=h.addr af;have fp:=h.ext Flat.ext ai;have bb:l.headD 0=l[0]:=by cases l with | nil=>simp at af | cons n r=>rfl
 refine J ?_;apply I_<;>intro g1
 .refine J ?_;exact⟨.inl ⟨by unfold o.nr;rw[if_neg (fun e=>e.2 (by rw[bb];omega))],aL⟩,ai⟩
 refine J ?_;refine J_ (abT _ l w1 fp aC) ?_;rintro u aD ⟨dA,aj⟩;obtain⟨cn,ci,rfl,_⟩:=(kF dA).form;have jX:=o.J2 l;refine J ?_;intro aN bW fe ah bl;refine J ?_;refine U_ (y:=x) (dA.ext ah) bl rfl (fun _=>rfl) l3 AK (by unfold maxLen;omega) (by have:=aj.size;have:=ah.size;omega) fun aQ c d aU dO nM=>?_;have bD:Ext w1 aU:=(aj.trans ah).grown nM fun i U=>(dA.lt i U).1;refine J ?_;refine J_ (ab2 l.length _ _ aU (kF dO) AK) ?_;rintro u bt ⟨dF,aI⟩;refine J ?_;exact⟨.inr ⟨_,_,by unfold o.nr;rw[if_pos ⟨ar,by rw[bb];omega⟩],rfl,aS.low (ai.trans bD).size dF⟩,(ai.trans bD).trans aI⟩
theorem abF(c:o.ea)(fq dH:B_)(w:A_)(aV:o.lX w dH c.bQ) :
  DD F.KH #[.agg (c.enc fq dH).toArray] w fun v w'=>v = .tuple #[.I (o.comm c.bQ).1,.I (o.comm c.bQ).2]/\Ext w w':=by
 obtain⟨aQ,cap,rfl,hlen⟩:=aV.form;refine br E.KH ?_;refine J ?_;intro w1 bw cM ai al;unfold o.ea.enc at al;refine J ?_;refine L_ 4 c.bQ.length [1] (fun _=>[]) () (fun k _ w'=>Ext w1 w'/\o.comm c.bQ=o.comm (c.bQ.drop k)) bc bc ⟨Ext.refl _,Bs⟩ ?_;have gF:=al;clear al;rintro k _ S aD hk ⟨fb,aZ⟩;have al:=fb.obj gF;have aj:=ai.trans fb;refine J ?_;apply I_<;>intro g1
 .have a1:k<c.bQ.length:=AK
  obtain⟨a,rfl⟩:=aV.addr;obtain⟨bL,b2,gq,eV,qG⟩:=aV.at k a1;rw[o.V3 a1] at aZ;replace gq:=gq.ext aj;unfold o.Act.enc at gq;refine J ?_;apply I_<;>intro g2
  .refine J ?_;intro aN ah;refine J ?_;rw[aZ,if_pos (by simp[o.hx,g2])];exact⟨aL,aj.trans ah⟩
  refine J ?_;apply I_<;>intro g3
  .refine J ?_;intro aN ah;refine J ?_;rw[aZ,if_pos (by simp[o.hx,g3])];exact⟨aL,aj.trans ah⟩
  refine J ?_;rw[if_neg (by simp[o.hx,g2,g3])] at aZ;exact⟨a1,aL,(),by trivial,fb,aZ⟩
 .refine J ?_;rw[aZ,AF0 AK];exact⟨aL,aj⟩
theorem ap6(c:o.ea)(fq dH dV:B_)(l:C_ o.dB)(w:A_)(aV:o.lX w dH c.bQ)(aC:o.mT w dV l) :
  DD F.FQ #[.agg (c.enc fq dH).toArray,dV] w fun v w'=>v = .I (o.ways c l)/\Ext w w':=by
 obtain⟨aQ,cap,rfl,hlen⟩:=aC.form;obtain⟨anA,zq,rfl,E5⟩:=aV.form;refine br E.FQ ?_;refine J ?_;intro w1 bw cM ai al;refine J ?_;refine J_ (abF c fq _ w1 (aV.ext ai)) ?_;rintro _ aD ⟨rfl,aj⟩;have aJ:=ai.trans aj;rw[o.ways];refine J ?_;apply I_<;>intro g1;rotate_left
 .refine J ?_;rw[if_neg g1];exact⟨aL,aJ⟩
 rw[if_pos g1];refine J ?_;apply I_<;>intro g2;rotate_left
 .refine J ?_;rw[o.gX (.inl AK)];exact⟨aL,aJ⟩
 refine J ?_;apply I_<;>intro g3;rotate_left
 .refine J ?_;rw[o.gX (.inr AK)];exact⟨aL,aJ⟩
 rw[o.iM AK AK];obtain⟨a,rfl⟩:=aC.addr;have U:(o.comm c.bQ).2.toNat<l.length:=AK
 have ej:=((aC.at _ U).cells).ext aJ;refine J ?_;refine K_ (o.comm c.bQ).2.toNat AK U ?_;refine J ?_;refine N_ (fun g4=>?_) (fun g4=>?_)
 .refine J ?_;rw[if_pos g4];exact⟨aL,aJ⟩
 .refine J ?_;rw[if_neg (by simp[g4])];exact⟨aL,aJ⟩
structure pD(w:World)(cs:List Value)(m:o.Model):Prop where
 ex:∃ms ys bL hy,cs=ms++ys++[bL,hy]/\o.eh w ms m/\o.kK w ys (o.layout m)/\ku w bL (o.insts m)/\sQ w hy (o.refs m)
theorem pD.ext{w w':A_}{cs:C_ B_}{m:o.Model}(he:Ext w w')(h:pD w cs m):pD w' cs m :=
 let ⟨ms,ys,bL,hy,af,h1,I,ab,aH⟩:=h.ex; ⟨ms,ys,bL,hy,af,h1.ext he,I.ext he,ab.ext Flat.ext he,aH.ext Flat.ext he⟩
theorem pD.form{w:A_}{cs:C_ B_}{m:o.Model}(h:pD w cs m):∃eK d0 dM d1 et d2 eB d3 eL d4 b6 bx bR c1 bX c2 bZ bu ca bC cn ci fA gp,
  cs=[.slice eK m.scalars.length d0,.slice dM m.vars.length d1,.slice et m.aw.length d2,.slice eB m.procs.length d3,.slice eL m.props.length d4,
   .slice b6 (o.layout m).vars.length bx,.slice bR (o.layout m).aw.length c1,.slice bX (o.layout m).insts.length c2,.I (o.layout m).cells,.slice bZ (o.layout m).aR.length bu,.slice ca (o.layout m).U.length bC,.slice cn (o.insts m).length ci,.slice fA (o.refs m).length gp] /\
  o.eh w [.slice eK m.scalars.length d0,.slice dM m.vars.length d1,.slice et m.aw.length d2,.slice eB m.procs.length d3,.slice eL m.props.length d4] m /\
  o.kK w [.slice b6 (o.layout m).vars.length bx,.slice bR (o.layout m).aw.length c1,.slice bX (o.layout m).insts.length c2,.I (o.layout m).cells,.slice bZ (o.layout m).aR.length bu,.slice ca (o.layout m).U.length bC] (o.layout m) /\
  bn 1 (Flat cL) w (.slice b6 (o.layout m).vars.length bx) (o.layout m).vars/\bn 1 (Flat cL) w (.slice bR (o.layout m).aw.length c1) (o.layout m).aw/\bn 1 (Flat cL) w (.slice bX (o.layout m).insts.length c2) (o.layout m).insts /\
  bn 1 (Flat cL) w (.slice bZ (o.layout m).aR.length bu) (o.layout m).aR/\bn 1 (Flat cL) w (.slice ca (o.layout m).U.length bC) (o.layout m).U /\
  o.ih w (.slice eK m.scalars.length d0) m.scalars/\o.h3 w (.slice dM m.vars.length d1) m.vars/\o.mT w (.slice et m.aw.length d2) m.aw/\o.qV w (.slice eB m.procs.length d3) m.procs /\
  ku w (.slice cn (o.insts m).length ci) (o.insts m)/\sQ w (.slice fA (o.refs m).length gp) (o.refs m):=by
 obtain⟨ms,ys,bL,hy,rfl,aW,cY,aZ,bH⟩:=h.ex;have Eo:=aW;have air:=cY;obtain⟨b6,bx,bR,c1,bX,c2,bZ,bu,ca,bC,rfl,en,dU,du,eW,fQ⟩:=cY.form;obtain⟨eK,d0,dM,d1,et,d2,eB,d3,eL,d4,rfl,af,h1,I,ab,aH,_⟩:=aW.form;obtain⟨cn,ci,rfl,_⟩:=aZ.form;obtain⟨fA,gp,rfl,_⟩:=bH.form;exact⟨eK,d0,dM,d1,et,d2,eB,d3,eL,d4,b6,bx,bR,c1,bX,c2,bZ,bu,ca,bC,cn,ci,fA,gp,rfl,Eo,air,en,dU,du,eW,fQ,af,h1,I,ab,aZ,bH⟩
theorem ao7(cs ys:C_ B_)(m:o.Model)(w:A_)(h:o.eh w cs m)(aK:m.cK)(aW:o.eX m)(cY:o.kK w ys (o.layout m)) :
  DD F.FZ #[.agg cs.toArray,.agg ys.toArray] w fun u w'=>(∃bL hy,u = .agg (cs++ys++[bL,hy]).toArray/\aS o.cX.enc T.e 2 w.heap.size w' bL (o.insts m)/\aS o.Ref.enc T.f 2 w.heap.size w' hy (o.refs m))/\Ext w w':=by
 have dc:=h;have sf:=cY;obtain⟨b6,bx,bR,c1,bX,c2,bZ,bu,ca,bC,rfl,_⟩:=h.form;obtain⟨mj,d0,ka,d1,k3,d2,pq,d3,oQ,d4,rfl,_⟩:=cY.form;refine br E.FZ ?_;refine J ?_;intro w1 bS dm ai av;refine J ?_;intro aD bW fe aj bl;replace av:=aj.obj av;refine J ?_;intro aN cC ff ah bp;have z4:=cA bp;replace av:=ah.obj av;replace bl:=ah.obj bl;have a7:=(ai.trans aj).trans ah;have gz:=ai.size;have z2:=aj.size;refine J ?_;intro aU ax;have bD:=a7.trans ax;replace av:=ax.obj av;replace bl:=ax.obj bl;replace bp:=ax.obj bp;refine J ?_;refine J_ (Gs _ m aU (dc.ext bD) aK) ?_;rintro bL bt ⟨eV,aI⟩;obtain⟨cn,ci,rfl,_⟩:=eV.form;have bJ:=bD.trans aI;refine⟨aI,?_⟩;refine J ?_;refine J_ (apB _ m bt (dc.ext bJ) aK aW.lim) ?_;rintro hy bz ⟨jt,aM⟩;obtain⟨fA,gp,rfl,_⟩:=jt.form;have cv:=bJ.trans aM;refine⟨aI.trans aM,?_⟩;replace bp:=(aI.trans aM).obj bp;refine J ?_;intro bK dL ct;have dz:Ext w bK:=dL.ext cv AK;have ap7:=ah.size;have p5:=ax.size;have pn:=aI.size;refine J ?_;exact⟨⟨_,_,rfl,aS.low bD.size (aS.wr dL AK (eV.ext aM)),aS.low bJ.size (aS.wr dL AK jt)⟩,dz⟩
end Go.Proofs.R
end
section
namespace o
open Go
theorem VD{m:Model}{c:Nat}(h:c<dN m):∃bo:c<(b1 m).length,DN m c=((b1 m)[c].aR,(b1 m)[c].U):=by
 have bo:c<(b1 m).length:=h;exact⟨bo,by unfold DN;rw[List.getElem?_eq_getElem bo]⟩
end o
namespace Go.Proofs.R
open Go Go.RowKit ba
def adl:C_ B_:=[.slice none 0 0,.slice none 0 0,.slice none 0 0,.slice none 0 0,.slice none 0 0,.slice none 0 0,.slice none 0 0,.slice none 0 0,.int .i64 0,.slice none 0 0,.slice none 0 0,.slice none 0 0,.slice none 0 0]
theorem abA(cs:C_ B_)(m:o.Model)(w:A_)(h:o.eh w cs m)(aK:m.cK) :
  DD F.K3 #[.agg cs.toArray] w fun u w'=>((¬(o.check m).cN=0/\u = .tuple #[.agg adl.toArray,.bool false])\/((o.check m).cN=0/\∃zs,u = .tuple #[.agg zs.toArray,.bool true]/\pD w' zs m))/\Ext w w':=by
 have dc:=h;obtain⟨b6,bx,bR,c1,bX,c2,bZ,bu,ca,bC,rfl,_⟩:=h.form;refine br E.K3 ?_;refine J ?_;intro w1 bw cM ai al;refine J ?_;intro aD bS dm aj av;have z2:=cA av;have adu:=ai.size;replace al:=aj.obj al;have aJ:=ai.trans aj;refine J ?_;refine J_ (apt _ m aD (dc.ext aJ) aK) ?_;rintro _ aN ⟨rfl,ah⟩;replace al:=ah.obj al;replace av:=ah.obj av;have a7:=aJ.trans ah;unfold BL;refine J ?_;refine _K (v:=.I (o.check m).cN) rfl ?_;refine J ?_;refine I_ (fun hk=>?_) (fun hk=>?_);rotate_left
 .refine J ?_;intro aU dE bp;refine J ?_;exact⟨.inl ⟨hk,aL⟩,dE.ext a7 AK⟩
 have aW:=o.j3 hk;refine J ?_;intro aU ax;replace al:=ax.obj al;replace av:=ax.obj av;have bD:=a7.trans ax;refine J ?_;refine J_ (apx _ m aU (dc.ext bD) aK aW) ?_;rintro _ bt ⟨⟨ys,rfl,I0⟩,aI⟩;have cY:=I0.here;have bJ:=bD.trans aI;refine⟨aI,?_⟩;refine J ?_;refine J_ (ao7 _ ys m bt (dc.ext bJ) aK aW cY) ?_;rintro _ bz ⟨⟨bL,hy,rfl,eV,jt⟩,aM⟩;have cv:=bJ.trans aM;replace av:=(aI.trans aM).obj av;obtain⟨mj,d0,ka,d1,k3,d2,pq,d3,oQ,d4,rfl,_⟩:=cY.form;obtain⟨cn,ci,rfl,_⟩:=eV.form;obtain⟨fA,gp,rfl,_⟩:=jt.form;have p5:=ax.size;have ap7:=ah.size;have pn:=aI.size;have avY:=cA av;refine J ?_;intro bK dL ct;have dz:Ext w bK:=dL.ext cv AK;have ait:=((I0.ext aM pn).wr dL AK).here;refine J ?_;exact⟨.inr ⟨hk,_,rfl,_,_,_,_,rfl,dc.ext dz,ait,aS.hE (enc:=o.cX.enc) (fun _=>rfl) (aS.wr dL AK eV),aS.hE (enc:=o.Ref.enc) (fun _=>rfl) (aS.wr dL AK jt)⟩,dz⟩
theorem Rj(cs:C_ B_)(m:o.Model)(ref:Int)(q p k:Nat)(w:A_)(h:pD w cs m)(bF:o.fr m ref q p k) :
  DD F.F0 #[.agg cs.toArray,.I ref] w fun u w'=>(∃fq dH,u = .agg ((o.bT m p k).enc fq dH).toArray/\o.eS w fq (o.bT m p k).guard/\o.lX w dH (o.bT m p k).bQ)/\Ext w w':=by
 obtain⟨eK,d0,dM,d1,et,d2,eB,d3,eL,d4,b6,bx,bR,c1,bX,c2,bZ,bu,ca,bC,cn,ci,fA,gp,rfl,_,_,_,_,_,_,_,_,_,_,ab,aZ,bH⟩:=h.form;have ar:=bF.at_.U;have au:=bF.at_.au;have nd:=bF.at_.hk;have oB:=bF.at_.ip;obtain⟨r,rfl⟩:=QA bF.aR;have aP:r<(o.refs m).length:=bF.U;have gu:(o.refs m)[r].inst=(q:Int):=bF.at_.pk;have pd:(o.refs m)[r].cmd=(k:Int):=bF.at_.sC;obtain⟨jG,rfl⟩:=bH.addr;obtain⟨ij,rfl⟩:=aZ.addr;obtain⟨a3,rfl⟩:=ab.addr;obtain⟨mc,b2,dV,dP,e7,fy⟩:=ab.at p au;obtain⟨CB,BA,rfl,Cs⟩:=fy.form;obtain⟨ac,rfl⟩:=fy.addr;obtain⟨eU,fq,dH,gF,h6,gG⟩:=fy.at k nd;obtain⟨gw,fS,rfl,_⟩:=h6.form;obtain⟨sy,r6,rfl,_⟩:=gG.form;unfold o.dJ.enc at dP;unfold o.ea.enc at gF;refine br E.F0 ?_;refine J ?_;intro w1 bS dm ai av;refine J ?_;intro aD cC ff aj bp;have z4:=cA bp;have adu:=ai.size;replace av:=aj.obj av;have aJ:=ai.trans aj;have Oi:=bH.ext Flat.ext aJ;refine J ?_;intro aN dR kT ah b9;have qm:(o.refs m)[r].enc=[.I q,.I k]:=by unfold o.Ref.enc;rw[gu,pd]
 rw[qm] at b9;replace av:=ah.obj av;replace bp:=ah.obj bp;have a7:=aJ.trans ah;have Xz:=aZ.ext Flat.ext a7;have Zb:=dP.ext a7;have Jj:=gF.ext a7;clear Oi;refine J ?_;intro aU ax;replace av:=ax.obj av;replace bp:=ax.obj bp;replace b9:=ax.obj b9;replace Xz:=Xz.ext Flat.ext ax;replace Zb:=Zb.ext ax;replace Jj:=Jj.ext ax;refine J ?_;refine K_ p (by rw[oB]) au ?_;refine J ?_;intro bt fg B1;refine J ?_;have km:=o.xX au nd;exact⟨⟨.slice gw (o.bT m p k).guard.length fS,.slice sy (o.bT m p k).bQ.length r6,by rw[km];rfl,by rw[km];exact h6,by rw[km];exact gG⟩,fg.ext (a7.trans ax) AK⟩
theorem Rn(cs:C_ B_)(v:B_)(m:o.Model)(s:C_ Int)(c:Nat)(w:A_)(h:pD w cs m)(aW:o.eX m)(ak:dw w v s)(aC:s.length=o.dN m)(an:c<m.aw.length) :
  DD F.F2 #[.agg cs.toArray,v,.I c] w fun u w'=>dw w' u (o.chanOf m s c)/\Ext w w':=by
 obtain⟨eK,d0,dM,d1,et,d2,eB,d3,eL,d4,b6,bx,bR,c1,bX,c2,bZ,bu,ca,bC,cn,ci,fA,gp,rfl,_,_,en,dU,du,eW,fQ,af,h1,I,ab,aZ,bH⟩:=h.form;obtain⟨eF,fB,rfl,fm⟩:=ak.form;obtain⟨kl,e0⟩:=o.s8 an;have iu:=(aW.chan _ (GR an)).cap;have wM:=o.nA an;have eU:=o.pJ an;have kA:o.dN m<=64:=o.jd aW;obtain⟨db,rfl⟩:=dU.addr;obtain⟨pG,rfl⟩:=I.addr;have ej:=(I.at c an).cells;refine br E.F2 ?_;refine J ?_;intro w1 bW fe ai bl;have Ri:=dU.ext Flat.ext ai;replace ej:=ej.ext ai;have fp:=ak.ext Flat.ext ai;refine J ?_;refine _Y (k:=.i64) (k':=.i64) (o.cm m c) (o.cm m c+(1+o.gE m c)) fp (by simp[de,bN,e0]) (by simp[de,bN,e0];omega) AK AK fun ae kN au=>?_;refine J ?_;refine⟨?_,ai⟩;rw[show o.cm m c+(1+o.gE m c) - o.cm m c=1+o.gE m c from AK] at au ⊢;exact au
theorem Ls(cs:C_ B_)(v:B_)(m:o.Model)(s:C_ Int)(c:Nat)(x n:Int)(w:A_)(h:pD w cs m)(aW:o.eX m)(ak:dw w v s)(aC:s.length=o.dN m)(ag:x=c)(an:c<o.dN m) :
  DD F.yB #[.agg cs.toArray,v,.I x,.I n] w fun u w'=>((o.putAt m s c n=none/\u = .tuple #[.slice none 0 0,.bool false])\/(∃t k1,o.putAt m s c n=some t/\u = .tuple #[k1,.bool true]/\iS w.heap.size w' k1 t))/\Ext w w':=by
 subst ag;obtain⟨eK,d0,dM,d1,et,d2,eB,d3,eL,d4,b6,bx,bR,c1,bX,c2,bZ,bu,ca,bC,cn,ci,fA,gp,rfl,_,_,en,dU,du,eW,fQ,af,h1,I,ab,aZ,bH⟩:=h.form;obtain⟨eF,fB,rfl,fm⟩:=ak.form;obtain⟨dY,qn⟩:=o.VD an;have f2:=o.Kb m;have f3:=o.J9 m;have lx:(o.b1 m).length=o.dN m:=rfl;have er:(o.layout m).aR[c]' AK=(o.b1 m)[c].aR:=o.Ka _ dY;have eH:(o.layout m).U[c]' AK=(o.b1 m)[c].U:=o.J8 _ dY;have kA:o.dN m<=64:=o.jd aW;obtain⟨a3,rfl⟩:=eW.addr;obtain⟨a4,rfl⟩:=fQ.addr;refine br E.yB ?_;refine J ?_;intro w1 cC ff ai bp;have Gn:=eW.ext Flat.ext ai;have ave:=fQ.ext Flat.ext ai;refine J ?_;apply I_<;>intro g1
 .refine J ?_;exact⟨.inl ⟨by unfold o.putAt;rw[qn,if_pos (.inl (by simp only;omega))],aL⟩,ai⟩
 refine J ?_;apply I_<;>intro g2
 .refine J ?_;exact⟨.inl ⟨by unfold o.putAt;rw[qn,if_pos (.inr (by simp only;omega))],aL⟩,ai⟩
 refine J ?_;refine J_ (abG _ s c n _ (ak.ext Flat.ext ai) rfl AK AK) ?_;rintro u aD ⟨dA,aj⟩;refine J ?_;exact⟨.inr ⟨_,_,by unfold o.putAt;rw[qn,if_neg (by simp only;omega)],rfl,aS.low ai.size dA⟩,ai.trans aj⟩
theorem Ru(cs:C_ B_)(v nu:B_)(m:o.Model)(s l:C_ Int)(c:Nat)(w:A_)(h:pD w cs m)(aW:o.eX m)(ak:dw w v s)(az:dw w nu l)(aC:s.length=o.dN m)(an:c<m.aw.length)(qC:l.length=1+o.gE m c) :
  DD F.Cw #[.agg cs.toArray,v,.I c,nu] w fun u w'=>iS w.heap.size w' u (o.hR s (o.cm m c) l)/\Ext w w':=by
 obtain⟨eK,d0,dM,d1,et,d2,eB,d3,eL,d4,b6,bx,bR,c1,bX,c2,bZ,bu,ca,bC,cn,ci,fA,gp,rfl,_,_,en,dU,du,eW,fQ,af,h1,I,ab,aZ,bH⟩:=h.form;obtain⟨eF,fB,rfl,fm⟩:=ak.form;obtain⟨on,asR,rfl,auN⟩:=az.form;obtain⟨kl,e0⟩:=o.s8 an;have wM:=o.nA an;have kA:o.dN m<=64:=o.jd aW;obtain⟨db,rfl⟩:=dU.addr;refine br E.Cw ?_;refine J ?_;intro w1 cC ff ai bp;have Ri:=dU.ext Flat.ext ai;have fp:=ak.ext Flat.ext ai;have nP:=az.ext Flat.ext ai;refine J ?_;intro aD aj;have ep:=fp.ext Flat.ext aj;have j0:=nP.ext Flat.ext aj;have aJ:=ai.trans aj;refine J ?_;refine AD3 (k:=.i64) (o.cm m c) ep (by simp[de,bN,e0]) AK fun auT asL dg=>?_;refine J ?_;refine _0 (k:=.i64) (o.cm m c+l.length) ep (by simp[de,bN,e0]) AK fun auU gT ki=>?_;refine J ?_;intro aN bW fe ah bl;have dT:iS aD.heap.size aN (.slice (some ⟨bW,0,none⟩) 0 0) []:=aS.empty fe bl;have tl:(s.take (o.cm m c)).length<=64:=by rw[K9];omega
 have dl:(s.drop (o.cm m c+l.length)).length<=64:=by rw[AF7];omega
 refine J ?_;refine _q dT (dg.ext Flat.ext ah) (fun _=>rfl) l3 (by simp only[List.length_nil];omega) (by simp only[List.length_nil];unfold maxLen;omega) ah.size fun v4 aU dO nM=>?_;have eo:Ext aD aU:=ah.grown nM fun i U=>(dT.lt i U).1;rw[AF8] at dO;obtain⟨gP,AT,rfl,_⟩:=dO.form;refine J ?_;refine _q dO (j0.ext Flat.ext eo) (fun _=>rfl) l3 AK (by unfold maxLen;omega) eo.size fun v5 bt dF hg=>?_;have iP:Ext aD bt:=eo.grown hg fun i U=>(dO.lt i U).1;obtain⟨rJ,avk,rfl,_⟩:=dF.form;refine J ?_;refine _q dF (ki.ext Flat.ext iP) (fun _=>rfl) l3 (by rw[Ln];omega) (by rw[Ln];unfold maxLen;omega) iP.size fun v6 bz dn iJ=>?_;have iE:Ext aD bz:=iP.grown iJ fun i U=>(dF.lt i U).1;obtain⟨tW,avl,rfl,_⟩:=dn.form;refine J ?_;exact⟨aS.low aJ.size dn,aJ.trans iE⟩
end Go.Proofs.R
end
section
namespace o
open Go
theorem VN{m:Model}{i:Nat}(h:i<m.aw.length):cm m (i+1)=cm m i+(1+gE m i):=by rw[aeT h,pJ h]
theorem M3{m:Model}:∀(d i:Nat),i+d<=m.aw.length->cm m i<=cm m (i+d)
 | 0,_,_=>GA _
 | d+1,i,h=>by
  have:=M3 (m:=m) d i AK
  have:=VN (m:=m) (i:=i+d) AK
  rw[<-AI3];omega
theorem VM{m:Model}{i j:Nat}(Cc:i<j)(aF:j<m.aw.length):cm m i+(1+gE m i)<=cm m j:=by
 have h1:=VN (m:=m) (i:=i) AK;have I:=M3 (m:=m) (j - (i+1)) (i+1) AK;rw[show i+1+(j - (i+1))=j from AK] at I;omega
theorem aeS(m:Model)(i:Nat)(h:i<=m.aw.length):total (c0 m)<=cm m i:=by
 have:=M3 (m:=m) i 0 AK
 rw[AE8,aeU] at this;exact this
theorem amo{m:Model}{i j:Nat}(U:i<m.aw.length)(aF:j<(nB m.scalars m.aw[i]).length):∃h:cm m i+j<(b1 m).length,(b1 m)[cm m i+j].aR=(nB m.scalars m.aw[i])[j].aR/\(b1 m)[cm m i+j].U=(nB m.scalars m.aw[i])[j].U:=by
 have hw:i<(dK m).length:=by simpa[dK] using U
 have e:(dK m)[i]=nB m.scalars m.aw[i]:=by simp[dK]
 have hk:j<(dK m)[i].length:=by rw[e];exact aF
 have h1:=M9 2 (dK m) 0 i j hw hk;have nL:=vR U;rw[vT] at aF;have I:=amn (m:=m) (c:=cm m i+j) (by unfold cm;omega) AK;rw[show cm m i+j - total (c0 m)=total ((dK m).take i)+j from by unfold cm;omega,h1] at I;obtain⟨ab,aH⟩:=List.getElem?_eq_some_iff.1 I;refine⟨ab,?_,?_⟩
 .rw[aH];simp only[e]
 .rw[aH];simp only[e]
theorem ahx{m:Model}{s:C_ Int}{c:Nat}{n:Int}(ay:Fits m s)(aP:c<total (c0 m)\/total (c0 m)+total (dK m)<=c)(ao:∀h:c<(b1 m).length,(b1 m)[c].aR<=n/\n<=(b1 m)[c].U):Fits m (s.set c n):=by
 refine⟨by rw[AE9];exact ay.len,fun i U=>?_,fun j aF ek=>?_⟩
 .have h1:=vR U;have I:=aeS m i AK
  have:nC m i m.aw[i] (s.set c n)=nC m i m.aw[i] s:=acv fun k hk=>List.getElem?_set_ne AK
  rw[this];exact ay.queue i U
 .rw[List.getElem_set];split
  .rename_i e;subst e;exact ao ek
  .exact ay.cell j (by rw[AE9] at aF;exact aF) ek
theorem aoZ{s:C_ Scalar}{c:dB}{l:C_ Int}(iu:1<=c.cap)(h:lZ s c l){j:Nat}(aF:j<(nB s c).length):∃x,l[j]? = some x/\(nB s c)[j].aR<=x/\x<=(nB s c)[j].U:=by
 obtain⟨n,af,h1,I,ab⟩:=h;cases j with
 | zero=>exact⟨n,af,h1,I⟩
 | succ k =>
  rw[vT] at aF;obtain⟨x,ag,aV,ao⟩:=ab k AK;refine⟨x,ag,?_⟩;have e:(nB s c)[k+1]'(by rw[vT];omega)=lg s c:=by simp[nB]
  rw[e];unfold lg;unfold eY at aV ⊢;by_cases az:(k:Int)<n
  .have:=aV az
   split at this<;>rename_i ak
   .rw[if_pos ak];simp only at this ⊢;omega
   .rw[if_neg ak];exact this
  .have:=ao AK
   subst this;split
   .simp only;omega
   .simp only
    have:=size_le c.scalar s
    omega
theorem W7{m:Model}{s l:C_ Int}{i:Nat}(ay:Fits m s)(U:i<m.aw.length)(iu:1<=m.aw[i].cap)(aC:l.length=1+gE m i)(ar:lZ m.scalars m.aw[i] l):Fits m (hR s (cm m i) l):=by
 have wM:=nA U;have nL:cm m i+l.length<=s.length:=by rw[ay.len];omega
 have eU:=pJ U;refine⟨by rw[FA nL];exact ay.len,fun j aF=>?_,fun x ag uW=>?_⟩
 .by_cases e:j=i
  .subst e
   have:nC m j m.aw[j] (hR s (cm m j) l)=l:=by
    apply List.ext_getElem?;intro k;unfold nC;rw[List.getElem?_take,List.getElem?_drop];split
    .rw[An nL,if_pos ⟨AK,AK⟩,show cm m j+k - cm m j=k from AK]
    .rw[List.getElem?_eq_none AK]
   rw[this];exact ar
  .have mE:=pJ aF
   have:nC m j m.aw[j] (hR s (cm m i) l)=nC m j m.aw[j] s:=acv fun k hk=>by
    rw[An nL,if_neg];rcases Nat.lt_or_gt_of_ne e with h | h
    .have:=VM h U;omega
    .have:=VM h aF;omega
   rw[this];exact ay.queue j aF
 .have gW:x<s.length:=by rw[FA nL] at ag;exact ag
  have aK:=An nL x;rw[List.getElem?_eq_getElem ag] at aK;by_cases fs:cm m i<=x/\x<cm m i+l.length
  .rw[if_pos fs] at aK;have YJ:x - cm m i<(nB m.scalars m.aw[i]).length:=by rw[vT];omega
   obtain⟨y,bV,bw,bS⟩:=aoZ iu ar YJ;obtain⟨ab,aH,a8⟩:=amo U YJ;rw[bV] at aK;have e:x=cm m i+(x - cm m i):=AK
   have nf:(b1 m)[x]=(b1 m)[cm m i+(x - cm m i)]:=by congr 1
   injection aK with aK
   rw[aK,nf,aH,a8];exact⟨bw,bS⟩
  .rw[if_neg fs,List.getElem?_eq_getElem gW] at aK;injection aK with aK
   rw[aK];exact ay.cell x gW uW
theorem aa7{n:Nat}{l:C_ Int}{k:Nat}(hk:k+1<n):(rH n l)[k+1]? = some (l.getD k 0):=by
 unfold rH;rw[List.getElem?_cons_succ,List.getElem?_map,List.getElem?_range AK];rfl
theorem aa8{s:C_ Scalar}{c:dB}{l:C_ Int}(iu:1<=c.cap)(aC:(l.length:Int)<=c.cap)(ao:∀x∈l,(eY c.scalar c.aR c.U s).aR<=x/\x<=(eY c.scalar c.aR c.U s).U):lZ s c (rH (1+c.cap.toNat) l):=by
 refine⟨l.length,rfl,AK,aC,fun k hk=>⟨l.getD k 0,aa7 AK,fun jL=>?_,fun jL=>?_⟩⟩
 .have oD:k<l.length:=AK
  have e:l.getD k 0=l[k]:=by simp[oD]
  rw[e];exact ao _ (GR oD)
 .simp[List.getD,List.getElem?_eq_none (show l.length<=k by omega)]
theorem abu{s:C_ Scalar}{c:dB}{l:C_ Int}(aC:l.length=1+c.cap.toNat)(iu:1<=c.cap)(h:lZ s c l):ju l=true/\((jv l).length:Int)<=c.cap/\l.headD 0=(jv l).length/\∀x∈jv l,(eY c.scalar c.aR c.U s).aR<=x/\x<=(eY c.scalar c.aR c.U s).U:=by
 obtain⟨n,af,h1,I,ab⟩:=h;obtain⟨a,r,rfl⟩:∃a r,l=a :: r:=by
  cases l with
  | nil=>simp at aC;omega
  | cons a r=>exact⟨a,r,rfl⟩
 simp only[List.getElem?_cons_zero,Option.some.injEq] at af;subst af;simp only[List.length_cons] at aC;have ar:ju (a :: r)=true:=by
  simp only[ju,Bool.and_eq_true,decide_eq_true_eq,List.all_eq_true];refine⟨⟨h1,AK⟩,fun x ag=>?_⟩;obtain⟨k,hk,rfl⟩:=List.mem_iff_getElem.1 ag;rw[AF7] at hk;rw[AJ7];obtain⟨x,ag,_,bI⟩:=ab (a.toNat+k) AK;rw[List.getElem?_cons_succ,List.getElem?_eq_getElem AK] at ag;injection ag with ag
  rw[ag];exact bI AK
 have U:jv (a :: r)=r.take a.toNat:=by
  unfold jv;rw[if_pos ar];rfl
 rw[U];refine⟨ar,by rw[K9];omega,by rw[K9];simp;omega,fun x ag=>?_⟩;obtain⟨k,hk,rfl⟩:=List.mem_iff_getElem.1 ag;rw[K9] at hk;rw[AI7];obtain⟨x,ag,ao,_⟩:=ab k AK;rw[List.getElem?_cons_succ,List.getElem?_eq_getElem AK] at ag;injection ag with ag
 rw[ag];exact ao AK
theorem aoM{s:C_ Scalar}{c:dB}{l r:C_ Int}{v:Int}(aC:l.length=1+c.cap.toNat)(iu:1<=c.cap)(h:lZ s c l)(aG:(eY c.scalar c.aR c.U s).aR<=v/\v<=(eY c.scalar c.aR c.U s).U)(au:nr l v=some r):lZ s c r:=by
 obtain⟨h1,I,ab,aH⟩:=abu aC iu h;unfold nr at au;split at au
 .rename_i c3;injection au with au
  subst au;rw[aC];refine aa8 iu ?_ fun x ag=>?_
  .have:=c3.2
   rw[ab,aC] at this;rw[Ln,List.length_singleton];omega
  .rcases List.mem_append.1 ag with ag | ag
   .exact aH x ag
   .rw[AG0] at ag;subst ag;exact aG
 .cases au
theorem ara{s:C_ Scalar}{c:dB}{l r:C_ Int}{v:Int}(aC:l.length=1+c.cap.toNat)(iu:1<=c.cap)(h:lZ s c l)(au:p6 l=some (r,v)):lZ s c r:=by
 obtain⟨h1,I,ab,aH⟩:=abu aC iu h;unfold p6 at au;split at au
 .cases au
 .rename_i x q ar;injection au with au
  injection au with bB aJ
  subst bB;rw[aC];rw[ar] at I aH;exact aa8 iu (by simp only[List.length_cons] at I;omega) fun y bV=>aH y (AI2 _ bV)
theorem Lj{m:Model}{s t:C_ Int}{c:Nat}{n:Int}(ay:Fits m s)(aP:c<total (c0 m)\/total (c0 m)+total (dK m)<=c)(h:putAt m s c n=some t):Fits m t:=by
 have e:=Gk h;subst e;refine ahx ay aP fun an=>?_;unfold putAt DN at h;rw[List.getElem?_eq_getElem an] at h;simp only at h;split at h
 .cases h
 .omega
theorem aax{m:Model}{q:Nat}(j:Nat):total (c0 m)+total (dK m)<=dG m q+j:=by unfold dG;omega
theorem Vg{m:Model}(aW:eX m){s t:C_ Int}{q p:Nat}{a:Act}(ar:fY m q p)(aV:n0 (inner (m.procs[p]'(ar.au)) (eR m)) a)(ay:Fits m s)(h:h4 m s q a=some t):Fits m t:=by
 have z1:=aV.kind;unfold h4 at h;by_cases a8:a.kind=5
 .rw[if_pos a8] at h;have an:a.to.toNat<m.aw.length:=(aV.chan (.inr a8)).2;have iu:=(aW.chan _ (GR an)).cap.1;have dY:(chanOf m s a.to.toNat).length=1+m.aw[a.to.toNat].cap.toNat:=by rw[uz (by rw[ay.len];exact nA an),pJ an]
  unfold yM at h;cases au:p6 (chanOf m s a.to.toNat) with
  | none=>rw[au] at h;cases h
  | some Ry =>
   obtain⟨r,n⟩:=Ry;rw[au] at h;have Fh:=ay.queue _ an;have e:chanOf m s a.to.toNat=nC m a.to.toNat m.aw[a.to.toNat] s:=by unfold chanOf nC;rw[pJ an]
   rw[<-e] at Fh;have E7:=LN au;have h1:=W7 ay an iu (by rw[E7,dY,pJ an]) (ara dY iu Fh au);exact Lj h1 (.inr (by rw[AI3];exact aax _)) h
 rw[if_neg a8] at h;by_cases he:(eval a.value (cR m s q)).2≠0
 .rw[if_pos he] at h;cases h
 rw[if_neg he] at h;by_cases h1:a.kind=1
 .rw[if_pos h1] at h;obtain⟨_,v,aG,jb⟩:=aV.set h1;obtain⟨hs,fl⟩:=List.getElem?_eq_some_iff.1 aG;have Fq:a.to.toNat<m.vars.length:=hs;have nL:=rQ Fq
  have:cells m.vars[a.to.toNat] m.scalars=1:=by
   have Fs:m.vars[a.to.toNat]=v:=fl;rw[Fs];unfold cells;rw[if_pos jb]
  exact Lj ay (.inl (by rw[this] at nL;omega)) h
 rw[if_neg h1] at h;by_cases I:a.kind=2
 .rw[if_pos I] at h;have hs:a.to.toNat<m.vars.length:=(aV.item I).2.1;have nL:=rQ hs;have E7:=ss hs;unfold wV at h;split at h
  .cases h
  .rename_i az;exact Lj ay (.inl AK) h
 rw[if_neg I] at h;by_cases ab:a.kind=3
 .rw[if_pos ab] at h;exact Lj ay (.inr (by rw[AI3];exact aax _)) h
 rw[if_neg ab] at h;have aH:a.kind=4:=AK
 have an:a.to.toNat<m.aw.length:=(aV.chan (.inl aH)).2;have iu:=(aW.chan _ (GR an)).cap.1;have dY:(chanOf m s a.to.toNat).length=1+m.aw[a.to.toNat].cap.toNat:=by rw[uz (by rw[ay.len];exact nA an),pJ an]
 have qn:vS m a.to.toNat=eY m.aw[a.to.toNat].scalar m.aw[a.to.toNat].aR m.aw[a.to.toNat].U m.scalars:=by unfold vS;rw[List.getElem?_eq_getElem an]
 unfold vi at h;rw[qn] at h;split at h
 .cases h
 .rename_i az;cases au:nr (chanOf m s a.to.toNat) (eval a.value (cR m s q)).1 with
  | none=>rw[au] at h;cases h
  | some r =>
   rw[au] at h;have e:hR s (cm m a.to.toNat) r=t:=by injection h
   rw[<-e];have Fh:=ay.queue _ an;have aJ:chanOf m s a.to.toNat=nC m a.to.toNat m.aw[a.to.toNat] s:=by unfold chanOf nC;rw[pJ an]
   rw[<-aJ] at Fh;have E7:=Ll au;exact W7 ay an iu (by rw[E7,dY,pJ an]) (aoM dY iu Fh AK au)
end o
end
section
namespace Go.Proofs.R
open Go Go.RowKit ba
theorem DI(v:B_)(l:C_ Int)(n:Int)(w:A_)(aC:oX w v l):DD F.jq #[v,.I n] w fun v w'=>v = .tuple #[.I (o.hZ l n).1,.I (o.hZ l n).2]/\w'=w:=by
 obtain⟨aQ,cap,rfl,hlen⟩:=aC.form;refine br E.jq ?_;refine aA ?_;apply I_<;>intro g1
 .refine aA ?_;rw[o.hZ,o.gX (.inl g1)];exact⟨rfl,trivial⟩
 refine aA ?_;apply I_<;>intro g2
 .refine aA ?_;rw[o.hZ,o.gX (.inr AK)];exact⟨rfl,trivial⟩
 obtain⟨i,rfl⟩:=QA (show 0<=n by omega);obtain⟨a,rfl⟩:=aC.addr;refine aA ?_;rw[o.hZ,o.iM AK AK];simp only[Int.toNat_natCast];exact⟨aL,trivial⟩
theorem arK(l:C_ Int)(aC:l.length<=9223372036854775807)(n:Int)(h:o.ee n):o.nth l (IntKind.i64.wrap (n - 1))=o.nth l (n - 1):=by
 obtain⟨h1,I⟩:=h;by_cases az:n = -9223372036854775808
 .subst az
  have:IntKind.i64.wrap (-9223372036854775808 - 1)=9223372036854775807:=BN
  rw[this,o.gX (.inr AK),o.gX (.inl AK)]
 .rw[IntWalk.i64_in (n - 1) AK]
theorem arN(x:o.Node)(cs:C_ B_)(v:o.Env)(base b:Nat)(w:A_)(m:B_)(st:C_ Int)(ag:x.ok)(h:o.qd w cs v)(hm:qS base b w m st)(ab:x.op=3->0<st.length)(aK:∀z∈st,o.ee z) :
  DD F.IH #[.pointer (some ⟨b,0,none⟩),.agg x.enc.toArray,.agg cs.toArray] w fun u w'=>u = .tuple #[.I (o.ha x v (st.getLastD 0)).1,.I (o.ha x v (st.getLastD 0)).2]/\Ext w w':=by
 obtain⟨a0,bx,db,c1,a2,c2,a3,bu,rfl,pj,cZ,dt,ef,gP,e2,eE,eJ,er⟩:=h.form;refine br E.IH ?_;refine aA ?_;refine O_ fun w1 bw cM ai al=>?_;refine aA ?_;refine O_ fun aD bS dm aj av=>?_;have he:=ai.trans aj;have cE:aD.heap[bw]? = some (.cells #[.I x.op,.I x.n] T.h):=aj.obj al;clear al;refine aA ?_;apply I_<;>intro g1
 .have hk:o.ha x v (st.getLastD 0)=if o.within x.n then (x.n,0) else (0,10):=by rw[o.ha,if_pos g1]
  have aB:(o.tell (· + ·) x.n 0).2=o.within x.n:=by
   unfold o.tell
   have:o.within 0=true:=rfl
   simp only[Int.add_zero,this,Bool.and_true,Bool.and_self];split<;>simp_all
  rw[hk];refine aA ?_;refine J_ (MK x.n 0 aD) ?_;rintro _ aN ⟨rfl,ah⟩;rw[aB];refine aA ?_;refine N_ (fun g2=>?_) (fun g2=>?_)
  all_goals
   refine aA ?_;rw[g2];exact cd
 by_cases aG:x.op=2\/x.op=3
 .have hk:o.ha x v (st.getLastD 0)=(match o.nth v.vars x.n with | some l=>if x.op=2 then o.hZ l 0 else (match o.nth l (st.getLastD 0 - 1) with | some y=>(y,0) | none=>(0,10)) | none=>(0,8)):=by
   rw[o.ha,if_neg g1];split
   .rename_i e;cases o.nth v.vars x.n<;>simp[e]
   .rename_i e;rw[if_pos AK];cases o.nth v.vars x.n with
    | none=>rfl
    | some l=>simp only[e,if_false];cases o.nth l (st.getLastD 0 - 1)<;>rfl
  by_cases uI:x.n<0\/(v.vars.length:Int)<=x.n
  .rw[hk,o.gX uI]
   (repeat' (refine aA ?_;first | (refine I_ (fun _=>?_) (fun _=>?_)<;>try (exfalso;omega)) | refine N_ (fun _=>?_) (fun _=>?_)))<;>try refine aA ?_
   all_goals exact cd
  obtain⟨i,U⟩:=QA (show 0<=x.n by omega);have jX:i<v.vars.length:=AK
  obtain⟨a,rfl⟩:=pj.addr;obtain⟨bL,kl,gu⟩:=pj.at i jX;have az:o.nth v.vars x.n=some v.vars[i]:=by rw[U,o.iM AK AK];simp only[Int.toNat_natCast]
  rw[U] at cE;by_cases g2:x.op=2
  .have cI:o.ha x v (st.getLastD 0)=o.hZ v.vars[i] 0:=by rw[hk,az];simp only[g2,if_true]
   rw[cI];refine aA ?_;refine M_ (he.cell kl) ?_;refine aA ?_;refine J_ (DI _ v.vars[i] 0 aD (gu.ext he)) ?_;rintro _ _ ⟨rfl,rfl⟩;refine aA ?_;exact cd
  .have g3:x.op=3:=AK
   have iL:=ab g3;have nN:o.ha x v (st.getLastD 0)=(match o.nth v.vars[i] (st.getLastD 0 - 1) with | some y=>(y,0) | none=>(0,10)):=by rw[hk,az];simp only[g2,if_false]
   rw[nN];clear nN hk;refine aA ?_;refine M_ (he.cell kl) ?_;refine aA ?_;refine P_ _ (fun w' e=>acP base b w' m st (hm.ext (he.trans e)) iL) ?_;refine aA ?_;refine _l ?_;refine aA ?_;refine P_ _ (fun w' e=>(DI _ v.vars[i] _ w' (gu.ext (he.trans e))).mono fun _ _ ⟨h1,I⟩=>⟨h1,I ▸ Ext.refl _⟩) ?_;refine aA ?_;intro aN ah;have ajT:o.ee (st.getLastD 0):=by rw[Ed _ iL];exact aK _ (GR _)
   obtain⟨cn,ci,rfl,li⟩:=gu.form;have hw:=arK _ li _ ajT;cases ar:o.nth v.vars[i] (IntKind.i64.wrap (st.getLastD 0 - 1)) with
   | none =>
    have bB:o.hZ v.vars[i] (IntKind.i64.wrap (st.getLastD 0 - 1))=(0,8):=by rw[o.hZ,ar]
    rw[bB];refine aA ?_;rw[<-hw,ar];exact cd
   | some y =>
    have bB:o.hZ v.vars[i] (IntKind.i64.wrap (st.getLastD 0 - 1))=(y,0):=by rw[o.hZ,ar]
    rw[bB];refine aA ?_;rw[<-hw,ar];exact cd
 rw[o.ha,if_neg g1,if_neg AK,if_neg AK];refine aA ?_;apply I_<;>intro g4
 .rw[if_pos g4];refine aA ?_;refine J_ (DI _ v.locals x.n aD (dt.ext he)) ?_;rintro _ _ ⟨rfl,rfl⟩;refine aA ?_;exact cd
 rw[if_neg g4];refine aA ?_;apply I_<;>intro g6
 .rw[if_pos g6];refine aA ?_;refine J_ (DI _ v.lens x.n aD (cZ.ext he)) ?_;rintro _ _ ⟨rfl,rfl⟩;refine aA ?_;exact cd
 rw[if_neg g6];refine aA ?_;apply I_<;>intro g5
 .rw[if_pos g5];refine aA ?_;exact cd
 rw[if_neg g5];refine aA ?_;apply I_<;>intro g7;rotate_left
 .rw[if_neg g7];refine aA ?_;exact cd
 rw[if_pos g7];refine aA ?_;apply I_<;>intro g8
 .refine aA ?_;rw[if_neg AK];exact cd
 rw[if_pos AK];obtain⟨i,U⟩:=QA (show 0<=x.n by omega);obtain⟨_,gW⟩:=ag.n;rw[U] at gW;have ar:x.n.tdiv 16=((i / 16:Nat):Int):=by rw[U];rfl
 have akm:x.n.tmod 16=((i % 16:Nat):Int):=by rw[U];rfl
 refine aA ?_;refine _J AK ?_;rw[ar];refine aA ?_;apply I_<;>intro g9
 .refine aA ?_;rw[o.gX (.inr AK)];exact cd
 have aF:i / 16<v.at_.length:=AK
 obtain⟨a,rfl⟩:=ef.addr;obtain⟨bL,kl,gu⟩:=ef.at (i / 16) aF;rw[o.iM AK AK];simp only[Int.toNat_natCast];refine aA ?_;refine _J AK ?_;rw[ar];refine aA ?_;refine M_ (he.cell kl) ?_;refine aA ?_;refine _s AK ?_;refine aA ?_;refine P_ _ (fun w' e=>(DI _ v.at_[i / 16] _ w' (gu.ext (he.trans e))).mono fun _ _ ⟨h1,I⟩=>⟨h1,I ▸ Ext.refl _⟩) ?_;refine aA ?_;intro aN ah;refine aA ?_;exact cd
end Go.Proofs.R
end
section
namespace o
open Go Go.RowKit ba
structure Env.ok(v:Env):Prop where
 vars:∀l∈v.vars,∀z∈l,ee z
 lens:∀z∈v.lens,ee z
 locals:∀z∈v.locals,ee z
 at_:∀l∈v.at_,∀z∈l,ee z
 self:ee v.self
theorem ab1{w:A_}{v:B_}{l:C_ (C_ Int)}(h:vF w v l):∀r∈l,∀z∈r,ee z:=by
 intro r aP;obtain⟨i,U,rfl⟩:=List.mem_iff_getElem.1 aP;obtain⟨aQ,cap,rfl,_⟩:=h.form;obtain⟨a,rfl⟩:=h.addr;obtain⟨bL,_,I⟩:=h.at i U;exact I.ok
theorem qd.ok{w:A_}{cs:C_ B_}{v:Env}(h:qd w cs v):v.ok:=by
 obtain⟨v0,v1,v2,v3,_,af,h1,I,ab,aH⟩:=h.ex;exact⟨ab1 af,h1.ok,I.ok,ab1 ab,aH⟩
theorem AD{α:Type}{l:C_ α}{n:Int}{x:α}(h:nth l n=some x):x∈l:=by
 unfold nth at h;split at h
 .exact List.mem_of_getElem? h
 .cases h
theorem J0:ee 0:=⟨BN,BN⟩
theorem arX{n:Int}(h:within n=true):ee n:=by simp[within] at h;exact⟨AK,AK⟩
theorem arc(f:Int->Int->Int)(a b:Int):ee (tell f a b).1:=by
 unfold tell;split
 .rename_i h;simp only[Bool.and_eq_true] at h;exact arX h.2
 .exact J0
theorem aeK(b:Bool):ee (bit b):=by cases b<;>exact⟨BN,BN⟩
theorem af9{x:Int}{ae:pv}(h:hj x=some ae)(a b:Int):ee (ae.zx a b).1:=by
 unfold hj at h
 repeat' split at h
 all_goals first | (cases h;first | exact arc _ _ _ | exact aeK _) | cases h
theorem LY{l:C_ Int}{n:Int}(h:∀z∈l,ee z):ee (hZ l n).1:=by
 unfold hZ;split
 .rename_i x ag;exact h x (AD ag)
 .exact J0
theorem aha{v:Env}(aG:v.ok){x:Node}{st:C_ Int}(ag:x.ok):ee (jn v x st).1:=by
 unfold jn;split
 .rename_i ae aO;unfold xu;simp only;split
  .exact af9 aO _ _
  .exact J0
 .unfold ha
  (repeat' split)
  all_goals first
   | exact ag.n
   | exact J0
   | exact aG.self
   | exact LY aG.locals
   | exact LY aG.lens
   | (rename_i c3;exact LY (aG.vars _ (AD c3)))
   | (rename_i c3;exact LY (aG.at_ _ (AD c3)))
   | (rename_i h1 _ _ I;exact aG.vars _ (AD h1) _ (AD I))
   | (rename_i I;rename_i h1;exact aG.vars _ (AD h1) _ (AD I))
end o
namespace Go.Proofs.R
open Go Go.RowKit ba
theorem arR(ae:o.pv)(u fm:B_)(l:C_ Int)(w:A_)(aC:Ints w fm l)(af:0<l.length)(bb:xA w u ae.zx) :
  DD F.II #[.agg #[.I ae.parts,.I ae.jO,.I ae.makes,u],fm] w fun v w'=>v = .tuple #[.I (o.xu ae l).1,.I (o.xu ae l).2]/\Ext w w':=by
 obtain⟨aQ,cap,rfl,hlen⟩:=aC.form;refine br E.II ?_;refine aA ?_;refine O_ fun w1 b ao ai al=>?_;obtain⟨a,rfl⟩:=aC.addr af;have nf:Ints w1 (.slice (some a) l.length cap) l:=aC.ext ai;refine aA ?_;refine K_ (l.length - 1) AK AK ?_;refine aA ?_;refine _w _ (fun w' e=>AB8 (bb.ext (ai.trans e)) fun bO aJ=>⟨rfl,aJ⟩) ?_;have ei:l[0]=l.headD 0:=by
  cases l with
  | nil=>simp at af
  | cons z l=>rfl
 rw[ei,<-Ed l af];rw[o.xu];generalize ae.zx (l.headD 0) (l.getLastD 0)=q;refine aA ?_;intro aD aj;refine aA ?_;refine N_ (fun g=>?_) (fun g=>?_)
 all_goals
  refine aA ?_;simp only[g,if_true,Bool.false_eq_true,if_false];exact cd
theorem agH(x:o.Node)(cs:C_ B_)(v:o.Env)(base b pm dd:Nat)(w:A_)(m:B_)(st:C_ Int)(R3:F_)(ag:x.ok)(h:o.qd w cs v)(hm:qS base b w m st)(ab:x.op=3->0<st.length)(aK:∀z∈st,o.ee z)
  (wL:w.heap[pm]? = some (.cells #[.pointer (some ⟨b,0,none⟩)] R3))(tA:w.heap[dd]? = some (.cells cs.toArray T.v)) :
  DD F.f9 #[.agg x.enc.toArray,.pointer (some ⟨pm,0,none⟩),.pointer (some ⟨dd,0,none⟩)] w fun u w' =>
   u = .tuple #[.I (o.ha x v (st.getLastD 0)).1,.I (o.ha x v (st.getLastD 0)).2]/\Ext w w':=by
 obtain⟨v0,v1,v2,v3,rfl,_⟩:=h.ex;refine br E.f9 ?_;refine aA ?_;refine O_ fun w1 bw cM ai al=>?_;have cE:w1.heap[bw]? = some (.cells x.enc.toArray T.h):=al;refine aA ?_;refine R_ (c:=x.enc) cE (Ext.refl _) rfl ?_;refine aA ?_;refine R_ tA ai rfl ?_;refine aA ?_;refine J_ (arN x _ v base b w1 m st ag (h.ext ai) (hm.ext ai) ab aK) ?_;rintro _ aD ⟨rfl,aj⟩;refine aA ?_;exact cd
theorem ahb(v:o.Env):LM (o.jn v) o.xu fun x st=>o.ha x v (st.getLastD 0):=fun _ _=>rfl
theorem agI(gZ:B_)(e:C_ o.Node)(cs:C_ B_)(v:o.Env)(w:A_)(he:o.eS w gZ e)(h:o.qd w cs v) :
  DD F.IF #[gZ,.agg cs.toArray] w fun u w'=>u = .tuple #[.I (o.eval e v).1,.I (o.eval e v).2]/\Ext w w':=by
 have dh:=h.ok;obtain⟨v0,v1,v2,v3,rfl,_⟩:=h.ex;refine br E.IF ?_;refine aA ?_;refine O_ fun w1 dd tA ai al=>?_;refine aA ?_;refine W_ (cs:=[.slice none 0 0,.map none]) (by simp[fa]) ?_;refine aA ?_;refine O_ fun aD b ao aj av=>?_;refine aA ?_;refine O_ fun aN pm wL ah bl=>?_;refine aA ?_;refine _W bl BN rfl fun aU dE bp=>?_;have OC:aU.heap[pm]? = some (.cells #[.pointer (some ⟨b,0,none⟩)] T.db):=bp;have ax:Ext aD aU:=dE.ext ah wL;have akS:=cA av;have Zf:=cA al;have zW:Ext w aU:=(ai.trans aj).trans ax;clear bp dE ah bl;have ff:=ax.obj av;have ly:=ax.obj (aj.obj al);have gz:=ai.size;refine aA ?_;refine J_ (acd (o.jn v) o.xu (fun x st=>o.ha x v (st.getLastD 0)) (ahb v) o.ee b w aU zW AK gZ _ _ e he ff (fun x st ag _ _ _ _=>o.aha dh ag) ?_ ?_) ?_
 .intro x st base m w' ag hm z8 aK cZ dt ef Sb cT t iy hk;refine V_ (first:=[]) (cap:=[.pointer (some ⟨pm,0,none⟩),.pointer (some ⟨dd,0,none⟩)]) Ct
   (agH x _ v base b pm dd Sb m st _ ag (h.ext ((hm.ext zW (by intro k hk e;omega)).trans iy)) (z8.ext iy) ?_ aK (iy.obj (hm.obj AK OC)) (iy.obj (hm.obj AK ly))) fun v bO ⟨h1,I⟩=>by subst h1;exact hk bO I
  intro ab
  have:o.fI x.op=1:=by rw[ab];rfl
  omega
 .rintro ae eF fm l w' cT t hm ⟨u,rfl,bb⟩ ⟨x,ag⟩ aC U hk;exact _e (first:=[]) (cap:=[]) Ct (arR ae u fm l w' U (by have:=QR ag;omega) bb) fun v bO ⟨h1,I⟩=>by subst h1;exact hk bO I
 rintro _ bt ⟨rfl,lM⟩;have aI:Ext w bt:=lM.ext zW (by intro k hk e;omega);refine aA ?_;exact cd
end Go.Proofs.R
end