/- Parts. -/
import Derived.Test.YtakmdjclehkglaaGreatDoorQasf
set_option linter.all false
set_option maxRecDepth 100000
set_option maxHeartbeats 6400000
section
namespace o
open Go Go.RowKit ba
structure Scope.cK(s:Scope):Prop where
 scalars:ew s.scalars.length 24
 vars:ew s.vars.length 56
 aw:ew s.aw.length 56
 procs:ew s.procs.length 80
 locals:ew s.locals.length 56
 proc:∀a∈s.procs,a.cK
 self:ee s.self
theorem Model.cK.scope{m:Model}(h:m.cK):(eR m).cK:=⟨h.scalars,h.vars,h.aw,h.procs,by simp[eR,ew],h.proc,by simp[eR,ee]⟩
theorem Scope.cK.inner{s:Scope}{p:dJ}(h:s.cK)(au:p.cK):(inner p s).cK:=⟨h.scalars,h.vars,h.aw,h.procs,au.vars,h.proc,au.over⟩
theorem Scope.cK.rM{s:Scope}(h:s.cK):(s.vars.length<=1152921504606846976/\s.aw.length<=1152921504606846976/\s.procs.length<=1152921504606846976/\s.locals.length<=1152921504606846976/\ee s.self)/\s.scalars.length<=4611686018427387904:=by
 have af:=h.scalars;have h1:=h.vars;have I:=h.aw;have ab:=h.procs;have aH:=h.locals;unfold ew at af h1 I ab aH;exact⟨⟨AK,AK,AK,AK,h.self⟩,AK⟩
end o
namespace Go.Proofs.R
open Go Go.RowKit ba
theorem QM(v:B_)(xs:C_ o.Node)(w:A_)(h:o.eS w v xs)(ao:o.ew xs.length 16) :
  DD F.eZ #[v] w fun b0 w'=>(∃aQ c,b0 = .slice aQ xs.length c)/\ey w (fun w=>o.eS w b0 xs) w'/\Ext w w' :=
 HT lN E.eZ Ct (fun h=>h) v xs w h (by unfold o.ew at ao;omega)
theorem Sa(v:B_)(xs:C_ o.Var)(w:A_)(h:o.h3 w v xs)(ao:o.ew xs.length 56) :
  DD F.fn #[v] w fun b0 w'=>(∃aQ c,b0 = .slice aQ xs.length c)/\ey w (fun w=>o.h3 w b0 xs) w'/\Ext w w' :=
 HT lN E.fn Ct (fun h=>h) v xs w h (by unfold o.ew at ao;omega)
theorem aqi(v:B_)(xs:C_ o.Scalar)(w:A_)(h:o.ih w v xs)(ao:o.ew xs.length 24) :
  DD F.Eb #[v] w fun b0 w'=>(∃aQ c,b0 = .slice aQ xs.length c)/\ey w (fun w=>o.ih w b0 xs) w'/\Ext w w' :=
 HT lN E.Eb Ct (fun h=>h) v xs w h (by unfold o.ew at ao;omega)
theorem afA(v:B_)(xs:C_ o.dB)(w:A_)(h:o.mT w v xs)(ao:o.ew xs.length 56) :
  DD F.Ec #[v] w fun b0 w'=>(∃aQ c,b0 = .slice aQ xs.length c)/\ey w (fun w=>o.mT w b0 xs) w'/\Ext w w' :=
 HT lN E.Ec Ct (fun h=>h) v xs w h (by unfold o.ew at ao;omega)
abbrev gA:=H_ Addr×Nat×Nat
theorem afP(v:B_)(l:C_ o.ea)(w:A_)(h:o.rV w v l)(ao:o.ew l.length 88)(aK:∀c∈l,c.cK) :
  DD F.Iw #[v] w fun b0 w'=>(∃aQ c,b0 = .slice aQ l.length c)/\ey w (fun w=>o.rV w b0 l) w'/\Ext w w':=by
 obtain⟨bR,c1,rfl,bw⟩:=h.form;refine br E.Iw ?_;refine aa ?_;refine L_ 11 l.length [9,10] (fun v:gA=>[(3,.slice v.1 v.2.1 v.2.2)]) (none,0,0) (fun k v w'=>Ext w w'/\eP o.A4 T.m 6 w.heap.size w' (.slice v.1 v.2.1 v.2.2) (l.take k)) bc bc ⟨Ext.refl _,by simpa using eP.nil _ _ _ _ _⟩ ?_;rintro k v S w1 hk ⟨ai,pb⟩;refine aa ?_;apply I_<;>intro g1
 .have a1:k<l.length:=AK
  have O8:=aK l[k] (GR _);obtain⟨a,rfl⟩:=h.addr;obtain⟨ak,fq,dH,an,yt,wP⟩:=h.at k a1;obtain⟨_,_,rfl,_⟩:=yt.form;obtain⟨aQ,eZ,rfl,aeL⟩:=wP.form;refine aa ?_;intro aD bS dm aj av;have E4:=cA av;refine aa ?_;refine J_ (QM _ _ aD (yt.ext (ai.trans aj)) O8.guard) ?_;rintro _ aU ⟨⟨gw,fS,rfl⟩,nQ,ax⟩;have bp:=ax.obj av;have lr:=aj.trans ax;refine aa ?_;intro bt fg b9;have qu:=fg.ext lr dm;have aI:=ai.trans qu;have Ps:=nQ.wr fg E4;have aka:=cA b9;refine aa ?_;refine L_ 22 l[k].bQ.length [3,5,9,10,11,20,21] (fun v:gA=>[(6,.slice v.1 v.2.1 v.2.2)]) (none,0,0) (fun j v w'=>Ext bt w'/\eP o.C8 T.y 5 bt.heap.size w' (.slice v.1 v.2.1 v.2.2) (l[k].bQ.take j)) bc bc ⟨Ext.refl _,by simpa using eP.nil _ _ _ _ _⟩ ?_;rintro j LW S bz aF ⟨aM,dn⟩;have cb:=aM.obj b9;refine aa ?_;apply I_<;>intro g2
  .have ek:j<l[k].bQ.length:=AK
   have YC:=O8.act l[k].bQ[j] (GR _);obtain⟨a2,rfl⟩:=wP.addr;obtain⟨bL,b2,rh,eV,qG⟩:=wP.at j ek;obtain⟨_,_,rfl,_⟩:=eV.form;obtain⟨_,_,rfl,_⟩:=qG.form;have wA:=aI.trans aM;refine aa ?_;intro bK hp ir bq ct;have Jr:=wA.trans bq;have atT:=cA ct;refine aa ?_;intro c4 bG;have cG:=bG.obj ct;have Js:=Jr.trans bG;refine aa ?_;refine J_ (QM _ _ c4 (eV.ext Js) YC.index) ?_;rintro _ c6 ⟨⟨cn,ci,rfl⟩,JG,b5⟩;refine⟨b5,?_⟩;have dD:=b5.obj cG;have ajD:=Js.trans b5;refine aa ?_;refine J_ (QM _ _ c6 (qG.ext ajD) YC.value) ?_;rintro _ eO ⟨⟨Q1,dk,rfl⟩,ru,cr⟩;have kk:=cr.obj dD;have JX:=JG.ext cr b5.size;refine aa ?_;intro gy iz iW;refine aa ?_;intro ji lP iX;refine aa ?_;intro mR uw I8 hL jK;have YR:=cA cG;have YS:=cA dD;have Me:=b5.size;have Sp:=cr.size;have Md:=iz.size;have adq:=lP.size;have alv:=((JX.wr iz YR).wr lP YR).ext hL AK;have alC:=((ru.wr iz YS).wr lP YS).ext hL AK;have agf:=((bq.trans bG).trans b5).trans cr;have Wz:=(lP.ext (iz.ext agf ir) ir).trans hL;have Sm:=(bq.trans bG).size;have Wy:=aM.trans Wz;have abV:=dn.ext Wz;have ar:=Rz ek O8.bQ aeL;refine aa ?_;refine _I (x:=l[k].bQ[j]) (cs:=l[k].bQ[j].enc (.slice cn l[k].bQ[j].index.length ci) (.slice Q1 l[k].bQ[j].value.length dk)) abV (gT jK)
    (ey.own (((alv.low Sm).and (alC.low AK)).imp fun w h=>⟨_,_,rfl,h.1,h.2⟩) dn aM.size) rfl (by simp[o.Act.enc,Value.oneCell']) ar.1 ar.2 Wy.size fun b0 w' aP Cb=>?_
   obtain⟨kY,pI,rfl,_⟩:=aP.form;refine aa ?_;exact⟨ek,aL,(kY,_,pI),bc,abV.ln Wy Cb (GA _),aP.snoc ek⟩
  .have tt:=dn.done AK;have Of:ey bt (fun w=>o.lX w (.slice LW.1 LW.2.1 LW.2.2) l[k].bQ) bz:=tt.new;obtain⟨qK,s9,cv,_⟩:=Of.here.form;rw[cv] at Of;refine aa ?_;intro bK dL ct;refine aa ?_;intro c4 iI ov bG cG;have z25:aD.heap.size<=bt.heap.size:=by have:=ax.size;have:=fg.size;omega
   have A0:=aM.size;have z67:=dL.size;have alw:=((Ps.ext aM z25).wr dL E4).ext bG AK;have alE:=(Of.wr dL aka).ext bG AK;have Ww:=(dL.ext (qu.trans aM) dm).trans bG;have Wq:=ai.trans Ww;have abW:=pb.ext Ww;have z12:=aj.size;have ar:=Rz a1 ao bw;refine aa ?_;refine _I (x:=l[k]) (cs:=l[k].enc (.slice gw l[k].guard.length fS) (.slice qK l[k].bQ.length s9)) abW (by have:=gT cG;rw[cv] at this;exact this)
    (ey.own (((alw.low z12).and (alE.low qu.size)).imp fun w h=>⟨ak,_,_,rfl,h.1,h.2⟩) pb ai.size) rfl (by simp[o.ea.enc,Value.oneCell']) ar.1 ar.2 Wq.size fun b0 w' aP Cb=>?_
   obtain⟨kY,pI,rfl,_⟩:=aP.form;refine aa ?_;exact⟨a1,aL,(kY,_,pI),bc,abW.ln Wq Cb (GA _),aP.snoc a1⟩
 .refine aa ?_;have tt:=pb.done AK;have fM:ey w (fun w=>o.rV w (.slice v.1 v.2.1 v.2.2) l) w1:=tt.new;obtain⟨qK,s9,cv,_⟩:=fM.here.form;exact⟨⟨qK,s9,cv⟩,fM,ai⟩
end Go.Proofs.R
namespace Go.Proofs.R
open Go Go.RowKit ba
theorem ZE(p:o.dJ)(b6 bR bX bZ ca eF oJ:H_ Addr)(hV kX j5 pY tP yF QL bx c1 c2 bu bC fB lb:Nat)(n:Int)(w:A_) :
  DD F.my #[.agg (p.enc (.slice eF yF fB) (.slice oJ QL lb)).toArray,.agg #[.slice b6 hV bx,.slice bR kX c1,.slice bX j5 c2,.slice bZ pY bu,.slice ca tP bC,.I n]] w fun v w' =>
   v = .agg #[.slice b6 hV bx,.slice bR kX c1,.slice bX j5 c2,.slice bZ pY bu,.slice eF yF fB,.I p.over]/\Ext w w':=by
 refine br E.my ?_;simp -dsimp only[cB];refine eb ?_;intro w1 bw cM ai al;refine eb ?_;intro aD bS dm aj av;refine eb ?_;intro aN bW fe ah bl;refine eb ?_;have dt:bS≠bw:=by have:=cA al;omega
 have ef:bW≠bS:=by have:=cA av;omega
 refine S_ [2,3,4] (fun _=>[]) (fun(_:Unit) w'=>(Ext w w'/\aN.heap.size<=w'.heap.size)/\w'.heap[bS]? = some (.cells #[.slice b6 hV bx,.slice bR kX c1,.slice bX j5 c2,.slice bZ pY bu,.slice eF yF fB,.I p.over] T.w)/\w'.heap[bW]? = aN.heap[bW]?) ?_ ?_
 .refine aa ?_;intro aU ax;have al:=((aj.trans ah).trans ax).obj al;have av:=(ah.trans ax).obj av;have bl:=ax.obj bl;have qt:=((ai.trans aj).trans ah).trans ax;have avy:=ai.size;have C7:=ax.size;have fin:∀bt bz,dy bS aU bt->dy bS bt bz->bz.heap[bS]? = some (.cells #[.slice b6 hV bx,.slice bR kX c1,.slice bX j5 c2,.slice bZ pY bu,.slice eF yF fB,.I p.over] T.w) ->
    (Ext w bz/\aN.heap.size<=bz.heap.size)/\bz.heap[bS]? = some (.cells #[.slice b6 hV bx,.slice bR kX c1,.slice bX j5 c2,.slice bZ pY bu,.slice eF yF fB,.I p.over] T.w)/\bz.heap[bW]? = aN.heap[bW]? := fun bt bz a b c=>by
   have:=a.size
   have:=b.size
   refine⟨⟨b.ext (a.ext qt AK) AK,AK⟩,c,?_⟩;rw[b.block bW ef,a.block bW ef,bl]
   symm
   assumption
  refine aa ?_;refine⟨?_,?_⟩
  .refine aa ?_;refine⟨?_,?_⟩
   .refine aa ?_;intro bt fg b9;refine aa ?_;intro bz gV cb;refine aa ?_;exact⟨(),trivial,fin bt bz fg gV cb⟩
   .refine aa ?_;intro bt fg b9;have al:=fg.obj al (Ne.symm dt);refine aa ?_;intro bz gV cb;refine aa ?_;exact⟨(),trivial,fin bt bz fg gV cb⟩
  .refine aa ?_;intro bt fg b9;refine aa ?_;intro bz gV cb;refine aa ?_;exact⟨(),trivial,fin bt bz fg gV cb⟩
 rintro _ S aU ⟨⟨ax,z4⟩,bp,OV⟩;rw[bl] at OV;have cg:=cA bl;refine aa ?_;intro bt fg b9;refine aa ?_;exact⟨aL,fg.ext ax (by have:=ai.size;have:=aj.size;omega)⟩
theorem afU(cs:C_ B_)(s:o.Scope)(w:A_)(h:o.fZ w cs s)(aK:s.cK) :
  DD F.pN #[.agg cs.toArray] w fun v w'=>(∃il,v = .agg il.toArray/\ey w (fun w=>o.fZ w il s) w')/\Ext w w':=by
 have uU:=aK.rM;obtain⟨b6,bx,bR,c1,bX,c2,bZ,bu,ca,bC,rfl,af,h1,I,ab,aH,_,eE,eJ,er,eH⟩:=h.form;refine br E.pN ?_;refine aa ?_;intro w1 bw cM ai al;refine aa ?_;intro aD bS dm aj av;have tq:bS≠bw:=by have:=cA al;omega
 refine aa ?_;intro aN ah;have vY:=(ai.trans aj).trans ah;have al:=(aj.trans ah).obj al;have av:=ah.obj av;have E3:=cA al;have E4:=cA av;refine aa ?_;refine J_ (aqi _ _ aN (af.ext vY) aK.scalars) ?_;rintro _ aU ⟨⟨mj,GV,rfl⟩,hV,ax⟩;refine⟨ax,?_⟩;refine aa ?_;refine J_ (Sa _ _ aU (h1.ext (vY.trans ax)) aK.vars) ?_;rintro _ bt ⟨⟨ka,ks,rfl⟩,kX,aI⟩;refine⟨ax.trans aI,?_⟩;refine aa ?_;refine J_ (afA _ _ bt (I.ext ((vY.trans ax).trans aI)) aK.aw) ?_;rintro _ bz ⟨⟨k3,jE,rfl⟩,j5,aM⟩;have al:=((ax.trans aI).trans aM).obj al;have av:=((ax.trans aI).trans aM).obj av;have x5:=((vY.trans ax).trans aI).trans aM;have n36:=(hV.ext (aI.trans aM) ax.size).and (((kX.ext aM aI.size).low ax.size).and (j5.low (ax.trans aI).size));refine aa ?_;intro bK dL ct;refine aa ?_;intro c4 jc cG;refine aa ?_;intro c6 hQ dD;have Wr:=hQ.ext (jc.ext (dL.ext x5 cM) cM) cM;have n39:=((n36.wr dL E3).wr jc E3).wr hQ E3;have z36:=((ax.trans aI).trans aM).size;have avE:c6.heap.size=bz.heap.size:=by rw[hQ.size,jc.size,dL.size]
 have av:=hQ.obj (jc.obj (dL.obj av tq) tq) tq;refine aa ?_;refine J_ (Sa _ _ c6 (aH.ext Wr) aK.locals) ?_;rintro _ eO ⟨⟨oQ,C5,rfl⟩,tP,cr⟩;have kk:=cr.obj dD;have av:=cr.obj av;refine aa ?_;intro gy iz iW;have av:=iz.obj av tq;have Wo:=iz.ext (Wr.trans cr) cM;have Sp:=cr.size;have Md:=iz.size;have n311:=((n39.ext cr AK).wr iz E3).and ((tP.wr iz (cA dD)).low (w0:=aN) AK);have aj8:=cA iW;refine aa ?_;refine L_ 25 s.procs.length [1,2,23,24] (fun v:gA=>[(3,.slice v.1 v.2.1 v.2.2)]) (none,0,0) (fun k v w'=>Ext gy w'/\eP o.xK T.l 5 gy.heap.size w' (.slice v.1 v.2.1 v.2.2) (s.procs.take k)) bc bc ⟨Ext.refl _,by simpa using eP.nil _ _ _ _ _⟩ ?_;rintro k v S ji hk ⟨fb,Pw⟩;have iX:=fb.obj iW;refine aa ?_;apply I_<;>intro g1
 .have a1:k<s.procs.length:=AK
  have Pa:=aK.proc s.procs[k] (GR _);obtain⟨a,rfl⟩:=ab.addr;obtain⟨ak,b2,dV,dP,e7,fy⟩:=ab.at k a1;obtain⟨_,_,rfl,_⟩:=e7.form;obtain⟨_,_,rfl,_⟩:=fy.form;have Wp:=Wo.trans fb;refine aa ?_;intro oO zl Ja zV Jh;have agc:=Wp.trans zV;refine aa ?_;refine J_ (Sa _ _ oO (e7.ext agc) Pa.vars) ?_;rintro _ AV ⟨⟨eF,fB,rfl⟩,yF,rk⟩;have uM:=rk.obj Jh;refine aa ?_;intro C2 P6 X6;have Nz:=P6.ext (zV.trans rk) Ja;have agd:=Wp.trans Nz;refine aa ?_;refine J_ (afP _ _ C2 (fy.ext agd) Pa.cQ Pa.cmd) ?_;rintro _ avr ⟨⟨oJ,lb,rfl⟩,QL,Jv⟩;have atz:=Jv.obj X6;refine aa ?_;intro avs JU dX;have age:=JU.ext (Nz.trans Jv) Ja;refine aa ?_;intro avt asF atp O0 aji;have Wu:=age.trans O0;have ads:=cA Jh;have avM:=rk.size;have avN:=P6.size;have avO:=Jv.size;have avP:=JU.size;have anu:=(((yF.wr P6 ads).ext Jv AK).wr JU ads).ext O0 AK;have anb:=(QL.wr JU (cA X6)).ext O0 AK;have abX:=Pw.ext Wu;have ar:=Rz a1 aK.procs er;have Wt:=fb.trans Wu;refine aa ?_;refine _I (x:=s.procs[k]) (cs:=s.procs[k].enc (.slice eF s.procs[k].vars.length fB) (.slice oJ s.procs[k].cQ.length lb)) abX (gT aji)
   (ey.own (((anu.low zV.size).and (anb.low Nz.size)).imp fun w h=>⟨ak,_,_,rfl,h.1,h.2⟩) Pw fb.size) rfl (by simp[o.dJ.enc,Value.oneCell']) ar.1 ar.2 Wt.size fun b0 w' aP Cb=>?_
  obtain⟨kY,pI,rfl,_⟩:=aP.form;refine aa ?_;exact⟨a1,aL,(kY,_,pI),bc,abX.ln Wt Cb (GA _),aP.snoc a1⟩
 .have tt:=Pw.done AK;have fM:ey gy (fun w=>o.qV w (.slice v.1 v.2.1 v.2.2) s.procs) ji:=tt.new;obtain⟨qK,s9,cv,_⟩:=fM.here.form;rw[cv] at fM;have av:=fb.obj av;refine aa ?_;intro mR kq jK;have av:=kq.obj av tq;refine aa ?_;intro vn yu ox;have adq:=fb.size;have n14:=(((n311.ext fb AK).wr kq E3).wr yu E4).and (((fM.wr kq aj8).wr yu (AH4 E4 AK)).low (w0:=aN) AK);have z12:=ai.size;have ei:=yu.ext (kq.ext (Wo.trans fb) cM) AK;refine aa ?_;refine⟨⟨[.slice mj s.scalars.length GV,.slice ka s.vars.length ks,.slice k3 s.aw.length jE,.slice qK s.procs.length s9,.slice oQ s.locals.length C5,.I s.self],?_,
   (n14.low vY.size).imp fun w h=>⟨uU.1,_,_,_,_,_,rfl,h.1.1.1,h.1.1.2.1,h.1.1.2.2,h.2,h.1.2,uU.2⟩⟩,ei⟩
  rw[cv]
  first | trivial | rfl
end Go.Proofs.R
end
section
namespace o
open Go Go.RowKit ba
theorem eh.form{w:A_}{cs:C_ B_}{m:Model}(h:eh w cs m):∃a0 bx db c1 a2 c2 a3 bu a4 bC,cs=[.slice a0 m.scalars.length bx,.slice db m.vars.length c1,.slice a2 m.aw.length c2,.slice a3 m.procs.length bu,.slice a4 m.props.length bC] /\
  ih w (.slice a0 m.scalars.length bx) m.scalars/\h3 w (.slice db m.vars.length c1) m.vars/\mT w (.slice a2 m.aw.length c2) m.aw/\qV w (.slice a3 m.procs.length bu) m.procs/\Bf w (.slice a4 m.props.length bC) m.props /\
  m.scalars.length<=9223372036854775807/\m.vars.length<=9223372036854775807/\m.aw.length<=9223372036854775807/\m.procs.length<=9223372036854775807/\m.props.length<=9223372036854775807:=by
 obtain⟨v0,v1,v2,v3,v4,rfl,af,h1,I,ab,aH⟩:=h.ex;obtain⟨a0,bx,rfl,e2⟩:=af.form;obtain⟨db,c1,rfl,eE⟩:=h1.form;obtain⟨a2,c2,rfl,eJ⟩:=I.form;obtain⟨a3,bu,rfl,er⟩:=ab.form;obtain⟨a4,bC,rfl,eH⟩:=aH.form;exact⟨a0,bx,db,c1,a2,c2,a3,bu,a4,bC,rfl,af,h1,I,ab,aH,e2,eE,eJ,er,eH⟩
theorem abk{m:Model}{k:Nat}(h:k<m.procs.length):ht m (k:Int)=inner m.procs[k] (eR m):=by
 unfold ht;rw[iM AK AK];simp
theorem Li{m:Model}{i:Int}(h:i<0\/(m.procs.length:Int)<=i):ht m i=eR m:=by
 unfold ht;rw[gX h]
theorem Model.cK.ht{m:Model}(h:m.cK)(i:Int):(ht m i).cK:=by
 unfold o.ht;cases az:nth m.procs i with
 | none=>exact h.scope
 | some p =>
  refine h.scope.inner (h.proc p ?_);unfold nth at az;by_cases af:0<=i
  .rw[if_pos af] at az;exact List.mem_of_getElem? az
  .rw[if_neg af] at az;cases az
end o
namespace Go.Proofs.R
open Go Go.RowKit ba
theorem acm(cs:C_ B_)(m:o.Model)(i:Int)(w:A_)(h:o.eh w cs m)(aK:m.cK) :
  DD F.DP #[.agg cs.toArray,.I i] w fun v w'=>(∃il,v = .agg il.toArray/\ey w (fun w=>o.fZ w il (o.ht m i)) w')/\Ext w w':=by
 obtain⟨b6,bx,bR,c1,bX,c2,bZ,bu,ca,bC,rfl,af,h1,I,ab,aH,e2,eE,eJ,er,eH⟩:=h.form;have uU:=aK.scope.rM;refine br E.DP ?_;simp -dsimp only[cB];refine eb ?_;intro w1 bw cM ai al;refine eb ?_;intro aD bS dm aj av;simp -dsimp only[cB];refine eb ?_;intro aN bW fe ah bl;refine eb ?_;have De:∀{w':A_},Ext aN w'->Ext w w':=fun e=>((ai.trans aj).trans ah).trans e;have cc:∀w',Ext w w'->o.fZ w' [.slice b6 m.scalars.length bx,.slice bR m.vars.length c1,.slice bX m.aw.length c2,.slice bZ m.procs.length bu,.slice none 0 0,.I 0] (o.eR m):=fun w' e =>
  ⟨uU.1,_,_,_,_,_,rfl,af.ext e,h1.ext e,I.ext e,ab.ext e,bn.nil,uU.2⟩
 refine S_ [2,4,5] (fun _=>[]) (fun(x:C_ B_) w'=>Ext w w'/\Ext aD w'/\w'.heap[bW]? = some (.cells x.toArray T.w)/\o.fZ w' x (o.ht m i)) ?_ ?_
 .refine aa ?_;apply I_<;>intro g1;rotate_left
  .refine aa ?_;exact⟨_,trivial,De (Ext.refl _),ah,bl,by rw[o.Li (.inl AK)];exact cc _ (De (Ext.refl _))⟩
  refine aa ?_;apply I_<;>intro g2;rotate_left
  .refine aa ?_;exact⟨_,trivial,De (Ext.refl _),ah,bl,by rw[o.Li (.inr AK)];exact cc _ (De (Ext.refl _))⟩
  obtain⟨k,rfl⟩:=QA (show 0<=i by omega);have hk:k<m.procs.length:=AK
  obtain⟨a,rfl⟩:=ab.addr;obtain⟨ak,b2,dV,dP,e7,fy⟩:=ab.at k hk;obtain⟨eF,fB,rfl,_⟩:=e7.form;obtain⟨_,_,rfl,_⟩:=fy.form;refine aa ?_;intro aU ax;have bp:=ax.obj bl;refine aa ?_;refine J_ (ZE m.procs[k] _ _ _ _ _ _ _ _ _ _ _ _ _ _ _ _ _ _ _ _ _ _ aU) ?_;rintro _ bt ⟨rfl,aI⟩;have b9:=aI.obj bp;refine aa ?_;intro bz gV cb;refine aa ?_;have x5:=gV.ext (De (ax.trans aI)) (by have:=ai.size;have:=aj.size;omega);exact⟨_,trivial,x5,gV.ext ((ah.trans ax).trans aI) fe,cb,by
   rw[o.abk hk];exact⟨(aK.scope.inner (aK.proc _ (GR hk))).rM.1,_,_,_,_,_,rfl,af.ext x5,h1.ext x5,I.ext x5,ab.ext x5,e7.ext x5,uU.2⟩⟩
 rintro x S aU ⟨D0,Ie,bp,ag⟩;have av:=Ie.obj av;refine aa ?_;refine Z_ (gT bp) ?_ ?_
 .obtain⟨_,_,_,_,_,rfl,_⟩:=ag.ex;rfl
 refine aa ?_;refine J_ (afU _ _ aU ag (aK.ht i)) ?_;rintro _ bt ⟨⟨il,rfl,az⟩,aI⟩;have b9:=aI.obj av;obtain⟨GV,d0,ks,d1,jE,d2,rR,d3,C5,d4,rfl,_⟩:=az.here.form;refine aa ?_;intro bz gV cb;refine aa ?_
 have:=cA av
 exact⟨⟨_,rfl,(az.wr gV this).low D0.size⟩,gV.ext (D0.trans aI) (by have:=ai.size;omega)⟩
theorem apD{w0:A_}(cs:C_ B_)(m:o.Model)(i:Int)(w:A_)(h:o.eh w0 cs m)(ei:Ext w0 w)(aK:m.cK) :
  DD F.FU #[.agg cs.toArray,.I i] w fun v w'=>(∃il,v = .agg il.toArray/\∀bO,Ext w0 bO->o.fZ bO il (o.ht m i))/\Ext w w':=by
 obtain⟨b6,bx,bR,c1,bX,c2,bZ,bu,ca,bC,rfl,af,h1,I,ab,aH,e2,eE,eJ,er,eH⟩:=h.form;have uU:=aK.scope.rM;refine br E.FU ?_;refine aa ?_;intro w1 bw cM ai al;refine aa ?_;intro aD bS dm aj av;have Mi:∀{w':A_},Ext aD w'->Ext w w':=fun e=>(ai.trans aj).trans e;have z7:∀{w':A_},i<0\/(m.procs.length:Int)<=i->Ext w0 w'->o.fZ w' [.slice b6 m.scalars.length bx,.slice bR m.vars.length c1,.slice bX m.aw.length c2,.slice bZ m.procs.length bu,.slice none 0 0,.I 0] (o.ht m i):=fun {w'} U e=>by
  rw[o.Li U];exact⟨uU.1,_,_,_,_,_,rfl,af.ext e,h1.ext e,I.ext e,ab.ext e,bn.nil,uU.2⟩
 refine aa ?_;apply I_<;>intro g1
 .refine aa ?_;intro aN gg bl;have vY:=gg.ext (Mi (Ext.refl _)) (by have:=ai.size;omega);refine aa ?_;exact⟨⟨_,rfl,fun bO e=>z7 (.inl g1) e⟩,vY⟩
 refine aa ?_;apply I_<;>intro g2
 .refine aa ?_;intro aN gg bl;have vY:=gg.ext (Mi (Ext.refl _)) (by have:=ai.size;omega);refine aa ?_;exact⟨⟨_,rfl,fun bO e=>z7 (.inr g2) e⟩,vY⟩
 obtain⟨k,rfl⟩:=QA (show 0<=i by omega);have hk:k<m.procs.length:=AK
 obtain⟨a,rfl⟩:=ab.addr;obtain⟨ak,b2,dV,dP,e7,fy⟩:=ab.at k hk;obtain⟨eF,fB,rfl,_⟩:=e7.form;obtain⟨_,_,rfl,_⟩:=fy.form;refine aa ?_;intro aN bW fe ah bl;have av:=ah.obj av;refine aa ?_;intro aU dE bp;have D0:=dE.ext (Mi ah) (by have:=ai.size;omega);refine aa ?_;exact⟨⟨_,rfl,fun bO e=>by
  rw[o.abk hk];exact⟨(aK.scope.inner (aK.proc _ (GR hk))).rM.1,_,_,_,_,_,rfl,af.ext e,h1.ext e,I.ext e,ab.ext e,e7.ext e,uU.2⟩⟩,D0⟩
abbrev l0:=H_ Addr×Nat×Nat
def Lz(x:l0):B_:=.slice x.1 x.2.1 x.2.2
def encS(x:ByteArray):C_ B_:=[.string x]
theorem agt(y:ByteArray):∀u∈encS y,u.oneCell'=true:=by
 intro u hu;simp only[encS,List.mem_cons,List.not_mem_nil,or_false] at hu;subst hu;rfl
abbrev Be(base:Nat)(w:A_)(v:l0)(b7:C_ ByteArray):Prop:=aS encS T.p 1 base w (Lz v) b7
structure adG(m:o.Model):Prop where
 s:m.scalars.length<=20
 v:m.vars.length<=20
 c:m.aw.length<=20
 p:m.procs.length<=20
 q:m.props.length<=20
 i:∀(j:Nat) (h:j<m.procs.length),m.procs[j].vars.length<=20/\m.procs[j].cQ.length<=20
structure kv(w w':World)(bw:Nat)(cs:List Value)(v:l0)(b7:List ByteArray):Prop where
 ext:Ext w w'
 h1:w'.heap[bw]? = some (.cells cs.toArray T.d)
 own:Be w.heap.size w' v b7
theorem kv.then{w w' bO:A_}{bw:Nat}{cs:C_ B_}{v:l0}{b7:C_ ByteArray}(h:kv w w' bw cs v b7)(he:Ext w' bO):kv w bO bw cs v b7:=⟨h.ext.trans he,he.obj h.h1,h.own.ext he⟩
theorem kv.grown{w w' bO:A_}{bw:Nat}{cs:C_ B_}{v b0:l0}{b7 oL:C_ ByteArray}(h:kv w w' bw cs v b7)(aK:w'.grownBy bO (Lz v).ownBlock)(aO:Be w.heap.size bO b0 oL):kv w bO bw cs b0 oL:=by
 refine⟨Ext.grown h.ext aK fun k hk=>(h.own.lt k hk).1,?_,aO⟩;rw[aK.block bw (cA h.h1) fun e'=>?_]
 .exact h.h1
 rcases h.own.2 with ⟨e,_⟩ | ⟨g,cap,c2,e,_,B9,_⟩
 .rw[e] at e';cases e'
 .rw[e] at e';simp only[Value.ownBlock,Option.some.injEq] at e';subst e'
  have:=h.h1.symm.trans B9
  injection this with this
  injection this with _ this
  revert this;decide
theorem kv.jB{w w':A_}{bw:Nat}{cs:C_ B_}{v:l0}{b7 oL:C_ ByteArray}(h:kv w w' bw cs v b7)(e:b7=oL):kv w w' bw cs v oL:=e ▸ h
theorem CW{α β:Type}(f:α->β)(pre:C_ β)(l:C_ α)(k:Nat)(h:k<l.length):pre++(l.take k).map f++[f l[k]]=pre++(l.take (k+1)).map f:=by
 rw[Ly h,AF4,<-Vq];rfl
end Go.Proofs.R
end
section
namespace o
def cS(q p i:Int)(len:Nat):Nat:=if q<p then (if q+1<p then len else min len i.toNat) else 0
def ie(p i:Int)(len:Nat):Nat:=if 4<p then min len i.toNat else 0
def vI(m:Model)(p i:Int):C_ ByteArray :=
 m.scalars.map (·.name)++(m.vars.take (cS 1 p i m.vars.length)).map (·.name)++(m.aw.take (cS 2 p i m.aw.length)).map (·.name)++(m.procs.take (cS 3 p i m.procs.length)).map (·.name)++(m.props.take (ie p i m.props.length)).map (·.name)
end o
namespace Go.Proofs.R
open Go Go.RowKit ba
theorem DE{P:D_}{v:l0}{b7:C_ ByteArray}{x:ByteArray}{b c base:Nat}{w:A_}{cT:B_->A_->Prop}{ty:F_}{t}(h:Be base w v b7)(an:w.heap[b]? = some (.cells #[.string x] T.p))(hm:b7.length+1<=8796093022208)(kC:base<=w.heap.size)
  (hk:∀(b0:l0) w',Be base w' b0 (b7++[x])->w.grownBy w' (Lz v).ownBlock->cT (.slice b0.1 b0.2.1 b0.2.2) w'):ml P ty T.p 1 16 (.slice v.1 v.2.1 v.2.2) (.slice (some ⟨b,0,none⟩) 1 c) w cT t:=by
 have rJ:(b7.length+1)*16<=140737488355328:=AK
 have tW:b7.length+1<=maxLen:=by unfold maxLen;omega
 refine _O (b:=16) (s:=Lz v) (ys:=[x]) h (fun _=>rfl) (gT an) rfl agt rJ tW kC fun b0 w' aO aK=>?_;obtain⟨aQ,cap,rfl,_⟩:=aO.form;exact hk (aQ,_,cap) w' aO aK
theorem DA(cs:C_ B_)(m:o.Model)(p i:Int)(w:A_)(h:o.eh w cs m)(au:2<=p)(U:0<=i)(aC:m.scalars.length+o.cS 1 p i m.vars.length+o.cS 2 p i m.aw.length+o.cS 3 p i m.procs.length+o.ie p i m.props.length<=8000000000000) :
  DD F.w6 #[.agg cs.toArray,.I p,.I i] w fun u w'=>(∃v:l0,u = .slice v.1 v.2.1 v.2.2/\Be w.heap.size w' v (o.vI m p i))/\Ext w w':=by
 obtain⟨b6,bx,bR,c1,bX,c2,bZ,bu,ca,bC,rfl,af,h1,I,ab,aH,e2,eE,eJ,er,eH⟩:=h.form;refine br E.w6 ?_;simp -dsimp only[cB];refine eb ?_;intro w1 bw cM ai al;have rN:kv w w1 bw _ (none,0,0) []:=⟨ai,al,aS.nil _ _ _ _ _⟩;clear al;refine eb ?_;simp -dsimp only[cB];refine eb ?_;refine S_ [1,2,3] (fun v:l0=>[(7,.slice v.1 v.2.1 v.2.2)]) (fun v w'=>kv w w' bw [.slice b6 m.scalars.length bx,.slice bR m.vars.length c1,.slice bX m.aw.length c2,.slice bZ m.procs.length bu,.slice ca m.props.length bC] v (([]:C_ ByteArray)++(m.scalars.map (·.name)))) ?_ ?_
 .have fM:m.scalars.length<=m.scalars.length:=by exact GA _
  have ei:=rN.ext;have f0:=rN.h1;refine aa ?_;refine L_ 8 (m.scalars.length) [1,2,3] (fun v:l0=>[(7,.slice v.1 v.2.1 v.2.2)]) ((none,0,0):l0) (fun k v w'=>kv w w' bw [.slice b6 m.scalars.length bx,.slice bR m.vars.length c1,.slice bX m.aw.length c2,.slice bZ m.procs.length bu,.slice ca m.props.length bC] v (([]:C_ ByteArray)++(m.scalars.take k).map (·.name))) bc bc (rN.jB Bs) ?_;clear ei f0;rintro k mi S qN hk k0;have vZ:=k0.ext;have wg:=k0.h1;have fin:k=m.scalars.length->kv w qN bw [.slice b6 m.scalars.length bx,.slice bR m.vars.length c1,.slice bX m.aw.length c2,.slice bZ m.procs.length bu,.slice ca m.props.length bC] mi (([]:C_ ByteArray)++(m.scalars.map (·.name))):=fun e=>k0.jB (by rw[e];simp);refine S_ [1,2,3,7,8] (fun _:Unit=>[]) (fun _ w'=>w'=qN/\k<m.scalars.length) ?_ ?_
  .refine aa ?_;apply I_<;>intro g1
   .refine aa ?_;exact⟨(),trivial,aL,AK⟩
   .refine aa ?_;exact⟨mi,bc,fin AK⟩
  rintro _ k7 _ ⟨rfl,wF⟩;have a1:k<m.scalars.length:=AK
  obtain⟨a,rfl⟩:=af.addr;have ej:=((af.at k a1).cells).ext vZ;refine aa ?_;intro AV HK Jb rk uM;have mP:=k0.then rk;have z:=mP.ext.size;refine aa ?_;refine DE mP.own uM (by simp only[List.length_append,List.length_map,List.length_nil,List.length_cons,List.length_take];omega) z fun xt C2 wH wD=>?_;have xn:=(mP.grown wD wH).jB (CW (fun x:o.Scalar=>x.name) _ _ _ a1);refine aa ?_;exact⟨wF,aL,xt,bc,xn⟩
 clear rN;rintro v1 uo aD st1;have ka:=st1.ext;have f1:=st1.h1;refine S_ [1,2,3] (fun v:l0=>[(7,.slice v.1 v.2.1 v.2.2)]) (fun v w'=>kv w w' bw [.slice b6 m.scalars.length bx,.slice bR m.vars.length c1,.slice bX m.aw.length c2,.slice bZ m.procs.length bu,.slice ca m.props.length bC] v (([]++(m.scalars.map (·.name)))++((m.vars.take (o.cS 1 p i m.vars.length)).map (·.name)))) ?_ ?_
 .have fM:o.cS 1 p i m.vars.length<=m.vars.length:=by unfold o.cS; (repeat' split)<;>omega
  have ei:=st1.ext;have f0:=st1.h1;refine aa ?_;refine L_ 9 (o.cS 1 p i m.vars.length) [1,2,3] (fun v:l0=>[(7,.slice v.1 v.2.1 v.2.2)]) v1 (fun k v w'=>kv w w' bw [.slice b6 m.scalars.length bx,.slice bR m.vars.length c1,.slice bX m.aw.length c2,.slice bZ m.procs.length bu,.slice ca m.props.length bC] v (([]++(m.scalars.map (·.name)))++(m.vars.take k).map (·.name))) bc bc (st1.jB Bs) ?_;clear ei f0;rintro k mi S qN hk k0;have vZ:=k0.ext;have wg:=k0.h1;have fin:k=o.cS 1 p i m.vars.length->kv w qN bw [.slice b6 m.scalars.length bx,.slice bR m.vars.length c1,.slice bX m.aw.length c2,.slice bZ m.procs.length bu,.slice ca m.props.length bC] mi (([]++(m.scalars.map (·.name)))++((m.vars.take (o.cS 1 p i m.vars.length)).map (·.name))):=fun e=>k0.jB (by rw[e]);refine S_ [1,2,3,7,9] (fun _:Unit=>[]) (fun _ w'=>w'=qN/\k<o.cS 1 p i m.vars.length) ?_ ?_
  .refine aa ?_;apply I_<;>intro g1
   .refine aa ?_;apply I_<;>intro g3
    .refine aa ?_;exact⟨(),trivial,aL,by unfold o.cS at fM hk ⊢; (repeat' split at hk) <;> (repeat' split)<;>omega⟩
    .refine aa ?_;apply I_<;>intro g4
     .refine aa ?_;exact⟨(),trivial,aL,by unfold o.cS at fM hk ⊢; (repeat' split at hk) <;> (repeat' split)<;>omega⟩
     .refine aa ?_;exact⟨mi,bc,fin (by unfold o.cS at fM hk ⊢; (repeat' split at hk) <;> (repeat' split)<;>omega)⟩
   .refine aa ?_;exact⟨mi,bc,fin (by unfold o.cS at fM hk ⊢; (repeat' split at hk) <;> (repeat' split)<;>omega)⟩
  rintro _ k7 _ ⟨rfl,wF⟩;have a1:k<m.vars.length:=AK
  obtain⟨a,rfl⟩:=h1.addr;have ej:=((h1.at k a1).cells).ext vZ;refine aa ?_;intro AV HK Jb rk uM;have mP:=k0.then rk;have z:=mP.ext.size;refine aa ?_;refine DE mP.own uM (by simp only[List.length_append,List.length_map,List.length_nil,List.length_cons,List.length_take];omega) z fun xt C2 wH wD=>?_;have xn:=(mP.grown wD wH).jB (CW (fun x:o.Var=>x.name) _ _ _ a1);refine aa ?_;exact⟨wF,aL,xt,bc,xn⟩
 clear st1;rintro v2 k7 aN st2;have k3:=st2.ext;have f2:=st2.h1;refine S_ [1,2,3] (fun v:l0=>[(7,.slice v.1 v.2.1 v.2.2)]) (fun v w'=>kv w w' bw [.slice b6 m.scalars.length bx,.slice bR m.vars.length c1,.slice bX m.aw.length c2,.slice bZ m.procs.length bu,.slice ca m.props.length bC] v ((([]++(m.scalars.map (·.name)))++((m.vars.take (o.cS 1 p i m.vars.length)).map (·.name)))++((m.aw.take (o.cS 2 p i m.aw.length)).map (·.name)))) ?_ ?_
 .have fM:o.cS 2 p i m.aw.length<=m.aw.length:=by unfold o.cS; (repeat' split)<;>omega
  have ei:=st2.ext;have f0:=st2.h1;refine aa ?_;refine L_ 10 (o.cS 2 p i m.aw.length) [1,2,3] (fun v:l0=>[(7,.slice v.1 v.2.1 v.2.2)]) v2 (fun k v w'=>kv w w' bw [.slice b6 m.scalars.length bx,.slice bR m.vars.length c1,.slice bX m.aw.length c2,.slice bZ m.procs.length bu,.slice ca m.props.length bC] v ((([]++(m.scalars.map (·.name)))++((m.vars.take (o.cS 1 p i m.vars.length)).map (·.name)))++(m.aw.take k).map (·.name))) bc bc (st2.jB Bs) ?_;clear ei f0;rintro k mi S qN hk k0;have vZ:=k0.ext;have wg:=k0.h1;have fin:k=o.cS 2 p i m.aw.length->kv w qN bw [.slice b6 m.scalars.length bx,.slice bR m.vars.length c1,.slice bX m.aw.length c2,.slice bZ m.procs.length bu,.slice ca m.props.length bC] mi ((([]++(m.scalars.map (·.name)))++((m.vars.take (o.cS 1 p i m.vars.length)).map (·.name)))++((m.aw.take (o.cS 2 p i m.aw.length)).map (·.name))):=fun e=>k0.jB (by rw[e]);refine S_ [1,2,3,7,10] (fun _:Unit=>[]) (fun _ w'=>w'=qN/\k<o.cS 2 p i m.aw.length) ?_ ?_
  .refine aa ?_;apply I_<;>intro g1
   .refine aa ?_;apply I_<;>intro g2
    .refine aa ?_;apply I_<;>intro g3
     .refine aa ?_;exact⟨(),trivial,aL,by unfold o.cS at fM hk ⊢; (repeat' split at hk) <;> (repeat' split)<;>omega⟩
     .refine aa ?_;apply I_<;>intro g4
      .refine aa ?_;exact⟨(),trivial,aL,by unfold o.cS at fM hk ⊢; (repeat' split at hk) <;> (repeat' split)<;>omega⟩
      .refine aa ?_;exact⟨mi,bc,fin (by unfold o.cS at fM hk ⊢; (repeat' split at hk) <;> (repeat' split)<;>omega)⟩
    .refine aa ?_;exact⟨mi,bc,fin (by unfold o.cS at fM hk ⊢; (repeat' split at hk) <;> (repeat' split)<;>omega)⟩
   .refine aa ?_;exact⟨mi,bc,fin (by unfold o.cS at fM hk ⊢; (repeat' split at hk) <;> (repeat' split)<;>omega)⟩
  rintro _ k7 _ ⟨rfl,wF⟩;have a1:k<m.aw.length:=AK
  obtain⟨a,rfl⟩:=I.addr;have ej:=((I.at k a1).cells).ext vZ;refine aa ?_;intro AV HK Jb rk uM;have mP:=k0.then rk;have z:=mP.ext.size;refine aa ?_;refine DE mP.own uM (by simp only[List.length_append,List.length_map,List.length_nil,List.length_cons,List.length_take];omega) z fun xt C2 wH wD=>?_;have xn:=(mP.grown wD wH).jB (CW (fun x:o.dB=>x.name) _ _ _ a1);refine aa ?_;exact⟨wF,aL,xt,bc,xn⟩
 clear st2;rintro v3 Hz aU mh;have pq:=mh.ext;have f3:=mh.h1;refine S_ [1,2,3] (fun v:l0=>[(7,.slice v.1 v.2.1 v.2.2)]) (fun v w'=>kv w w' bw [.slice b6 m.scalars.length bx,.slice bR m.vars.length c1,.slice bX m.aw.length c2,.slice bZ m.procs.length bu,.slice ca m.props.length bC] v (((([]++(m.scalars.map (·.name)))++((m.vars.take (o.cS 1 p i m.vars.length)).map (·.name)))++((m.aw.take (o.cS 2 p i m.aw.length)).map (·.name)))++((m.procs.take (o.cS 3 p i m.procs.length)).map (·.name)))) ?_ ?_
 .have fM:o.cS 3 p i m.procs.length<=m.procs.length:=by unfold o.cS; (repeat' split)<;>omega
  have ei:=mh.ext;have f0:=mh.h1;refine aa ?_;refine L_ 11 (o.cS 3 p i m.procs.length) [1,2,3] (fun v:l0=>[(7,.slice v.1 v.2.1 v.2.2)]) v3 (fun k v w'=>kv w w' bw [.slice b6 m.scalars.length bx,.slice bR m.vars.length c1,.slice bX m.aw.length c2,.slice bZ m.procs.length bu,.slice ca m.props.length bC] v (((([]++(m.scalars.map (·.name)))++((m.vars.take (o.cS 1 p i m.vars.length)).map (·.name)))++((m.aw.take (o.cS 2 p i m.aw.length)).map (·.name)))++(m.procs.take k).map (·.name))) bc bc (mh.jB Bs) ?_;clear ei f0;rintro k mi S qN hk k0;have vZ:=k0.ext;have wg:=k0.h1;have fin:k=o.cS 3 p i m.procs.length->kv w qN bw [.slice b6 m.scalars.length bx,.slice bR m.vars.length c1,.slice bX m.aw.length c2,.slice bZ m.procs.length bu,.slice ca m.props.length bC] mi (((([]++(m.scalars.map (·.name)))++((m.vars.take (o.cS 1 p i m.vars.length)).map (·.name)))++((m.aw.take (o.cS 2 p i m.aw.length)).map (·.name)))++((m.procs.take (o.cS 3 p i m.procs.length)).map (·.name))):=fun e=>k0.jB (by rw[e]);refine S_ [1,2,3,7,11] (fun _:Unit=>[]) (fun _ w'=>w'=qN/\k<o.cS 3 p i m.procs.length) ?_ ?_
  .refine aa ?_;apply I_<;>intro g1
   .refine aa ?_;apply I_<;>intro g2
    .refine aa ?_;apply I_<;>intro g3
     .refine aa ?_;exact⟨(),trivial,aL,by unfold o.cS at fM hk ⊢; (repeat' split at hk) <;> (repeat' split)<;>omega⟩
     .refine aa ?_;apply I_<;>intro g4
      .refine aa ?_;exact⟨(),trivial,aL,by unfold o.cS at fM hk ⊢; (repeat' split at hk) <;> (repeat' split)<;>omega⟩
      .refine aa ?_;exact⟨mi,bc,fin (by unfold o.cS at fM hk ⊢; (repeat' split at hk) <;> (repeat' split)<;>omega)⟩
    .refine aa ?_;exact⟨mi,bc,fin (by unfold o.cS at fM hk ⊢; (repeat' split at hk) <;> (repeat' split)<;>omega)⟩
   .refine aa ?_;exact⟨mi,bc,fin (by unfold o.cS at fM hk ⊢; (repeat' split at hk) <;> (repeat' split)<;>omega)⟩
  rintro _ k7 _ ⟨rfl,wF⟩;have a1:k<m.procs.length:=AK
  obtain⟨a,rfl⟩:=ab.addr;obtain⟨_,b2,dV,ej,e7,dP⟩:=ab.at k a1;obtain⟨eF,fB,rfl,fm⟩:=e7.form;obtain⟨oJ,lb,rfl,lc⟩:=dP.form;replace ej:=ej.ext vZ;refine aa ?_;intro AV HK Jb rk uM;have mP:=k0.then rk;have z:=mP.ext.size;refine aa ?_;refine DE mP.own uM (by simp only[List.length_append,List.length_map,List.length_nil,List.length_cons,List.length_take];omega) z fun xt C2 wH wD=>?_;have xn:=(mP.grown wD wH).jB (CW (fun x:o.dJ=>x.name) _ _ _ a1);refine aa ?_;exact⟨wF,aL,xt,bc,xn⟩
 clear mh;rintro v4 qg bt lB;have oQ:=lB.ext;have f4:=lB.h1;refine S_ [1,2,3] (fun v:l0=>[(7,.slice v.1 v.2.1 v.2.2)]) (fun v w'=>kv w w' bw [.slice b6 m.scalars.length bx,.slice bR m.vars.length c1,.slice bX m.aw.length c2,.slice bZ m.procs.length bu,.slice ca m.props.length bC] v ((((([]++(m.scalars.map (·.name)))++((m.vars.take (o.cS 1 p i m.vars.length)).map (·.name)))++((m.aw.take (o.cS 2 p i m.aw.length)).map (·.name)))++((m.procs.take (o.cS 3 p i m.procs.length)).map (·.name)))++((m.props.take (o.ie p i m.props.length)).map (·.name)))) ?_ ?_
 .have fM:o.ie p i m.props.length<=m.props.length:=by unfold o.ie; (repeat' split)<;>omega
  have ei:=lB.ext;have f0:=lB.h1;refine aa ?_;refine L_ 12 (o.ie p i m.props.length) [1,2,3] (fun v:l0=>[(7,.slice v.1 v.2.1 v.2.2)]) v4 (fun k v w'=>kv w w' bw [.slice b6 m.scalars.length bx,.slice bR m.vars.length c1,.slice bX m.aw.length c2,.slice bZ m.procs.length bu,.slice ca m.props.length bC] v ((((([]++(m.scalars.map (·.name)))++((m.vars.take (o.cS 1 p i m.vars.length)).map (·.name)))++((m.aw.take (o.cS 2 p i m.aw.length)).map (·.name)))++((m.procs.take (o.cS 3 p i m.procs.length)).map (·.name)))++(m.props.take k).map (·.name))) bc bc (lB.jB Bs) ?_;clear ei f0;rintro k mi S qN hk k0;have vZ:=k0.ext;have wg:=k0.h1;have fin:k=o.ie p i m.props.length->kv w qN bw [.slice b6 m.scalars.length bx,.slice bR m.vars.length c1,.slice bX m.aw.length c2,.slice bZ m.procs.length bu,.slice ca m.props.length bC] mi ((((([]++(m.scalars.map (·.name)))++((m.vars.take (o.cS 1 p i m.vars.length)).map (·.name)))++((m.aw.take (o.cS 2 p i m.aw.length)).map (·.name)))++((m.procs.take (o.cS 3 p i m.procs.length)).map (·.name)))++((m.props.take (o.ie p i m.props.length)).map (·.name))):=fun e=>k0.jB (by rw[e]);refine S_ [1,2,3,7,12] (fun _:Unit=>[]) (fun _ w'=>w'=qN/\k<o.ie p i m.props.length) ?_ ?_
  .refine aa ?_;apply I_<;>intro g1
   .refine aa ?_;apply I_<;>intro g2
    .refine aa ?_;apply I_<;>intro g4
     .refine aa ?_;exact⟨(),trivial,aL,by unfold o.ie at fM hk ⊢; (repeat' split at hk) <;> (repeat' split)<;>omega⟩
     .refine aa ?_;exact⟨mi,bc,fin (by unfold o.ie at fM hk ⊢; (repeat' split at hk) <;> (repeat' split)<;>omega)⟩
    .refine aa ?_;exact⟨mi,bc,fin (by unfold o.ie at fM hk ⊢; (repeat' split at hk) <;> (repeat' split)<;>omega)⟩
   .refine aa ?_;exact⟨mi,bc,fin (by unfold o.ie at fM hk ⊢; (repeat' split at hk) <;> (repeat' split)<;>omega)⟩
  rintro _ k7 _ ⟨rfl,wF⟩;have a1:k<m.props.length:=AK
  obtain⟨a,rfl⟩:=aH.addr;obtain⟨_,gZ,ej,h7⟩:=aH.at k a1;obtain⟨QV,ce,rfl,le⟩:=h7.form;replace ej:=ej.ext vZ;refine aa ?_;intro AV HK Jb rk uM;have mP:=k0.then rk;have z:=mP.ext.size;refine aa ?_;refine DE mP.own uM (by simp only[List.length_append,List.length_map,List.length_nil,List.length_cons,List.length_take];omega) z fun xt C2 wH wD=>?_;have xn:=(mP.grown wD wH).jB (CW (fun x:o.lY=>x.name) _ _ _ a1);refine aa ?_;exact⟨wF,aL,xt,bc,xn⟩
 clear lB;rintro v5 rY bz iD;have L5:=iD.ext;have f5:=iD.h1;refine aa ?_;refine⟨⟨v5,aL,?_⟩,L5⟩
 have:=iD.own
 simp only[List.nil_append] at this;exact this
theorem EA(v:l0)(l:C_ ByteArray)(x:ByteArray)(base:Nat)(w:A_)(h:Be base w v l) :
  DD F.w7 #[.slice v.1 v.2.1 v.2.2,.string x] w fun u w'=>u = .bool (decide (x∈l))/\w'=w:=by
 have ak:bn 1 (Flat encS) w (.slice v.1 v.2.1 v.2.2) l:=aS.jD (enc:=encS) (fun _=>rfl) h;obtain⟨v0,v1,v2⟩:=v;obtain⟨bB,aJ,a7⟩:=bn.len ak;have Wx:=a7;unfold maxLen at Wx;dsimp only at bB aJ Wx ak;subst bB;refine br E.w7 ?_;refine aa ?_;refine L_ 5 l.length [0,1] (fun _:Unit=>[]) () (fun k _ w'=>w'=w/\∀j (aF:j<l.length),j<k->¬l[j]=x) bc bc ⟨rfl,fun j _ h=>absurd h (K8 _)⟩ ?_;rintro k _ S _ hk ⟨rfl,bI⟩;refine aa ?_;apply I_<;>intro g1
 .have a1:k<l.length:=AK
  obtain⟨a,rfl⟩:=ak.addr;refine aa ?_;apply I_<;>intro g2
  .have hm:x∈l:=by rw[<-g2];exact GR _
   refine aa ?_;exact⟨by rw[decide_eq_true hm],aL⟩
  .refine aa ?_;exact⟨a1,aL,(),trivial,aL,fun j aF hh=>by
    by_cases e:j=k
    .subst e;exact g2
    .exact bI j aF AK⟩
 .have hm:¬x∈l:=fun ag=>by
   obtain⟨j,aF,e⟩:=List.mem_iff_getElem.1 ag;exact bI j aF AK e
  refine aa ?_;exact⟨by rw[decide_eq_false hm],aL⟩
end Go.Proofs.R
end
section
namespace Go.Proofs.R
open Go Go.RowKit ba
theorem aas(n:Int)(w:A_):DD F.bS #[.int .i32 n] w fun v w'=>v = .bool (o.letter n)/\w'=w:=by
 refine br E.bS ?_
 (repeat' first
  | (refine I_ (fun _=>?_) (fun _=>?_)<;>try (exfalso;omega))
  | (refine N_ (fun _=>?_) (fun _=>?_))
  | (refine Q_ AK ?_)
  | (refine M_ Bz ?_)
  | (refine _a AK ?_)
  | simp -dsimp only[c7,cB,Nat.reduceAdd,Nat.reduceEqDiff,reduceIte,reduceCtorEq,df])
 all_goals (refine⟨?_,by first | rfl | trivial⟩;congr 1;rw[AG4];simp[o.letter];omega)
theorem af8(n:Int)(w:A_):DD F.Iy #[.int .i32 n] w fun v w'=>v = .bool (o.digit n)/\w'=w:=by
 refine br E.Iy ?_
 (repeat' first
  | (refine I_ (fun _=>?_) (fun _=>?_)<;>try (exfalso;omega))
  | (refine N_ (fun _=>?_) (fun _=>?_))
  | (refine Q_ AK ?_)
  | (refine M_ Bz ?_)
  | (refine _a AK ?_)
  | simp -dsimp only[c7,cB,Nat.reduceAdd,Nat.reduceEqDiff,reduceIte,reduceCtorEq,df])
 all_goals (refine⟨?_,by first | rfl | trivial⟩;congr 1;rw[AG4];simp[o.digit];omega)
theorem aol(n:Int)(w:A_):DD F.q1 #[.int .i32 n] w fun v w'=>v = .bool (o.part n)/\w'=w:=by
 refine br E.q1 ?_;refine aT ?_;refine J_ (aas n w) ?_;rintro _ _ ⟨rfl,rfl⟩;refine aT ?_;refine N_ (fun h1=>?_) (fun h1=>?_)
 .refine aT ?_;refine⟨?_,by first | rfl | trivial⟩;congr 1;simp[o.part,h1]
 .refine aT ?_;refine J_ (af8 n _) ?_;rintro _ _ ⟨rfl,rfl⟩;refine aT ?_;refine N_ (fun I=>?_) (fun I=>?_)
  .refine aT ?_;refine⟨?_,by first | rfl | trivial⟩;congr 1;simp[o.part,I]
  .refine aT ?_;refine⟨?_,by first | rfl | trivial⟩;congr 1;simp[o.part,h1,I]
def ZY(w:A_)(b:Nat):Nat:=match w.heap[b]? with | some (.stringIter s pos)=>s.size - pos | _=>0
theorem amO(s:ByteArray)(p:Int->Bool)(au:∀r,128<=r->p r=false)(f:E_)(ay:okF Tryz.prog f=true)(w:A_)
  (an:∀(r:Int) (w':A_),Ext w w'->aY Tryz.prog f #[.int .i32 r] w' fun v bO=>v = .bool (p r)/\Ext w' bO) :
  DD F.bW #[.string s,.func (.func f) #[] #[]] w fun v w'=>v = .I (o.run p s)/\Ext w w':=by
 refine br E.bW ?_;refine aT ?_;refine AB0 fun w1 b ao ai aj0=>?_;refine aT ?_;refine _A (fun S w' => ∃pos,pos<=s.size/\(∀j (aF:j<s.size),j<pos->p s[j].toNat=true)/\w'.heap[b]? = some (.stringIter s pos)/\Ext w w')
  (fun _ w'=>ZY w' b) ⟨0,AF6 _,fun _ _ h=>absurd h (K8 _),aj0,ai⟩ ?_
 rintro S w' cc ⟨pos,Zc,dI,oC,he⟩;have af:=cc 0 rfl;have h1:=cc 1 rfl;have dS:=cc 8 rfl;simp only[bN,Nat.reduceAdd,Nat.reduceEqDiff,reduceIte,kh,nG] at af h1 dS;clear cc;refine ck (i_ af (i_ h1 dS)) ?_;refine AA8 oC (fun cg=>?_) (fun O9=>?_)
 .have bb:=o.af1 au s pos cg;have ak:(fF w' b (.stringIter s (pos+(Utf8.decode s pos).2))).heap[b]? = some (.stringIter s (pos+(Utf8.decode s pos).2)):=CR (cA oC);have aj:Ext w (fF w' b (.stringIter s (pos+(Utf8.decode s pos).2))):=he.fF ao _;generalize fF w' b (.stringIter s (pos+(Utf8.decode s pos).2))=aD at ak aj;refine ck (i_ af (i_ h1 dS)) ?_;refine V_ (first:=[]) (cap:=[]) ay (an _ _ aj) ?_;rintro _ aN ⟨rfl,ah⟩;refine ck (i_ af (i_ h1 dS)) ?_;refine N_ (fun ao=>?_) (fun ao=>?_)
  .refine aT ?_;rw[bb.1] at ao;have hw:=bb.2 ao;rw[hw] at ak;refine⟨⟨pos+1,AK,fun j aF atM=>?_,ah.obj ak,aj.trans ah⟩,?_⟩
   .by_cases h:j<pos
    .exact dI j aF h
    .have:j=pos:=AK
     subst this;exact ao
   .simp only[ZY,ah.obj ak,oC];omega
  .refine aT ?_;rw[bb.1] at ao;refine⟨?_,aj.trans ah⟩;rw[o.ace p s pos cg (fun j aF=>dI j AK aF) ao]
 .refine ck (i_ af (i_ h1 dS)) ?_;refine⟨?_,he⟩;rw[o.ab5 p s (fun j aF=>dI j aF AK)]
def gK(w:A_):Prop:=fi w ⟨G.amC,0,none⟩ (o.rG.map Value.string)
theorem gK.ext{w w':A_}(he:Ext w w')(h:gK w):gK w':=fi.ext he h
theorem La(s:ByteArray)(w:A_)(aO:gK w)(ak:s.size<=9223372036854775807) :
  DD F.H9 #[.string s] w fun v w'=>v = .bool (o.isName s)/\Ext w w':=by
 refine br E.H9 ?_;refine aT ?_;refine I_ (fun af=>?_) (fun af=>?_)
 .refine aT ?_;refine⟨?_,Ext.refl w⟩;subst af;rfl
 have bI:s.size≠0:=fun h=>af (by
  cases s with | mk d =>
  have:d=#[]:=by simpa[ByteArray.size] using h
  rw[this])
 refine aT ?_;refine I_ (fun h1=>?_) (fun h1=>?_)
 .refine aT ?_;refine⟨?_,Ext.refl w⟩
  have:¬s.size<=16:=AK
  simp[o.isName,this]
 have re:s.size<=16:=AK
 refine aT ?_;refine _b (s.get! 0) BN (o.get?_eq s 0 AK) ?_;refine aT ?_;have ao:(s.get! 0).toNat<256:=UInt8.toNat_lt _;refine AA5 (IntWalk.i32_in _ AK) ?_;refine aT ?_;refine J_ (aas _ w) ?_;rintro _ _ ⟨rfl,rfl⟩;refine aT ?_;refine N_ (fun I=>?_) (fun I=>?_);rotate_left
 .refine aT ?_;refine⟨?_,Ext.refl _⟩;have N3:o.letter (o.s7 s 0:Nat)=false:=I;simp[o.isName,N3]
 refine aT ?_;refine J_ (amO s o.part o.aok F.q1 Ct _ fun r w' _=>(aol r w').mono fun v bO ⟨ab,aH⟩=>⟨ab,aH ▸ Ext.refl _⟩) ?_;rintro _ aD ⟨rfl,he⟩;refine aT ?_;refine I_ (fun ab=>?_) (fun ab=>?_)
 .refine aT ?_;refine⟨?_,he⟩;have zI:¬o.run o.part s=s.size:=AK
  simp[o.isName,zI]
 have zI:o.run o.part s=s.size:=by have:=o.ap3 o.part s;omega
 have N3:o.letter (o.s7 s 0:Nat)=true:=I;have Y6:o.isName s = !decide (s∈o.rG):=by simp[o.isName,zI,N3,re,bI]
 refine aT ?_;refine Z_ (aO.ext he) rfl ?_;refine aT ?_;refine _A (fun S w' => ∃i:Nat,i<=4/\S 27 = .I i/\(∀j (aF:j<o.rG.length),j<i->o.rG[j]≠s)/\Ext aD w')
  (fun S _=>(4 - intOf (S 27)).toNat) ⟨0,AK,by refine aT ?_;rfl,fun _ _ h=>absurd h (K8 _),Ext.refl _⟩ ?_
 rintro S w' cc ⟨i,U,o3,dI,aj⟩;have af:=cc 0 rfl;have mB:=cc 26 rfl;simp only[bN,Nat.reduceAdd,Nat.reduceEqDiff,reduceIte,kh,nG] at af mB;clear cc;refine ck (i_ af (i_ mB o3)) ?_;refine I_ (fun aH=>?_) (fun aH=>?_)
 .refine ck (i_ af (i_ mB o3)) ?_;have ajW:i<o.rG.length:=by simp[o.rG];omega
  refine AA6 (.string o.rG[i]) AK (by simp[List.getElem?_map,ajW]) ?_;refine ck (i_ af (i_ mB o3)) ?_;refine I_ (fun a8=>?_) (fun a8=>?_)
  .refine aT ?_;refine⟨?_,he.trans aj⟩;rw[Y6]
   have:s∈o.rG:=a8 ▸ GR _
   simp[this]
  .refine ck (i_ af (i_ mB o3)) ?_;refine Q_ AK ?_;refine ck (i_ af (i_ mB o3)) ?_;refine⟨⟨i+1,AK,rfl,fun j aF hM=>?_,aj⟩,by simp[intOf];omega⟩;by_cases h:j<i
   .exact dI j aF h
   .have:j=i:=AK
    subst this;exact a8
 .refine ck (i_ af (i_ mB o3)) ?_;refine⟨?_,he.trans aj⟩;rw[Y6]
  have:s∉o.rG:=fun hm=>by
   obtain⟨j,aF,he⟩:=List.mem_iff_getElem.1 hm;exact dI j aF (by have:o.rG.length=4:=rfl;omega) he
  simp[this]
end Go.Proofs.R
end
section
namespace Go.Proofs.R
open Go Go.RowKit ba
theorem aaJ(aR U:Int)(w:A_):DD F.Ij #[.I aR,.I U] w fun v w'=>v = .bool (o.narrow aR U)/\w'=w:=by
 refine br E.Ij ?_
 (repeat' first
  | (refine I_ (fun _=>?_) (fun _=>?_)<;>try (exfalso;omega))
  | (refine N_ (fun _=>?_) (fun _=>?_))
  | (refine Q_ AK ?_)
  | (refine M_ Bz ?_)
  | (refine _a AK ?_)
  | simp -dsimp only[c7,cB,Nat.reduceAdd,Nat.reduceEqDiff,reduceIte,reduceCtorEq,df])
 all_goals (refine⟨?_,by first | rfl | trivial⟩;congr 1;rw[AG4];simp[o.narrow];omega)
theorem acr{k:Int}{l:C_ o.Scalar}(h1:1<=k)(I:k<=l.length):o.size k l=if 1<=(l[k.toNat - 1]' AK).size/\(l[k.toNat - 1]' AK).size<=4 then (l[k.toNat - 1]' AK).size else 0:=by
 have e:(k - 1).toNat=k.toNat - 1:=AK
 have cg:k.toNat - 1<l.length:=AK
 simp only[o.size,e,List.getElem?_eq_getElem cg,h1,true_and]
theorem Lw{k:Int}{l:C_ o.Scalar}(h:k<1\/l.length<k):o.size k l=0:=by
 unfold o.size;split
 .rename_i x ag;rw[if_neg];rintro⟨h1,_⟩
  have:=(List.getElem?_eq_some_iff.1 ag).1
  omega
 .rfl
theorem RL(k:Int)(v:B_)(l:C_ o.Scalar)(w:A_)(aC:o.ih w v l) :
  DD F.BK #[.I k,v] w fun v w'=>v = .tuple #[.I (o.size k l),.bool (decide (o.size k l≠0))]/\w'=w:=by
 obtain⟨aQ,cap,rfl,hlen⟩:=aC.form;refine br E.BK ?_;refine aT ?_;refine I_ (fun h1=>?_) (fun h1=>?_)
 .refine aT ?_;rw[Lw (.inl h1)];exact⟨rfl,trivial⟩
 refine aT ?_;refine I_ (fun I=>?_) (fun I=>?_)
 .refine aT ?_;rw[Lw (.inr I)];exact⟨rfl,trivial⟩
 refine aT ?_;refine Q_ AK ?_;refine aT ?_;obtain⟨a,rfl⟩:=aC.addr;have an:=(aC.at (k.toNat - 1) AK).cells 1 _ rfl;refine K_ (k.toNat - 1) AK AK ?_;refine aT ?_;refine M_ an ?_;rw[acr AK AK];generalize l[k.toNat - 1].size=z at an;refine aT ?_;refine I_ (fun ab=>?_) (fun ab=>?_)
 .refine aT ?_;rw[if_neg AK];exact⟨rfl,trivial⟩
 refine aT ?_;refine Q_ AK ?_;refine aT ?_;refine K_ (k.toNat - 1) AK AK ?_;refine aT ?_;refine M_ an ?_;refine aT ?_;refine I_ (fun aH=>?_) (fun aH=>?_)
 .refine aT ?_;rw[if_neg AK];exact⟨rfl,trivial⟩
 refine aT ?_;refine Q_ AK ?_;refine aT ?_;refine K_ (k.toNat - 1) AK AK ?_;refine aT ?_;refine M_ an ?_;refine aT ?_;rw[if_pos AK];refine⟨?_,by trivial⟩
 have:z≠0:=AK
 simp[this]
theorem R2(k:Int)(v:B_)(l:C_ o.Scalar)(w:A_)(aC:o.ih w v l) :
  DD F.hq #[.I k,v] w fun v w'=>v = .bool (o.there k l)/\w'=w:=by
 refine br E.hq ?_;refine aT ?_;refine J_ (RL k v l w aC) ?_;rintro _ _ ⟨rfl,rfl⟩;refine aT ?_;refine I_ (fun h1=>?_) (fun h1=>?_)
 .refine aT ?_;refine⟨?_,by trivial⟩;simp[o.there,h1]
 .refine aT ?_;refine⟨?_,by trivial⟩;simp[o.there,h1]
def seen(l:C_ ByteArray):C_ (ByteArray×B_):=l.map fun x=>(x,.bool true)
theorem aqn(l:C_ ByteArray)(x:ByteArray):((seen l).find? (fun p=>decide (x=p.1))).map (·.2)=if x∈l then some (.bool true) else none:=by
 induction l with
 | nil=>rfl
 | cons y l fh =>
  simp only[seen,List.map_cons,List.find?_cons,List.mem_cons];by_cases h:x=y
  .simp[h]
  .simp only[h,decide_false,false_or];exact fh
set_option maxHeartbeats 2000000 in
theorem QK(n fP:Int)(az:0<=n/\n<=9223372036854775807)(gh:Nat->ByteArray)(mo:Nat->Int)(f1 f2:E_)(c1 c2:C_ B_)(Jw:okF Tryz.prog f1=true)(lJ:okF Tryz.prog f2=true)(w:A_)(aO:gK w)
  (gf:∀i:Nat,i<n->o.jN (gh i))
  (cE:∀(i:Nat) (w':A_),i<n->Ext w w'->aY Tryz.prog f1 (.I i :: c1).toArray w' fun v bO=>v = .string (gh i)/\Ext w' bO)
  (cW:∀(i:Nat) (w':A_),i<n->Ext w w'->aY Tryz.prog f2 (.I i :: c2).toArray w' fun v bO=>v = .I (mo i)/\Ext w' bO) :
  DD F.DS #[.I n,.I fP,.func (.func f1) #[] c1.toArray,.func (.func f2) #[] c2.toArray] w
   fun v w'=>v = .tuple #[.I (o.first n.toNat (o.err fP gh mo)).1,.I (o.first n.toNat (o.err fP gh mo)).2]/\Ext w w':=by
 refine br E.DS ?_;refine aT ?_;refine _g fun w1 b ao ai o8=>?_;refine aT ?_;refine _A (fun S w' => ∃i:Nat,i<=n/\S 16 = .I i/\(∀j,j<i->o.err fP gh mo j=0)/\Ext w w' /\
   ∃es c,w'.heap[b]? = some (.map es c)/\iQ Value.string es.toList (seen ((List.range i).map gh)))
  (fun S _=>(n - intOf (S 16)).toNat) ⟨0,AK,by refine aT ?_;rfl,fun _ h=>absurd h (K8 _),ai,_,_,o8,rfl⟩ ?_
 rintro S aD cc ⟨i,U,ou,bI,he,es,c,hm,l8⟩;have af:=cc 0 rfl;have h1:=cc 1 rfl;have I:=cc 2 rfl;have ab:=cc 3 rfl;have kR:=cc 10 rfl;have nI:=cc 15 rfl;simp only[bN,Nat.reduceAdd,Nat.reduceEqDiff,reduceIte,kh,nG] at af h1 I ab kR nI;clear cc;refine ck (i_ af (i_ h1 (i_ I (i_ ab (i_ kR (i_ nI ou)))))) ?_;refine I_ (fun cg=>?_) (fun O9=>?_);rotate_left
 .refine aT ?_;refine⟨?_,he⟩;rw[o.pO fun j aF=>bI j AK]
 have stop:∀e:Int,o.err fP gh mo i=e->e≠0->o.first n.toNat (o.err fP gh mo)=((i:Int),e):=fun e h cz=>by
  rw[o.jH AK bI (by rw[h];exact cz),h]
 refine ck (i_ af (i_ h1 (i_ I (i_ ab (i_ kR (i_ nI ou)))))) ?_;refine V_ (first:=[]) Jw (cE i aD cg he) ?_;rintro _ aN ⟨rfl,ah⟩;refine ck (i_ af (i_ h1 (i_ I (i_ ab (i_ kR (i_ nI ou)))))) ?_;refine I_ (fun aV=>?_) (fun aV=>?_)
 .refine ck (i_ af (i_ h1 (i_ I (i_ ab (i_ kR (i_ nI ou)))))) ?_;refine I_ (fun h=>absurd h BN) (fun _=>?_);refine aT ?_;rw[stop 11 (by simp[o.err,aV]) BN];exact⟨rfl,he.trans ah⟩
 refine ck (i_ af (i_ h1 (i_ I (i_ ab (i_ kR (i_ nI ou)))))) ?_;refine J_ (La (gh i) aN (aO.ext (he.trans ah)) (gf i cg)) ?_;rintro _ aU ⟨rfl,ax⟩;refine ck (i_ af (i_ h1 (i_ I (i_ ab (i_ kR (i_ nI ou)))))) ?_;refine N_ (fun nP=>?_) (fun nP=>?_);rotate_left
 .refine ck (i_ af (i_ h1 (i_ I (i_ ab (i_ kR (i_ nI ou)))))) ?_;refine I_ (fun h=>absurd h BN) (fun _=>?_);refine aT ?_;rw[stop 6 (by simp[o.err,aV,nP]) BN];exact⟨rfl,(he.trans ah).trans ax⟩
 refine ck (i_ af (i_ h1 (i_ I (i_ ab (i_ kR (i_ nI ou)))))) ?_;have jY:aU.heap[b]? = some (.map es c):=ax.obj (ah.obj hm);obtain⟨r,nk,kn⟩:=zD Lu (gh i) es.toList _ 0 l8;rw[aqn] at kn;refine _m (.inr ⟨b,c,rfl,jY⟩) nk ?_;have uS:gh i∈(List.range i).map gh↔∃j,j<i/\gh j=gh i:=Bs
 by_cases fs:∃j,j<i/\gh j=gh i
 .rw[if_pos (uS.2 fs)] at kn;have aG:nn (.bool false) false r = .bool true:=by simp[nn,kn]
  rw[aG];refine ck (i_ af (i_ h1 (i_ I (i_ ab (i_ kR (i_ nI ou)))))) ?_;refine I_ (fun h=>absurd h BN) (fun _=>?_);refine aT ?_;rw[stop 7 (by simp[o.err,aV,nP,fs]) BN];exact⟨rfl,(he.trans ah).trans ax⟩
 rw[if_neg (fun h=>fs (uS.1 h))] at kn;have Ck:r=none:=by cases r<;>simp at kn ⊢
 subst Ck;have aG:nn (.bool false) false none = .bool false:=rfl;rw[aG];refine ck (i_ af (i_ h1 (i_ I (i_ ab (i_ kR (i_ nI ou)))))) ?_;refine V_ (first:=[]) lJ (cW i aU cg ((he.trans ah).trans ax)) ?_;rintro _ bt ⟨rfl,aI⟩;have hA:o.err fP gh mo i=mo i:=by simp[o.err,aV,nP,fs]
 refine ck (i_ af (i_ h1 (i_ I (i_ ab (i_ kR (i_ nI ou)))))) ?_;refine I_ (fun h=>?_) (fun h=>?_);rotate_left
 .refine aT ?_;rw[stop (mo i) hA h];exact⟨rfl,((he.trans ah).trans ax).trans aI⟩
 refine ck (i_ af (i_ h1 (i_ I (i_ ab (i_ kR (i_ nI ou)))))) ?_;have lM:=aI.obj jY;refine _t lM nk ?_;have ak:(fF bt b (su es c (.string (gh i)) (.bool true) none)).heap[b]? = some (su es c (.string (gh i)) (.bool true) none):=CR (cA lM);have aM:Ext w (fF bt b (su es c (.string (gh i)) (.bool true) none)):=(((he.trans ah).trans ax).trans aI).fF ao _;generalize fF bt b (su es c (.string (gh i)) (.bool true) none)=bz at ak aM;refine ck (i_ af (i_ h1 (i_ I (i_ ab (i_ kR (i_ nI ou)))))) ?_;refine Q_ AK ?_;refine ck (i_ af (i_ h1 (i_ I (i_ ab (i_ kR (i_ nI ou)))))) ?_;refine⟨⟨i+1,AK,rfl,fun j aF=>?_,aM,_,_,ak,?_⟩,by simp[intOf];omega⟩
 .by_cases bo:j<i
  .exact bI j bo
  .have:j=i:=AK
   subst this;rw[hA,h]
 .have:=iQ.push l8 (gh i) (.bool true) c
  simpa[seen,List.range_succ] using this
end Go.Proofs.R
end
section
namespace Go.Proofs.R
open Go Go.RowKit ba
theorem sx{α:Type}(f:α->ByteArray)(l:C_ α)(i:Nat)(h:i<l.length):o.nameAt f l i=f l[i]:=by simp[o.nameAt,h]
theorem aqf(i:Nat)(b:Nat)(v:B_)(l:C_ o.Scalar)(w:A_)(aC:o.ih w v l)(ao:w.cell? ⟨b,0,none⟩=some v)(U:i<l.length) :
  DD F.bv #[.I i,.pointer (some ⟨b,0,none⟩)] w fun v w'=>v = .string (o.nameAt (·.name) l i)/\Ext w w':=by
 obtain⟨aQ,cap,rfl,hlen⟩:=aC.form;refine br E.bv ?_;refine aT ?_;refine M_ ao ?_;refine aT ?_;obtain⟨a,rfl⟩:=aC.addr;have an:=(aC.at i U).cells 0 _ rfl;refine K_ i rfl U ?_;refine aT ?_;refine M_ an ?_;refine aT ?_;rw[sx _ _ _ U];exact⟨rfl,Ext.refl w⟩
theorem aqg(i:Nat)(b:Nat)(v:B_)(l:C_ o.Scalar)(w:A_)(aC:o.ih w v l)(ao:w.cell? ⟨b,0,none⟩=some v)(U:i<l.length) :
  DD F.c9 #[.I i,.pointer (some ⟨b,0,none⟩)] w fun v w'=>v = .I (o.vf l i)/\Ext w w':=by
 obtain⟨aQ,cap,rfl,hlen⟩:=aC.form;refine br E.c9 ?_;refine aT ?_;refine M_ ao ?_;refine aT ?_;obtain⟨a,rfl⟩:=aC.addr;have an:=(aC.at i U).cells 1 _ rfl;have aP:o.vf l i=if 1<=l[i].size/\l[i].size<=4 then 0 else 10:=by simp[o.vf,U]
 rw[aP];generalize l[i].size=z at an;refine K_ i rfl U ?_;refine aT ?_;refine M_ an ?_;refine aT ?_;refine I_ (fun h1=>?_) (fun h1=>?_)
 .refine aT ?_;rw[if_neg AK];exact⟨rfl,Ext.refl w⟩
 refine aT ?_;refine M_ ao ?_;refine aT ?_;refine K_ i rfl U ?_;refine aT ?_;refine M_ an ?_;refine aT ?_;refine I_ (fun h1=>?_) (fun h1=>?_)
 .refine aT ?_;rw[if_neg AK];exact⟨rfl,Ext.refl w⟩
 .refine aT ?_;rw[if_pos AK];exact⟨rfl,Ext.refl w⟩
theorem aqh(v:B_)(l:C_ o.Scalar)(w:A_)(aO:gK w)(aC:o.ih w v l) :
  DD F.H5 #[v] w fun v w'=>v = .tuple #[.I (o.scalars l).1,.I (o.scalars l).2]/\Ext w w':=by
 obtain⟨aQ,cap,rfl,hlen⟩:=aC.form;refine br E.H5 ?_;refine aT ?_;refine O_ fun w1 b ao ai al=>?_;have nf:=bn.ext o.kd.ext ai aC;have cM:w1.cell? ⟨b,0,none⟩=some (.slice aQ l.length cap):=BB al rfl;refine aT ?_;refine M_ cM ?_;refine aT ?_;refine J_ (QK l.length 2 AK (o.nameAt (·.name) l) (o.vf l) F.bv F.c9 [_] [_] Ct Ct w1 (aO.ext ai)
  (fun i U=>by rw[sx _ _ _ AK];obtain⟨a,rfl⟩:=aC.addr;exact(aC.at i AK).ok)
  (fun i w' U he=>aqf i b _ l w' (bn.ext o.kd.ext he nf) (he.cell cM) AK)
  (fun i w' U he=>aqg i b _ l w' (bn.ext o.kd.ext he nf) (he.cell cM) AK)) ?_
 rintro _ aD ⟨rfl,aj⟩;refine aT ?_;exact⟨rfl,ai.trans aj⟩
theorem HL(x:o.Var)(v:B_)(l:C_ o.Scalar)(w:A_)(aC:o.ih w v l) :
  DD F.Ii #[.agg x.enc.toArray,v] w fun v w'=>v = .tuple #[.I (o.bounds x l).1,.I (o.bounds x l).2]/\Ext w w':=by
 obtain⟨aQ,cap,rfl,hlen⟩:=aC.form;refine br E.Ii ?_;refine aT ?_;refine O_ fun w1 b ao ai al=>?_;have c1:w1.cell? (Addr.add ⟨b,0,none⟩ 1)=some (.I x.scalar):=fW al rfl;have bu:w1.cell? (Addr.add ⟨b,0,none⟩ 3)=some (.I x.aR):=fW al rfl;have bC:w1.cell? (Addr.add ⟨b,0,none⟩ 4)=some (.I x.U):=fW al rfl;refine aT ?_;refine M_ c1 ?_;refine aT ?_;refine I_ (fun h1=>?_) (fun h1=>?_)
 .refine aT ?_;refine M_ bu ?_;refine aT ?_;refine M_ bC ?_;refine aT ?_;intro aD aj;simp only[o.bounds,h1,if_true];exact⟨trivial,ai.trans aj⟩
 .refine aT ?_;refine M_ c1 ?_;refine aT ?_;refine J_ (RL x.scalar _ l w1 (bn.ext o.kd.ext ai aC)) ?_;rintro _ _ ⟨rfl,rfl⟩;refine aT ?_;simp only[o.bounds,h1,if_false];exact⟨trivial,ai⟩
theorem BC(x:o.Var)(v:B_)(l:C_ o.Scalar)(w:A_)(aC:o.ih w v l) :
  DD F.sV #[.agg x.enc.toArray,v] w fun v w'=>v = .I (o.cells x l)/\Ext w w':=by
 obtain⟨aQ,cap,rfl,hlen⟩:=aC.form;refine br E.sV ?_;refine aT ?_;refine O_ fun w1 b ao ai al=>?_;have c2:w1.cell? (Addr.add ⟨b,0,none⟩ 2)=some (.I x.over):=fW al rfl;refine aT ?_;refine M_ c2 ?_;refine aT ?_;refine I_ (fun h1=>?_) (fun h1=>?_)
 .refine aT ?_;simp only[o.cells,h1,if_true];exact⟨trivial,ai⟩
 .refine aT ?_;refine M_ c2 ?_;refine aT ?_;refine J_ (RL x.over _ l w1 (bn.ext o.kd.ext ai aC)) ?_;rintro _ _ ⟨rfl,rfl⟩;refine aT ?_;simp only[o.cells,h1,if_false];exact⟨trivial,ai⟩
theorem arF(i:Nat)(b:Nat)(v:B_)(l:C_ o.Var)(w:A_)(aC:o.h3 w v l)(ao:w.cell? ⟨b,0,none⟩=some v)(U:i<l.length) :
  DD F.pG #[.I i,.pointer (some ⟨b,0,none⟩)] w fun v w'=>v = .string (o.nameAt (·.name) l i)/\Ext w w':=by
 obtain⟨aQ,cap,rfl,hlen⟩:=aC.form;refine br E.pG ?_;refine aT ?_;refine M_ ao ?_;refine aT ?_;obtain⟨a,rfl⟩:=aC.addr;have an:=(aC.at i U).cells 0 _ rfl;refine K_ i rfl U ?_;refine aT ?_;refine M_ an ?_;refine aT ?_;rw[sx _ _ _ U];exact⟨rfl,Ext.refl w⟩
theorem arG(i:Nat)(b bS:Nat)(v v2:B_)(l:C_ o.Var)(s:C_ o.Scalar)(w:A_)(aC:o.h3 w v l)(ak:o.ih w v2 s)(ao:w.cell? ⟨b,0,none⟩=some v)(dm:w.cell? ⟨bS,0,none⟩=some v2)
  (U:i<l.length):DD F.ij #[.I i,.pointer (some ⟨b,0,none⟩),.pointer (some ⟨bS,0,none⟩)] w fun v w'=>v = .I (o.p7 l s i)/\Ext w w':=by
 obtain⟨aQ,cap,rfl,hlen⟩:=aC.form;obtain⟨xc,zq,rfl,E5⟩:=ak.form;refine br E.ij ?_;refine aT ?_;refine M_ ao ?_;refine aT ?_;obtain⟨a,rfl⟩:=aC.addr;have an:=(aC.at i U).cells;have aP:o.p7 l s i=if o.there l[i].scalar s=false\/o.there l[i].over s=false then 8
  else if (l[i].scalar=0/\o.narrow l[i].aR l[i].U=false)\/l[i].init<(o.bounds l[i] s).1\/l[i].init > (o.bounds l[i] s).2 then 10 else 0:=by simp[o.p7,U]
 rw[aP];clear aP;generalize l[i]=x at an;refine K_ i rfl U ?_;refine aT ?_;refine Z_ an rfl ?_;refine aT ?_;refine O_ fun w1 q ar ai al=>?_;refine aT ?_;refine T_ al rfl rfl (by simp[o.Var.enc,Value.oneCell']) fun aD hw av=>?_;have aj:Ext w aD:=hw.ext ai ar;clear hw al ai w1;have c1:aD.cell? (Addr.add ⟨q,0,none⟩ 1)=some (.I x.scalar):=fW av rfl;have c2:aD.cell? (Addr.add ⟨q,0,none⟩ 2)=some (.I x.over):=fW av rfl;have r5:aD.cell? (Addr.add ⟨q,0,none⟩ 5)=some (.I x.init):=fW av rfl;have d2:=aj.cell dm;have ep:=bn.ext o.kd.ext aj ak;refine aT ?_;refine M_ c1 ?_;refine aT ?_;refine M_ d2 ?_;refine aT ?_;refine J_ (R2 x.scalar _ s aD ep) ?_;rintro _ _ ⟨rfl,rfl⟩;refine aT ?_;refine N_ (fun h1=>?_) (fun h1=>?_);rotate_left
 .refine aT ?_;simp only[h1,true_or,if_true];exact⟨trivial,aj⟩
 refine aT ?_;refine M_ c2 ?_;refine aT ?_;refine M_ d2 ?_;refine aT ?_;refine J_ (R2 x.over _ s _ ep) ?_;rintro _ _ ⟨rfl,rfl⟩;refine aT ?_;refine N_ (fun I=>?_) (fun I=>?_);rotate_left
 .refine aT ?_;simp only[I,or_true,if_true];exact⟨trivial,aj⟩
 refine aT ?_;refine Z_ (gT av) rfl ?_;refine aT ?_;refine M_ d2 ?_;refine aT ?_;refine J_ (HL x _ s _ ep) ?_;rintro _ aN ⟨rfl,ah⟩;rename_i avo;have bB:=ah.cell c1;have bJ:=ah.cell r5;have he:=aj.trans ah;refine aT ?_;refine M_ bB ?_;have dg:¬(o.there x.scalar s=false\/o.there x.over s=false):=by simp[h1,I]
 refine aT ?_;refine I_ (fun ab=>?_) (fun ab=>?_)
 .refine aT ?_;have qn:o.bounds x s=(x.aR,x.U):=by simp[o.bounds,ab]
  rw[qn];refine J_ (aaJ x.aR x.U aN) ?_;rintro _ _ ⟨rfl,rfl⟩;refine aT ?_;refine N_ (fun aH=>?_) (fun aH=>?_);rotate_left
  .refine aT ?_;rw[if_neg dg,if_pos (.inl ⟨ab,aH⟩)];exact⟨rfl,he⟩
  refine aT ?_;refine M_ bJ ?_;refine aT ?_;refine I_ (fun a8=>?_) (fun a8=>?_)
  .refine aT ?_;rw[if_neg dg,if_pos (.inr (.inl a8))];exact⟨rfl,he⟩
  refine aT ?_;refine M_ bJ ?_;refine aT ?_;refine I_ (fun bE=>?_) (fun bE=>?_)
  .refine aT ?_;rw[if_neg dg,if_pos (.inr (.inr bE))];exact⟨rfl,he⟩
  .refine aT ?_;rw[if_neg dg,if_neg (by rw[aH];simp;omega)];exact⟨rfl,he⟩
 .refine aT ?_;refine M_ bJ ?_;refine aT ?_;refine I_ (fun a8=>?_) (fun a8=>?_)
  .refine aT ?_;rw[if_neg dg,if_pos (.inr (.inl a8))];exact⟨rfl,he⟩
  refine aT ?_;refine M_ bJ ?_;refine aT ?_;refine I_ (fun bE=>?_) (fun bE=>?_)
  .refine aT ?_;rw[if_neg dg,if_pos (.inr (.inr bE))];exact⟨rfl,he⟩
  .refine aT ?_;rw[if_neg dg,if_neg (by simp[ab];omega)];exact⟨rfl,he⟩
theorem ac4(v v2:B_)(l:C_ o.Var)(s:C_ o.Scalar)(fP:Int)(w:A_)(aO:gK w)(aC:o.h3 w v l)(ak:o.ih w v2 s) :
  DD F.q5 #[v,v2,.I fP] w fun v w'=>v = .tuple #[.I (o.vars l s fP).1,.I (o.vars l s fP).2]/\Ext w w':=by
 obtain⟨aQ,cap,rfl,hlen⟩:=aC.form;obtain⟨xc,zq,rfl,E5⟩:=ak.form;refine br E.q5 ?_;refine aT ?_;refine O_ fun w1 b ao ai al=>?_;refine aT ?_;refine O_ fun aD bS dm aj av=>?_;have he:=ai.trans aj;have nf:=bn.ext o.qX.ext he aC;have fp:=bn.ext o.kd.ext he ak;have d1:aD.cell? ⟨b,0,none⟩=some (.slice aQ l.length cap):=BB (aj.obj al) rfl;have d2:aD.cell? ⟨bS,0,none⟩=some (.slice xc s.length zq):=BB av rfl;refine aT ?_;refine M_ d1 ?_;refine aT ?_;refine J_ (QK l.length (max fP 0) AK (o.nameAt (·.name) l) (o.p7 l s) F.pG F.ij [_] [_,_] Ct Ct aD (aO.ext he)
  (fun i U=>by rw[sx _ _ _ AK];obtain⟨a,rfl⟩:=aC.addr;exact(aC.at i AK).ok)
  (fun i w' U he=>arF i b _ l w' (bn.ext o.qX.ext he nf) (he.cell d1) AK)
  (fun i w' U he=>arG i b bS _ _ l s w' (bn.ext o.qX.ext he nf) (bn.ext o.kd.ext he fp) (he.cell d1) (he.cell d2) AK)) ?_
 rintro _ aN ⟨rfl,ah⟩;refine aT ?_;exact⟨rfl,he.trans ah⟩
theorem afv(i:Nat)(b:Nat)(v:B_)(l:C_ o.dB)(w:A_)(aC:o.mT w v l)(ao:w.cell? ⟨b,0,none⟩=some v)(U:i<l.length) :
  DD F.bM #[.I i,.pointer (some ⟨b,0,none⟩)] w fun v w'=>v = .string (o.nameAt (·.name) l i)/\Ext w w':=by
 obtain⟨aQ,cap,rfl,hlen⟩:=aC.form;refine br E.bM ?_;refine aT ?_;refine M_ ao ?_;refine aT ?_;obtain⟨a,rfl⟩:=aC.addr;have an:=(aC.at i U).cells 0 _ rfl;refine K_ i rfl U ?_;refine aT ?_;refine M_ an ?_;refine aT ?_;rw[sx _ _ _ U];exact⟨rfl,Ext.refl w⟩
theorem afw(i:Nat)(b bS:Nat)(v v2:B_)(l:C_ o.dB)(s:C_ o.Scalar)(w:A_)(aC:o.mT w v l)(ak:o.ih w v2 s)(ao:w.cell? ⟨b,0,none⟩=some v)(dm:w.cell? ⟨bS,0,none⟩=some v2)
  (U:i<l.length):DD F.kM #[.I i,.pointer (some ⟨b,0,none⟩),.pointer (some ⟨bS,0,none⟩)] w fun v w'=>v = .I (o.pL l s i)/\Ext w w':=by
 obtain⟨aQ,cap,rfl,hlen⟩:=aC.form;obtain⟨xc,zq,rfl,E5⟩:=ak.form;refine br E.kM ?_;refine aT ?_;refine M_ ao ?_;refine aT ?_;obtain⟨a,rfl⟩:=aC.addr;have an:=(aC.at i U).cells;have aP:o.pL l s i=if o.there l[i].scalar s=false then 8
  else if l[i].cap<1\/l[i].cap > 4\/(l[i].scalar=0/\o.narrow l[i].aR l[i].U=false) then 10 else 0:=by simp[o.pL,U]
 rw[aP];clear aP;generalize l[i]=x at an;refine K_ i rfl U ?_;refine aT ?_;refine Z_ an rfl ?_;refine aT ?_;refine O_ fun w1 q ar ai al=>?_;refine aT ?_;refine T_ al rfl rfl (by simp[o.dB.enc,Value.oneCell']) fun aD hw av=>?_;have aj:Ext w aD:=hw.ext ai ar;clear hw al ai w1;have c1:aD.cell? (Addr.add ⟨q,0,none⟩ 1)=some (.I x.scalar):=fW av rfl;have c2:aD.cell? (Addr.add ⟨q,0,none⟩ 2)=some (.I x.cap):=fW av rfl;have bu:aD.cell? (Addr.add ⟨q,0,none⟩ 3)=some (.I x.aR):=fW av rfl;have bC:aD.cell? (Addr.add ⟨q,0,none⟩ 4)=some (.I x.U):=fW av rfl;have d2:=aj.cell dm;have ep:=bn.ext o.kd.ext aj ak;refine aT ?_;refine M_ c1 ?_;refine aT ?_;refine M_ d2 ?_;refine aT ?_;refine J_ (R2 x.scalar _ s aD ep) ?_;rintro _ _ ⟨rfl,rfl⟩;refine aT ?_;refine N_ (fun h1=>?_) (fun h1=>?_);rotate_left
 .refine aT ?_;simp only[h1,if_true];exact⟨trivial,aj⟩
 have dg:¬(o.there x.scalar s=false):=by simp[h1]
 refine aT ?_;refine M_ c2 ?_;refine aT ?_;refine I_ (fun I=>?_) (fun I=>?_)
 .refine aT ?_;rw[if_neg dg,if_pos (.inl I)];exact⟨rfl,aj⟩
 refine aT ?_;refine M_ c2 ?_;refine aT ?_;refine I_ (fun ab=>?_) (fun ab=>?_)
 .refine aT ?_;rw[if_neg dg,if_pos (.inr (.inl ab))];exact⟨rfl,aj⟩
 refine aT ?_;refine M_ c1 ?_;refine aT ?_;refine I_ (fun aH=>?_) (fun aH=>?_)
 .refine aT ?_;refine M_ bu ?_;refine aT ?_;refine M_ bC ?_;refine aT ?_;refine J_ (aaJ x.aR x.U _) ?_;rintro _ _ ⟨rfl,rfl⟩;refine aT ?_;refine N_ (fun a8=>?_) (fun a8=>?_)
  .refine aT ?_;rw[if_neg dg,if_neg (by rw[a8];simp;omega)];exact⟨rfl,aj⟩
  .refine aT ?_;rw[if_neg dg,if_pos (.inr (.inr ⟨aH,a8⟩))];exact⟨rfl,aj⟩
 .refine aT ?_;rw[if_neg dg,if_neg (by simp[aH];omega)];exact⟨rfl,aj⟩
theorem afy(v v2:B_)(l:C_ o.dB)(s:C_ o.Scalar)(w:A_)(aO:gK w)(aC:o.mT w v l)(ak:o.ih w v2 s) :
  DD F.ds #[v,v2] w fun v w'=>v = .tuple #[.I (o.aw l s).1,.I (o.aw l s).2]/\Ext w w':=by
 obtain⟨aQ,cap,rfl,hlen⟩:=aC.form;obtain⟨xc,zq,rfl,E5⟩:=ak.form;refine br E.ds ?_;refine aT ?_;refine O_ fun w1 b ao ai al=>?_;refine aT ?_;refine O_ fun aD bS dm aj av=>?_;have he:=ai.trans aj;have nf:=bn.ext o.qW.ext he aC;have fp:=bn.ext o.kd.ext he ak;have d1:aD.cell? ⟨b,0,none⟩=some (.slice aQ l.length cap):=BB (aj.obj al) rfl;have d2:aD.cell? ⟨bS,0,none⟩=some (.slice xc s.length zq):=BB av rfl;refine aT ?_;refine M_ d1 ?_;refine aT ?_;refine J_ (QK l.length 4 AK (o.nameAt (·.name) l) (o.pL l s) F.bM F.kM [_] [_,_] Ct Ct aD (aO.ext he)
  (fun i U=>by rw[sx _ _ _ AK];obtain⟨a,rfl⟩:=aC.addr;exact(aC.at i AK).ok)
  (fun i w' U he=>afv i b _ l w' (bn.ext o.qW.ext he nf) (he.cell d1) AK)
  (fun i w' U he=>afw i b bS _ _ l s w' (bn.ext o.qW.ext he nf) (bn.ext o.kd.ext he fp) (he.cell d1) (he.cell d2) AK)) ?_
 rintro _ aN ⟨rfl,ah⟩;refine aT ?_;exact⟨rfl,he.trans ah⟩
end Go.Proofs.R
end
section
end
section
namespace Go.Proofs.R
open Go Go.RowKit ba
theorem CG(k:Int)(v:B_)(l:C_ o.Scalar)(w:A_)(aC:o.ih w v l) :
  DD F.FO #[v,.I k] w fun v w'=>v = .I (o.size k l)/\w'=w:=by
 obtain⟨aQ,cap,rfl,hlen⟩:=aC.form;refine br E.FO ?_;refine aT ?_;refine I_ (fun h1=>?_) (fun h1=>?_)
 .refine aT ?_;rw[Lw (.inl h1)];exact⟨rfl,trivial⟩
 refine aT ?_;refine I_ (fun I=>?_) (fun I=>?_)
 .refine aT ?_;rw[Lw (.inr I)];exact⟨rfl,trivial⟩
 obtain⟨a,rfl⟩:=aC.addr;have an:=(aC.at (k.toNat - 1) AK).cells 1 _ rfl;have hk:(k - 1).toNat*2=(k.toNat - 1)*2:=AK
 rw[acr AK AK];rw[<-hk] at an;generalize l[k.toNat - 1].size=z at an
 (repeat' first
  | (refine I_ (fun _=>?_) (fun _=>?_)<;>try (exfalso;omega))
  | (refine N_ (fun _=>?_) (fun _=>?_))
  | (refine Q_ AK ?_)
  | (refine M_ Bz ?_)
  | (refine _a AK ?_)
  | simp -dsimp only[c7,cB,Nat.reduceAdd,Nat.reduceEqDiff,reduceIte,reduceCtorEq,df])
 .rw[if_neg AK];exact⟨rfl,trivial⟩
 .rw[if_neg AK];exact⟨rfl,trivial⟩
 .rw[if_pos AK];exact⟨rfl,trivial⟩
theorem Rq(x:o.Var)(v:B_)(l:C_ o.Scalar)(w:A_)(aC:o.ih w v l) :
  DD F.KA #[.agg x.enc.toArray,v] w fun v w'=>v = .tuple #[.I (o.bounds x l).1,.I (o.bounds x l).2]/\Ext w w':=by
 obtain⟨aQ,cap,rfl,hlen⟩:=aC.form;refine br E.KA ?_;refine aT ?_;refine O_ fun w1 b ao ai al=>?_;have c1:w1.cell? (Addr.add ⟨b,0,none⟩ 1)=some (.I x.scalar):=fW al rfl;have bu:w1.cell? (Addr.add ⟨b,0,none⟩ 3)=some (.I x.aR):=fW al rfl;have bC:w1.cell? (Addr.add ⟨b,0,none⟩ 4)=some (.I x.U):=fW al rfl;refine aT ?_;refine M_ c1 ?_;refine aT ?_;refine I_ (fun h1=>?_) (fun h1=>?_)
 .refine aT ?_;refine M_ bu ?_;refine aT ?_;refine M_ bC ?_;refine aT ?_;intro aD aj;simp only[o.bounds,h1,if_true];exact⟨trivial,ai.trans aj⟩
 .refine aT ?_;refine M_ c1 ?_;refine aT ?_;refine J_ (CG x.scalar _ l w1 (bn.ext o.kd.ext ai aC)) ?_;rintro _ _ ⟨rfl,rfl⟩;refine aT ?_;simp only[o.bounds,h1,if_false];exact⟨trivial,ai⟩
theorem Rr(x:o.Var)(v:B_)(l:C_ o.Scalar)(w:A_)(aC:o.ih w v l) :
  DD F.KB #[.agg x.enc.toArray,v] w fun v w'=>v = .I (o.cells x l)/\Ext w w':=by
 obtain⟨aQ,cap,rfl,hlen⟩:=aC.form;refine br E.KB ?_;refine aT ?_;refine O_ fun w1 b ao ai al=>?_;have c2:w1.cell? (Addr.add ⟨b,0,none⟩ 2)=some (.I x.over):=fW al rfl;refine aT ?_;refine M_ c2 ?_;refine aT ?_;refine I_ (fun h1=>?_) (fun h1=>?_)
 .refine aT ?_;simp only[o.cells,h1,if_true];exact⟨trivial,ai⟩
 .refine aT ?_;refine M_ c2 ?_;refine aT ?_;refine J_ (CG x.over _ l w1 (bn.ext o.kd.ext ai aC)) ?_;rintro _ _ ⟨rfl,rfl⟩;refine aT ?_;simp only[o.cells,h1,if_false];exact⟨trivial,ai⟩
end Go.Proofs.R
end
section
namespace Go.Proofs.R
open Go Go.RowKit ba
theorem abU(n:Int)(w:A_):DD F.Cu #[.int .u8 n] w fun v w'=>v = .bool (o.letter n)/\w'=w:=by
 refine br E.Cu ?_
 (repeat' first
  | (refine I_ (fun _=>?_) (fun _=>?_)<;>try (exfalso;omega))
  | (refine N_ (fun _=>?_) (fun _=>?_))
  | (refine Q_ AK ?_)
  | (refine M_ Bz ?_)
  | (refine _a AK ?_)
  | simp -dsimp only[c7,cB,Nat.reduceAdd,Nat.reduceEqDiff,reduceIte,reduceCtorEq,df])
 all_goals (refine⟨?_,by first | rfl | trivial⟩;congr 1;rw[AG4];simp[o.letter];omega)
theorem Ro(n:Int)(w:A_):DD F.Ax #[.int .u8 n] w fun v w'=>v = .bool (o.digit n)/\w'=w:=by
 refine br E.Ax ?_
 (repeat' first
  | (refine I_ (fun _=>?_) (fun _=>?_)<;>try (exfalso;omega))
  | (refine N_ (fun _=>?_) (fun _=>?_))
  | (refine Q_ AK ?_)
  | (refine M_ Bz ?_)
  | (refine _a AK ?_)
  | simp -dsimp only[c7,cB,Nat.reduceAdd,Nat.reduceEqDiff,reduceIte,reduceCtorEq,df])
 all_goals (refine⟨?_,by first | rfl | trivial⟩;congr 1;rw[AG4];simp[o.digit];omega)
def xk:C_ ByteArray:=[⟨#[58,61]⟩,⟨#[61,61]⟩,⟨#[33,61]⟩,⟨#[60,61]⟩,⟨#[45,62]⟩,⟨#[38,38]⟩,⟨#[124,124]⟩,⟨#[61,62]⟩,⟨#[40]⟩,⟨#[41]⟩,⟨#[91]⟩,⟨#[93]⟩,⟨#[123]⟩,⟨#[125]⟩,⟨#[59]⟩,⟨#[44]⟩,⟨#[58]⟩,⟨#[46]⟩,⟨#[60]⟩,⟨#[43]⟩,⟨#[45]⟩,⟨#[42]⟩,⟨#[33]⟩,⟨#[63]⟩,⟨#[64]⟩]
theorem aqv(w:A_):DD F.Km #[] w fun v w'=>(∃b,v = .slice (some ⟨b,0,none⟩) 25 25/\fi w' ⟨b,0,none⟩ (xk.map Value.string))/\Ext w w':=by
 refine br E.Km ?_;refine aT ?_;refine Y_ (cs:=xk.map Value.string) (by simp[List.range,List.range.loop,fa,lay,de,ot,bN,Value.cells,xk]) fun w1 bw cM ai al=>?_;refine aT ?_;exact⟨⟨bw,rfl,gT al⟩,ai⟩
theorem aeu(s:ByteArray)(w:A_)(h:0<s.size)(ak:s.size<=16) :
  DD F.Kl #[.string s,.I 0] w fun v w'=>(∃n k:Int,v = .tuple #[.I n,.I k]/\if o.letter (o.s7 s 0:Nat)=true then n=o.run o.part s/\k=1 else k≠1)/\Ext w w':=by
 refine br E.Kl ?_;refine aT ?_;refine _b (s.get! 0) BN (o.get?_eq s 0 h) ?_;refine aT ?_;refine J_ (abU _ w) ?_;rintro _ w ⟨rfl,rfl⟩;refine aT ?_;refine N_ (fun h1=>?_) (fun h1=>?_)
 .have re:o.letter (o.s7 s 0:Nat)=true:=h1;refine aT ?_;refine _A (fun S w' => ∃i:Nat,i<=s.size/\S 6 = .I i/\(∀j (aF:j<s.size),j<i->o.part s[j].toNat=true)/\w'=w)
   (fun S _=>(s.size - intOf (S 6)).toNat) ⟨0,AK,by refine aT ?_;rfl,fun _ _ h=>absurd h (K8 _),rfl⟩ ?_
  rintro S w cc ⟨i,U,bE,dI,rfl⟩;have af:=cc 0 rfl;have h1:=cc 1 rfl;simp only[bN,Nat.reduceAdd,Nat.reduceEqDiff,reduceIte,kh,nG] at af h1;clear cc;refine ck (i_ af (i_ h1 bE)) ?_;refine I_ (fun I=>?_) (fun I=>?_)
  .have cH:i<s.size:=AK
   refine ck (i_ af (i_ h1 bE)) ?_;refine _b (s.get! i) AK (o.get?_eq s i cH) ?_;rw[o.get_eq s i cH];refine ck (i_ af (i_ h1 bE)) ?_;refine J_ (abU _ _) ?_;rintro _ w ⟨rfl,rfl⟩;refine ck (i_ af (i_ h1 bE)) ?_;refine N_ (fun ab=>?_) (fun ab=>?_)
   .refine ck (i_ af (i_ h1 bE)) ?_;refine Q_ AK ?_;refine ck (i_ af (i_ h1 bE)) ?_;refine⟨⟨i+1,AK,rfl,fun j aF hM=>?_,trivial⟩,by simp[intOf];omega⟩;by_cases nc:j<i
    .exact dI j aF nc
    .have:j=i:=AK
     subst this;simp[o.part,ab]
   refine ck (i_ af (i_ h1 bE)) ?_;refine _b (s.get! i) AK (o.get?_eq s i cH) ?_;rw[o.get_eq s i cH];refine ck (i_ af (i_ h1 bE)) ?_;refine J_ (Ro _ _) ?_;rintro _ w ⟨rfl,rfl⟩;refine ck (i_ af (i_ h1 bE)) ?_;refine N_ (fun aH=>?_) (fun aH=>?_)
   .refine ck (i_ af (i_ h1 bE)) ?_;refine Q_ AK ?_;refine ck (i_ af (i_ h1 bE)) ?_;refine⟨⟨i+1,AK,rfl,fun j aF hM=>?_,trivial⟩,by simp[intOf];omega⟩;by_cases nc:j<i
    .exact dI j aF nc
    .have:j=i:=AK
     subst this;simp[o.part,aH]
   refine ck (i_ af (i_ h1 bE)) ?_;refine _b (s.get! i) AK (o.get?_eq s i cH) ?_;rw[o.get_eq s i cH];refine ck (i_ af (i_ h1 bE)) ?_;refine I_ (fun a8=>?_) (fun a8=>?_)
   .refine ck (i_ af (i_ h1 bE)) ?_;refine Q_ AK ?_;refine ck (i_ af (i_ h1 bE)) ?_;refine⟨⟨i+1,AK,rfl,fun j aF hM=>?_,trivial⟩,by simp[intOf];omega⟩;by_cases nc:j<i
    .exact dI j aF nc
    .have:j=i:=AK
     subst this;simp[o.part];omega
   .refine ck (i_ af (i_ h1 bE)) ?_;refine Q_ AK ?_;refine ck (i_ af (i_ h1 bE)) ?_;refine⟨⟨_,_,rfl,?_⟩,Ext.refl _⟩;rw[if_pos re];rw[o.ace o.part s i cH (fun j aF=>dI j AK aF) (by simp only[o.part,ab,aH,Bool.false_or,decide_eq_false_iff_not];omega)];exact⟨AK,rfl⟩
  .refine ck (i_ af (i_ h1 bE)) ?_;refine Q_ AK ?_;refine ck (i_ af (i_ h1 bE)) ?_;refine⟨⟨_,_,rfl,?_⟩,Ext.refl _⟩;rw[if_pos re];rw[o.ab5 o.part s (fun j aF=>dI j aF AK)];exact⟨AK,rfl⟩
 have re:o.letter (o.s7 s 0:Nat)=false:=h1;have fD:¬o.letter (o.s7 s 0:Nat)=true:=by simp[re]
 refine aT ?_;refine _b (s.get! 0) BN (o.get?_eq s 0 h) ?_;refine aT ?_;refine J_ (Ro _ w) ?_;rintro _ w ⟨rfl,rfl⟩;refine aT ?_;refine N_ (fun I=>?_) (fun I=>?_)
 .refine aT ?_;refine _A (fun S w' => ∃i:Nat,i<=s.size/\S 6 = .I i/\w'=w)
   (fun S _=>(s.size - intOf (S 6)).toNat) ⟨0,AK,by refine aT ?_;rfl,rfl⟩ ?_
  rintro S w cc ⟨i,U,bE,rfl⟩;have af:=cc 0 rfl;have h1:=cc 1 rfl;simp only[bN,Nat.reduceAdd,Nat.reduceEqDiff,reduceIte,kh,nG] at af h1;clear cc;refine ck (i_ af (i_ h1 bE)) ?_;refine I_ (fun I=>?_) (fun I=>?_)
  .have cH:i<s.size:=AK
   refine ck (i_ af (i_ h1 bE)) ?_;refine _b (s.get! i) AK (o.get?_eq s i cH) ?_;refine ck (i_ af (i_ h1 bE)) ?_;refine J_ (Ro _ _) ?_;rintro _ w ⟨rfl,rfl⟩;refine ck (i_ af (i_ h1 bE)) ?_;refine N_ (fun aH=>?_) (fun aH=>?_)
   .refine ck (i_ af (i_ h1 bE)) ?_;refine Q_ AK ?_;refine ck (i_ af (i_ h1 bE)) ?_;exact⟨⟨i+1,AK,rfl,trivial⟩,by simp[intOf];omega⟩
   .refine ck (i_ af (i_ h1 bE)) ?_;refine Q_ AK ?_;refine ck (i_ af (i_ h1 bE)) ?_;exact⟨⟨_,_,rfl,by rw[if_neg fD];decide⟩,Ext.refl _⟩
  .refine ck (i_ af (i_ h1 bE)) ?_;refine Q_ AK ?_;refine ck (i_ af (i_ h1 bE)) ?_;exact⟨⟨_,_,rfl,by rw[if_neg fD];decide⟩,Ext.refl _⟩
 refine aT ?_;refine J_ (aqv w) ?_;rintro _ w1 ⟨⟨b,rfl,an⟩,he⟩;refine aT ?_;refine _A (fun S w' => ∃i:Nat,i<=25/\S 8 = .I i/\Ext w1 w')
  (fun S _=>(25 - intOf (S 8)).toNat) ⟨0,AK,by refine aT ?_;rfl,Ext.refl _⟩ ?_
 rintro S w' cc ⟨i,U,dS,aj⟩;have af:=cc 0 rfl;have h1:=cc 1 rfl;have cj:=cc 7 rfl;simp only[bN,Nat.reduceAdd,Nat.reduceEqDiff,reduceIte,kh,nG] at af h1 cj;clear cc;refine ck (i_ af (i_ h1 (i_ cj dS))) ?_;refine I_ (fun I=>?_) (fun I=>?_)
 .have cH:i<xk.length:=by simp[xk];omega
  have gq:w'.cell? (Addr.add ⟨b,0,none⟩ (i*1))=some (.string xk[i]):=by
   rw[AG5];exact an.ext aj i _ (by rw[List.getElem?_map,List.getElem?_eq_getElem cH];rfl)
  have bI:xk[i].size<=2:=by
   have:∀x∈xk,x.size<=2:=BN
   exact this _ (GR _)
  generalize xk[i]=x at gq bI;refine ck (i_ af (i_ h1 (i_ cj dS))) ?_;refine Q_ AK ?_;refine ck (i_ af (i_ h1 (i_ cj dS))) ?_;refine K_ i rfl AK ?_;refine ck (i_ af (i_ h1 (i_ cj dS))) ?_;refine M_ gq ?_;refine ck (i_ af (i_ h1 (i_ cj dS))) ?_;refine I_ (fun ab=>?_) (fun ab=>?_)
  .refine ck (i_ af (i_ h1 (i_ cj dS))) ?_;refine K_ i rfl AK ?_;refine ck (i_ af (i_ h1 (i_ cj dS))) ?_;refine M_ gq ?_;refine ck (i_ af (i_ h1 (i_ cj dS))) ?_;refine Q_ AK ?_;refine ck (i_ af (i_ h1 (i_ cj dS))) ?_;refine AA7 0 x.size (by simp[eG,de,bN,h1]) (by simp[eG,de,bN,h1]) AK ?_;refine ck (i_ af (i_ h1 (i_ cj dS))) ?_;refine K_ i rfl AK ?_;refine ck (i_ af (i_ h1 (i_ cj dS))) ?_;refine M_ gq ?_;refine ck (i_ af (i_ h1 (i_ cj dS))) ?_;intro aD ah;refine I_ (fun aH=>?_) (fun aH=>?_)
   .refine ck (i_ af (i_ h1 (i_ cj dS))) ?_;refine K_ i rfl AK ?_;refine ck (i_ af (i_ h1 (i_ cj dS))) ?_;refine M_ (ah.cell gq) ?_;refine ck (i_ af (i_ h1 (i_ cj dS))) ?_;exact⟨⟨_,_,rfl,by rw[if_neg fD];decide⟩,he.trans (aj.trans ah)⟩
   .refine ck (i_ af (i_ h1 (i_ cj dS))) ?_;refine Q_ AK ?_;refine ck (i_ af (i_ h1 (i_ cj dS))) ?_;exact⟨⟨i+1,AK,rfl,aj.trans ah⟩,by simp[intOf];omega⟩
  .refine ck (i_ af (i_ h1 (i_ cj dS))) ?_;intro aD ah;refine Q_ AK ?_;refine ck (i_ af (i_ h1 (i_ cj dS))) ?_;exact⟨⟨i+1,AK,rfl,aj.trans ah⟩,by simp[intOf];omega⟩
 .refine ck (i_ af (i_ h1 (i_ cj dS))) ?_;exact⟨⟨_,_,rfl,by rw[if_neg fD];decide⟩,he.trans aj⟩
theorem CK(s:ByteArray)(w:A_)(ak:s.size<=9223372036854775807):DD F.Kk #[.string s] w fun v w'=>v = .bool (o.isName s)/\Ext w w':=by
 refine br E.Kk ?_;refine aT ?_;refine I_ (fun af=>?_) (fun af=>?_)
 .refine aT ?_;refine⟨?_,Ext.refl w⟩;subst af;rfl
 have bI:s.size≠0:=fun h=>af (by
  cases s with | mk d =>
  have:d=#[]:=by simpa[ByteArray.size] using h
  rw[this])
 refine aT ?_;refine I_ (fun h1=>?_) (fun h1=>?_)
 .refine aT ?_;refine⟨?_,Ext.refl w⟩
  have:¬s.size<=16:=AK
  simp[o.isName,this]
 have re:s.size<=16:=AK
 refine aT ?_;refine I_ (fun I=>?_) (fun I=>?_)
 .refine aT ?_;exact⟨by subst I;exact congrArg Value.bool (by decide +kernel),Ext.refl w⟩
 refine aT ?_;refine I_ (fun ab=>?_) (fun ab=>?_)
 .refine aT ?_;exact⟨by subst ab;exact congrArg Value.bool (by decide +kernel),Ext.refl w⟩
 refine aT ?_;refine I_ (fun aH=>?_) (fun aH=>?_)
 .refine aT ?_;exact⟨by subst aH;exact congrArg Value.bool (by decide +kernel),Ext.refl w⟩
 refine aT ?_;refine I_ (fun a8=>?_) (fun a8=>?_)
 .refine aT ?_;exact⟨by subst a8;exact congrArg Value.bool (by decide +kernel),Ext.refl w⟩
 have hm:s∉o.rG:=by simp[o.rG,I,ab,aH,a8]
 refine aT ?_;refine J_ (aeu s w AK re) ?_;rintro _ w1 ⟨⟨n,k,rfl,mF⟩,he⟩;refine aT ?_;refine I_ (fun bE=>?_) (fun bE=>?_)
 .refine aT ?_;refine⟨?_,he⟩;have aC:o.letter (o.s7 s 0:Nat)=true:=by
   by_cases ag:o.letter (o.s7 s 0:Nat)=true
   .exact ag
   .rw[if_neg ag] at mF;exact absurd bE mF
  rw[if_pos aC] at mF;congr 1;simp[o.isName,aC,bI,re,hm,mF.1];omega
 .refine aT ?_;refine⟨?_,he⟩;have aC:o.letter (o.s7 s 0:Nat)=false:=by
   by_cases ag:o.letter (o.s7 s 0:Nat)=true
   .rw[if_pos ag] at mF;exact absurd mF.2 bE
   .simpa using ag
  simp[o.isName,aC]
end Go.Proofs.R
end
section
namespace Go.Proofs.R
open Go Go.RowKit ba
theorem zC{fP:Int}{gh:Nat->ByteArray}{mo:Nat->Int}{i:Nat}(h:fP<=i):o.err fP gh mo i=11:=by rw[o.err,if_pos h]
theorem BG{fP:Int}{gh:Nat->ByteArray}{mo:Nat->Int}{i:Nat}(h:¬fP<=i)(I:o.isName (gh i)=false):o.err fP gh mo i=6:=by rw[o.err,if_neg h,if_pos I]
theorem NM{fP:Int}{gh:Nat->ByteArray}{mo:Nat->Int}{i j:Nat}(h:¬fP<=i)(I:o.isName (gh i)=true)(aF:j<i)(he:gh j=gh i):o.err fP gh mo i=7:=by
 rw[o.err,if_neg h,if_neg (by simp[I]),if_pos ⟨j,aF,he⟩]
theorem NL{fP:Int}{gh:Nat->ByteArray}{mo:Nat->Int}{i:Nat}(h:¬fP<=i)(I:o.isName (gh i)=true)(aF:∀j,j<i->gh j≠gh i):o.err fP gh mo i=mo i:=by
 rw[o.err,if_neg h,if_neg (by simp[I]),if_neg (fun⟨j,h1,I⟩=>aF j h1 I)]
theorem aaB{fP:Int}{gh:Nat->ByteArray}{mo:Nat->Int}{i:Nat}(hm:0<=fP)(h:∀j,j<i->o.err fP gh mo j=0):(i:Int)<=fP:=by
 by_cases ag:(i:Int)<=fP
 .exact ag
 .have:=h fP.toNat AK
  rw[zC AK] at this;cases this
theorem apC(v:B_)(l:C_ o.Scalar)(w:A_)(aC:o.ih w v l) :
  DD F.KD #[v] w fun v w'=>v = .tuple #[.I (o.scalars l).1,.I (o.scalars l).2]/\Ext w w':=by
 obtain⟨aQ,cap,rfl,hlen⟩:=aC.form;refine br E.KD ?_;simp -dsimp only[c7,cB,Nat.reduceAdd,Nat.reduceEqDiff,reduceIte,reduceCtorEq,df];refine _A (fun S w' => ∃i:Nat,i<=l.length/\S 4 = .I i/\(∀j,j<i->o.err 2 (o.nameAt (·.name) l) (o.vf l) j=0)/\Ext w w')
  (fun S _=>(l.length - intOf (S 4)).toNat) ⟨0,AK,by simp -dsimp only[c7,cB,Nat.reduceAdd,Nat.reduceEqDiff,reduceIte,reduceCtorEq,df];rfl,fun _ h=>absurd h (K8 _),Ext.refl _⟩ ?_
 rintro S w' cc ⟨i,U,aH,dI,he⟩;have af:=cc 0 rfl;simp only[bN,Nat.reduceAdd,Nat.reduceEqDiff,reduceIte,kh,nG] at af;clear cc;have qA:=aaB AK dI;refine ck (i_ af aH) ?_;apply I_<;>intro g1;rotate_left
 .refine ck (i_ af aH) ?_;rw[o.scalars,o.pO (fun j aF=>dI j AK)];exact⟨rfl,he⟩
 have cH:i<l.length:=AK
 obtain⟨a,rfl⟩:=aC.addr;have iK:=bn.ext o.kd.ext he aC;have tr:=(iK.at i cH).cells 0 _ rfl;have al:=(iK.at i cH).cells 1 _ rfl;have dh:o.jN l[i].name:=(iK.at i cH).ok;have gf:o.nameAt (fun x:o.Scalar=>x.name) l i=l[i].name:=sx _ _ _ cH;refine ck (i_ af aH) ?_;apply I_<;>intro g2
 .refine ck (i_ af aH) ?_;rw[o.scalars,o.jH cH dI (by rw[zC AK];decide),zC AK];exact⟨rfl,he⟩
 have hm:¬(2:Int)<=(i:Int):=AK
 refine ck (i_ af aH) ?_;refine K_ i rfl cH ?_;refine ck (i_ af aH) ?_;refine M_ tr ?_;refine ck (i_ af aH) ?_;refine J_ (CK _ _ dh) ?_;rintro _ aD ⟨rfl,aj⟩;refine ck (i_ af aH) ?_;refine N_ (fun g3=>?_) (fun g3=>?_);rotate_left
 .refine ck (i_ af aH) ?_;rw[<-gf] at g3;rw[o.scalars,o.jH cH dI (by rw[BG hm g3];decide),BG hm g3];exact⟨rfl,he.trans aj⟩
 have rb:=g3;rw[<-gf] at rb;replace aj:=he.trans aj;clear he iK;refine ck (i_ af aH) ?_;refine _A (fun a6 w' => ∃k:Nat,k<=i/\a6 5 = .I k/\(∀j,j<k->o.nameAt (fun x:o.Scalar=>x.name) l j≠o.nameAt (fun x:o.Scalar=>x.name) l i)/\Ext w w')
  (fun S _=>(i - intOf (S 5)).toNat) ⟨0,AK,by simp -dsimp only[c7,cB,Nat.reduceAdd,Nat.reduceEqDiff,reduceIte,reduceCtorEq,df];rfl,fun _ h=>absurd h (K8 _),aj⟩ ?_
 rintro k7 aN kS ⟨k,hk,a8,cz,ah⟩;have b6:=af;have ca:=aH;have af:=kS 0 rfl;have aH:=kS 4 rfl;simp only[bN,Nat.reduceAdd,Nat.reduceEqDiff,reduceIte,kh,nG] at af aH;clear kS;rw[b6] at af;rw[ca] at aH;have iK:=bn.ext o.kd.ext ah aC;have tr:=(iK.at i cH).cells 0 _ rfl;have al:=(iK.at i cH).cells 1 _ rfl;refine ck (i_ af (i_ aH a8)) ?_;apply I_<;>intro g4
 .have a1:k<l.length:=AK
  have l7:=(iK.at k a1).cells 0 _ rfl;have mF:o.nameAt (fun x:o.Scalar=>x.name) l k=l[k].name:=sx _ _ _ a1;refine ck (i_ af (i_ aH a8)) ?_;refine K_ k rfl a1 ?_;refine ck (i_ af (i_ aH a8)) ?_;refine M_ l7 ?_;refine ck (i_ af (i_ aH a8)) ?_;refine K_ i rfl cH ?_;refine ck (i_ af (i_ aH a8)) ?_;refine M_ tr ?_;refine ck (i_ af (i_ aH a8)) ?_;intro aU ax;apply I_<;>intro g5
  .refine ck (i_ af (i_ aH a8)) ?_;have aB:=NM (mo:=o.vf l) hm rb (show k<i by omega) (by rw[mF,gf];exact g5);rw[o.scalars,o.jH cH dI (by rw[aB];decide),aB];exact⟨rfl,ah.trans ax⟩
  .refine ck (i_ af (i_ aH a8)) ?_;refine Q_ AK ?_;refine ck (i_ af (i_ aH a8)) ?_;refine⟨⟨k+1,AK,rfl,fun j aF=>?_,ah.trans ax⟩,by simp[intOf];omega⟩;by_cases hh:j<k
   .exact cz j hh
   .have:j=k:=AK
    subst this;rw[mF,gf];exact g5
 have hA:=NL (mo:=o.vf l) hm rb (fun j aF=>cz j AK);have Ai:o.vf l i=if 1<=l[i].size/\l[i].size<=4 then 0 else 10:=by simp[o.vf,cH]
 rw[Ai] at hA;generalize l[i].size=z at al hA;refine ck (i_ af (i_ aH a8)) ?_;refine K_ i rfl cH ?_;refine ck (i_ af (i_ aH a8)) ?_;refine M_ al ?_;refine ck (i_ af (i_ aH a8)) ?_;apply I_<;>intro g6
 .refine ck (i_ af (i_ aH a8)) ?_;rw[if_neg AK] at hA;rw[o.scalars,o.jH cH dI (by rw[hA];decide),hA];exact⟨rfl,ah⟩
 refine ck (i_ af (i_ aH a8)) ?_;refine K_ i rfl cH ?_;refine ck (i_ af (i_ aH a8)) ?_;refine M_ al ?_;refine ck (i_ af (i_ aH a8)) ?_;apply I_<;>intro g7
 .refine ck (i_ af (i_ aH a8)) ?_;rw[if_neg AK] at hA;rw[o.scalars,o.jH cH dI (by rw[hA];decide),hA];exact⟨rfl,ah⟩
 .refine ck (i_ af (i_ aH a8)) ?_;rw[if_pos AK] at hA;refine Q_ AK ?_;refine ck (i_ af (i_ aH a8)) ?_;refine⟨⟨i+1,AK,rfl,fun j aF=>?_,ah⟩,by simp[intOf,ca];omega⟩;by_cases hM:j<i
  .exact dI j hM
  .have:j=i:=AK
   subst this;exact hA
end Go.Proofs.R
end