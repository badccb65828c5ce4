/- Parts. -/
import Derived.Test.YtakmdjclehkglaaGreatDoorQasj
import Derived.Defers
import Derived.Recover
set_option linter.all false
set_option maxRecDepth 100000
set_option maxHeartbeats 16000000
section
namespace Go.Proofs.R
open Go Go.RowKit ba
structure kx(w0 w:World)(cy bw:Nat)(cs:List Value)(w':World)(L:List ByteArray):Prop where
 ext:Ext w0 w'
 mod:Mod (fun k=>k=cy) w w'
 box:w'.heap[bw]? = some (.cells cs.toArray T.d)
 set:ga w' cy L
 low:w0.heap.size<=cy
 ne:bw≠cy
section
variable{w0 w w' bO:World}{cy bw:Nat}{cs:List Value}{L nv:List ByteArray}
theorem kx.then(h:kx w0 w cy bw cs w' L)(he:Ext w' bO):kx w0 w cy bw cs bO L:=⟨h.ext.trans he,h.mod.trans he.mod,he.obj h.box,h.set.ext he,h.low,h.ne⟩
theorem kx.wr(h:kx w0 w cy bw cs w' L)(hw:dy cy w' bO)(ak:ga bO cy nv):kx w0 w cy bw cs bO nv:=⟨hw.ext h.ext h.low,h.mod.trans (hw.mod rfl),hw.obj h.box h.ne,ak,h.low,h.ne⟩
theorem kx.jB(h:kx w0 w cy bw cs w' L)(e:L=nv):kx w0 w cy bw cs w' nv:=e ▸ h
end
theorem ah1{w0:A_}(cs:C_ B_)(m:o.Model)(cy:Nat)(w:A_)(h:o.eh w0 cs m)(ei:Ext w0 w)(pS:w0.heap.size<=cy)(aO:gK w0)(ak:ga w cy []) :
  qY Tryz.prog F.pE #[.agg cs.toArray,.map (some cy)] w (fun _ w'=>(o.data m).cN=0/\Ext w0 w'/\Mod (fun k=>k=cy) w w'/\ga w' cy (o.nU m m.aw.length))
   (fun c w'=>(o.data m).cN≠0/\c=xp (o.data m)/\Ext w0 w'/\Mod (fun k=>k=cy) w w'):=by
 obtain⟨b6,bx,bR,c1,bX,c2,bZ,bu,ca,bC,rfl,af,h1,I,ab,aH,e2,eE,eJ,er,eH⟩:=h.form;refine _o lN E.pE Bp (args:=[_,_]) (Nat.le_of_ble_eq_true rfl) ?_;dsimp only[C.pE];refine oh ?_;refine aa ?_;intro w1 bw cM ai al;have st1:kx w0 w cy bw _ w1 []:=⟨ei.trans ai,ai.mod,al,ak.ext ai,pS,by have:=ak.lt;omega⟩;clear ak;refine aa ?_;refine J_ (aqh _ m.scalars w1 (aO.ext st1.ext) (af.ext st1.ext)) ?_;rintro _ aD ⟨rfl,aj⟩;replace st1:=st1.then aj;clear al;refine aa ?_;refine X_ (rO (o.scalars m.scalars).2 1 (o.scalars m.scalars).1 0 aD) ?_ ?_;rotate_left
 .rintro c _ ⟨g,rfl,rfl⟩;refine aa ?_;rw[o.Wh g];exact⟨g,rfl,st1.ext,st1.mod⟩
 rintro _ _ ⟨cc,rfl⟩;have al:=st1.box;refine aa ?_;refine L_ 24 m.scalars.length [1,2,22,23] (fun _:Unit=>[]) () (fun k _ w'=>kx w0 w cy bw _ w' ((m.scalars.take k).map (·.name))) bc bc (st1.jB Bs) ?_;clear al aj st1;rintro k _ S aN hk mh;have al:=mh.box;have a7:=mh.ext;refine aa ?_;apply I_<;>intro g1
 .have a1:k<m.scalars.length:=AK
  obtain⟨a,rfl⟩:=af.addr;refine aa ?_;intro aU bW fe ax bl;have lB:=mh.then ax;refine aa ?_;refine _x lB.set fun bt hw rA=>?_;refine aa ?_;exact⟨a1,aL,(),trivial,(lB.wr hw rA).jB (o.CX _ _ a1).symm⟩
 replace mh:=mh.jB (show _=o.sw m 0 by rw[LJ AK];simp);refine aa ?_;refine J_ (ac4 _ _ m.vars m.scalars 12 aN (aO.ext a7) (h1.ext a7) (af.ext a7)) ?_;rintro _ aU ⟨rfl,ax⟩;replace mh:=mh.then ax;clear al a7;have al:=mh.box;rw[o.arH];refine aa ?_;refine L_ 43 m.vars.length [1,2,4,5,41,42] (fun _:Unit=>[]) () (fun k _ w'=>kx w0 w cy bw _ w' (o.sw m k)/\∀j,j<k->o.jW m j=0) bc bc ⟨mh,fun j h=>absurd h (K8 _)⟩ ?_;clear al mh ax;rintro k _ a6 bt hk ⟨iD,bI⟩;have al:=iD.box;have bJ:=iD.ext;refine aa ?_;apply I_<;>intro g1
 .have a1:k<m.vars.length:=AK
  obtain⟨a,rfl⟩:=h1.addr;have gf:=o.Cy (f:=fun x:o.Var=>x.name) a1;refine aa ?_;intro C3 ik l6 nJ ri;refine eb ?_;intro bz gV cb;have aM:=gV.ext nJ l6;have hX:=iD.then aM;replace al:=hX.box;clear ri nJ;refine eb ?_;refine S_ [1,2,4,5,8,9,41,42,43] (fun _:Unit=>[]) (fun _ w'=>w'=bz/\o.oN m k=0) ?_ ?_
  .refine aa ?_;apply I_<;>intro g2
   .refine aa ?_;refine X_ (rO (o.first m.vars.length (o.oN m)).2 2 k 0 bz) ?_ ?_
    .rintro _ _ ⟨hr,rfl⟩;refine aa ?_;exact⟨(),trivial,aL,o.we hr k a1⟩
    .rintro c _ ⟨hr,rfl,rfl⟩;obtain⟨i,U,bB,aJ⟩:=o.W4 hr;obtain rfl:k=i:=AK
     rw[aJ] at hr;have lu:o.jW m k=o.oN m k:=by unfold o.jW;rw[if_pos hr]
     have bb:=o.H2 cc a1 bI (by rw[lu];exact hr);rw[lu] at bb;refine aa ?_;rw[bb,aJ];exact⟨hr,aL,hX.ext,hX.mod⟩
   .refine aa ?_;refine⟨(),trivial,aL,?_⟩;apply Classical.byContradiction;intro cz;apply g2;rw[o.jH a1 (fun j aF=>o.L1 (bI j aF)) cz]
  rintro _ k7 _ ⟨rfl,jb⟩;refine aa ?_;refine X_ (LO cy (o.sw m k) m.vars[k].name 2 k _ hX.set) ?_ ?_
  .rintro _ bK ⟨az,dL,ko⟩;refine aa ?_;refine⟨a1,aL,(),trivial,(hX.wr dL ko).jB (by simp only[o.sw,o.AB];rw[o.CX (fun x:o.Var=>x.name) _ a1,Vq]),fun j aF=>?_⟩;by_cases hh:j=k
   .subst hh;unfold o.jW;rw[if_neg (by simpa using jb),gf,if_neg az]
   .exact bI j AK
  .rintro c _ ⟨az,rfl,rfl⟩;have lu:o.jW m k=7:=by unfold o.jW;rw[if_neg (by simpa using jb),gf,if_pos az]
   have bb:=o.H2 cc a1 bI (by rw[lu];decide);rw[lu] at bb;refine aa ?_;rw[bb];exact⟨(show(7:Int)≠0 by decide),aL,hX.ext,hX.mod⟩
 have l8:m.vars.length<=k:=AK
 have nb:∀j,j<m.vars.length->o.jW m j=0:=fun j aF=>bI j AK;replace iD:=iD.jB (show _=o.nU m 0 by simp only[o.nU,o.sw,o.AB,o.AA];rw[LJ l8];simp);refine aa ?_;refine J_ (afy _ _ m.aw m.scalars bt (aO.ext bJ) (I.ext bJ) (af.ext bJ)) ?_;rintro _ bz ⟨rfl,aM⟩;replace iD:=iD.then aM;clear al bJ;have al:=iD.box;rw[o.afx];refine aa ?_;refine L_ 71 m.aw.length [1,2,4,5,69,70] (fun _:Unit=>[]) () (fun k _ w'=>kx w0 w cy bw _ w' (o.nU m k)/\∀j,j<k->o.kQ m j=0) bc bc ⟨iD,fun j h=>absurd h (K8 _)⟩ ?_;clear al iD aM;rintro k _ a6 bK hk ⟨jM,bI⟩;have al:=jM.box;have dz:=jM.ext;refine aa ?_;apply I_<;>intro g1
 .have a1:k<m.aw.length:=AK
  obtain⟨a,rfl⟩:=I.addr;have gf:=o.Cy (f:=fun x:o.dB=>x.name) a1;refine aa ?_;intro C3 ik l6 nJ ri;refine eb ?_;intro bz gV cb;have aM:=gV.ext nJ l6;have hX:=jM.then aM;replace al:=hX.box;clear ri nJ;refine eb ?_;refine S_ [1,2,4,5,10,11,69,70,71] (fun _:Unit=>[]) (fun _ w'=>w'=bz/\o.oq m k=0) ?_ ?_
  .refine aa ?_;apply I_<;>intro g2
   .refine aa ?_;refine X_ (rO (o.first m.aw.length (o.oq m)).2 3 k 0 bz) ?_ ?_
    .rintro _ _ ⟨hr,rfl⟩;refine aa ?_;exact⟨(),trivial,aL,o.we hr k a1⟩
    .rintro c _ ⟨hr,rfl,rfl⟩;obtain⟨i,U,bB,aJ⟩:=o.W4 hr;obtain rfl:k=i:=AK
     rw[aJ] at hr;have lu:o.kQ m k=o.oq m k:=by unfold o.kQ;rw[if_pos hr]
     have bb:=o.HZ cc nb a1 bI (by rw[lu];exact hr);rw[lu] at bb;refine aa ?_;rw[bb,aJ];exact⟨hr,aL,hX.ext,hX.mod⟩
   .refine aa ?_;refine⟨(),trivial,aL,?_⟩;apply Classical.byContradiction;intro cz;apply g2;rw[o.jH a1 (fun j aF=>o.HR (bI j aF)) cz]
  rintro _ k7 _ ⟨rfl,jb⟩;refine aa ?_;refine X_ (LO cy (o.nU m k) m.aw[k].name 3 k _ hX.set) ?_ ?_
  .rintro _ bK ⟨az,dL,ko⟩;refine aa ?_;refine⟨a1,aL,(),trivial,(hX.wr dL ko).jB (by simp only[o.nU,o.AA];rw[o.CX (fun x:o.dB=>x.name) _ a1,Vq]),fun j aF=>?_⟩;by_cases hh:j=k
   .subst hh;unfold o.kQ;rw[if_neg (by simpa using jb),gf,if_neg az]
   .exact bI j AK
  .rintro c _ ⟨az,rfl,rfl⟩;have lu:o.kQ m k=7:=by unfold o.kQ;rw[if_neg (by simpa using jb),gf,if_pos az]
   have bb:=o.HZ cc nb a1 bI (by rw[lu];decide);rw[lu] at bb;refine aa ?_;rw[bb];exact⟨(show(7:Int)≠0 by decide),aL,hX.ext,hX.mod⟩
 have rp:m.aw.length<=k:=AK
 refine aa ?_;refine⟨by rw[o.Wf cc nb fun j aF=>bI j AK];rfl,jM.ext,jM.mod,(jM.jB ?_).set⟩;simp only[o.nU,o.AA];rw[LJ rp,LJ (GA _)]
end Go.Proofs.R
end
section
namespace Go.Proofs.R
open Go Go.RowKit ba
theorem kx.Sd{w0 w w' bO:A_}{cy bw k:Nat}{cs:C_ B_}{L:C_ ByteArray}(h:kx w0 w cy bw cs w' L)(dr:w0.heap.size<=w.heap.size)(hw:dy k w' bO)(hk:w.heap.size<=k)(h1:bw≠k)(I:cy≠k):kx w0 w cy bw cs bO L :=
 ⟨hw.ext h.ext (QB dr hk),h.mod.then (hw.mod (A:=fun j=>j=k) rfl) fun i U e=>absurd e AK,hw.obj h.box h1,h.set.wr hw I,h.low,h.ne⟩
theorem aoC{w0:A_}(cs:C_ B_)(m:o.Model)(cy:Nat)(w:A_)(h:o.eh w0 cs m)(aK:m.cK)(ei:Ext w0 w)(pS:w0.heap.size<=cy)(aO:gK w0)(bb:(o.data m).cN=0)(ak:ga w cy (o.nU m m.aw.length)) :
  qY Tryz.prog F.pF #[.agg cs.toArray,.map (some cy)] w (fun _ w'=>(o.mL m).cN=0/\Ext w0 w'/\Mod (fun k=>k=cy) w w'/\ga w' cy (o.jz m m.procs.length))
   (fun c w'=>(o.mL m).cN≠0/\c=xp (o.mL m)/\Ext w0 w'/\Mod (fun k=>k=cy) w w'):=by
 have aW:=h;obtain⟨b6,bx,bR,c1,bX,c2,bZ,bu,ca,bC,rfl,af,h1,I,ab,aH,e2,eE,eJ,er,eH⟩:=h.form;have dr:=ei.size;refine _o lN E.pF Bp (args:=[_,_]) (Nat.le_of_ble_eq_true rfl) ?_;dsimp only[C.pF];refine oh ?_;refine aa ?_;intro w1 bw cM ai al;have st1:kx w0 w cy bw _ w1 (o.nU m m.aw.length):=⟨ei.trans ai,ai.mod,al,ak.ext ai,pS,by have:=ak.lt;omega⟩;have asf:=ak.lt;have gz:=cA al;clear ak al;refine aa ?_;refine _g fun aD gD atq aj fN=>?_;replace st1:=st1.then aj;have xj:ga aD gD []:=ga.empty fN;have z0:=ai.size;have z2:=xj.lt;clear fN;refine aa ?_;refine AB9 (b:=cy) rfl (k:=T.p) (e:=T.ae) Ct st1.set fun aN r n aP ah oC=>?_;replace st1:=st1.then ah;replace xj:=xj.ext ah;have z4:=aj.size;have z5:=oC.lt;refine aa ?_;refine _P [1,2,4,20] (fun _:C_ ByteArray×Nat=>[]) ([],n) (fun x w'=>kx w0 w cy bw _ w' (o.nU m m.aw.length)/\ga w' gD x.1/\∃cur,ob w' r cy (o.nU m m.aw.length) x.1 x.2 cur) (fun x=>x.2) bc ⟨st1,xj,_,oC⟩ ?_;clear st1 xj oC;rintro⟨D,je⟩ S aU ⟨lB,xj,cur,oC⟩;have al:=lB.box;refine aa ?_;refine AC0 rfl oC (fun dI=>?_) (fun y bt j5 bV cg fg YG=>?_);rotate_left
 .have iD:=lB.Sd dr fg AK AK AK;have ap9:=xj.wr fg AK;refine aa ?_;refine AC1 rfl YG ?_;refine aa ?_;refine _x ap9 fun bz gV aqa=>?_;have hX:=iD.Sd dr gV AK AK AK;have aj1:=YG.wr gV AK AK;refine aa ?_;exact⟨(D++[y],j5),trivial,⟨hX,aqa,_,aj1⟩,cg⟩
 have j7:ga aU gD (o.jz m 0):=xj.jB fun x=>by
  have ali:=oC.sub;simp only[o.jz,o.yE,List.take_zero,List.map_nil,List.append_nil];exact⟨fun ag=>ali x ag,fun ag=>dI x ag⟩
 clear xj oC dI;refine aa ?_;refine L_ 30 m.procs.length [1,2,4,28,29] (fun _:Unit=>[]) () (fun k _ w'=>kx w0 w cy bw _ w' (o.nU m m.aw.length)/\ga w' gD (o.jz m k)) bc bc ⟨lB,j7⟩ ?_;clear al lB j7;rintro k _ a6 bt hk ⟨iD,j7⟩;have al:=iD.box;have bJ:=iD.ext;refine aa ?_;apply I_<;>intro g1
 .have a1:k<m.procs.length:=AK
  obtain⟨a,rfl⟩:=ab.addr;obtain⟨_,b2,dV,au,e7,dP⟩:=ab.at k a1;obtain⟨eF,fB,rfl,fm⟩:=e7.form;obtain⟨oJ,lb,rfl,lc⟩:=dP.form;replace au:=au.ext bJ;refine aa ?_;intro bz hp ir aM ct;have hX:=iD.then aM;replace j7:=j7.ext aM;refine aa ?_;refine _x j7 fun bK dL aqe=>?_;have jM:=hX.Sd dr dL AK AK AK;refine aa ?_;exact⟨a1,aL,(),trivial,jM,by simp only[o.jz,o.yE];rw[o.CX (fun x:o.dJ=>x.name) _ a1,<-Vq];exact aqe⟩
 have aci:∀{w'},ga w' gD (o.jz m k)->ga w' gD (o.jz m m.procs.length):=fun h=>h.jB fun x=>by
  simp only[o.jz,o.yE];rw[LJ AK,LJ (GA _)]
 replace j7:=aci j7;clear aci;replace iD:=iD.jB (show _=o.jz m 0 by simp[o.jz]);refine aa ?_;refine L_ 41 m.procs.length [1,2,4,39,40] (fun _:Unit=>[]) () (fun k _ w'=>kx w0 w cy bw _ w' (o.jz m k)/\ga w' gD (o.jz m m.procs.length)/\∀j,j<k->(o.iV m j).1=0) bc bc ⟨iD,j7,fun j h=>absurd h (K8 _)⟩ ?_;clear al bJ iD j7;rintro k _ k7 bz hk ⟨hX,j7,bI⟩;have al:=hX.box;have cv:=hX.ext;have A1:=hX.mod.size;refine aa ?_;apply I_<;>intro g1
 .have a1:k<m.procs.length:=AK
  obtain⟨a,rfl⟩:=ab.addr;obtain⟨mc,b2,dV,au,e7,dP⟩:=ab.at k a1;obtain⟨eF,fB,rfl,fm⟩:=e7.form;obtain⟨oJ,lb,rfl,lc⟩:=dP.form;have pc:=aK.proc _ (GR a1);have eC:=o.NJ a1;replace au:=au.ext cv;refine aa ?_;intro C3 ik l6 nJ ri;refine eb ?_;intro bK dL dD;have bq:=dL.ext nJ l6;have jM:=hX.then bq;replace j7:=j7.ext bq;replace al:=jM.box;have avV:=cA dD;have GX:=j7.lt;have dz:=jM.ext;clear ri nJ dL;refine aa ?_;apply I_<;>intro g2
  .have bE:6<=k:=AK
   rw[if_pos bE] at eC;have hJ:=o.Gi a1 bI (by rw[eC];decide);rw[eC] at hJ;refine aa ?_;refine X_ (rO 11 4 k 0 bK) ?_ ?_
   .rintro _ _ ⟨hr,_⟩;exact absurd hr BN
   .rintro c _ ⟨_,rfl,rfl⟩;refine aa ?_;rw[hJ];exact⟨(show(11:Int)≠0 by decide),aL,dz,jM.mod⟩
  rw[if_neg AK] at eC;refine aa ?_;intro c4 bG;replace al:=bG.obj al;replace dD:=bG.obj dD;refine aa ?_;refine J_ (acm _ m k c4 (aW.ext (dz.trans bG)) aK) ?_;rintro _ c6 ⟨⟨asV,rfl,JG⟩,b5⟩;refine⟨b5,?_⟩;have mb:=JG.here;obtain⟨mj,GV,ka,ks,k3,jE,pq,rR,oQ,C5,rfl,_⟩:=mb.form;refine aa ?_;refine J_ (aon m.procs[k] _ _ (o.ht m k) c6 (aO.ext (dz.trans (bG.trans b5))) ⟨mc,_,_,rfl,e7.ext (dz.trans (bG.trans b5)),dP.ext (dz.trans (bG.trans b5))⟩ mb (aK.ht _) pc) ?_;rintro _ eO ⟨rfl,cr⟩;have WA:=(bG.trans b5).trans cr;have AL:=jM.then WA;replace j7:=j7.ext WA;replace al:=AL.box;replace dD:=(b5.trans cr).obj dD;have avS:=cA dD;have avQ:=j7.lt;clear mb JG jM dz;have lk:=AL.ext;have fs:=o.abg m.procs[k] (o.ht m k) 140737488351232 fun c an=>by have:=(pc.cmd c an).bQ;unfold o.ew at this;omega
  have alp:m.procs[k].vars.length<=140737488351232:=by have:=pc.vars;unfold o.ew at this;omega
  have o5:m.procs[k].cQ.length<=140737488351232:=by have:=pc.cQ;unfold o.ew at this;omega
  refine aa ?_;refine X_ (rO (o.h9 m.procs[k] (o.ht m k)).2.2 4 k (16*(o.h9 m.procs[k] (o.ht m k)).1+(o.h9 m.procs[k] (o.ht m k)).2.1) eO) ?_ ?_;rotate_left
  .rintro c _ ⟨hr,rfl,rfl⟩;rw[if_pos hr] at eC;have hJ:=o.Gi a1 bI (by rw[eC];exact hr);rw[eC] at hJ;refine aa ?_;rw[hJ];exact⟨hr,aL,lk,AL.mod⟩
  rintro _ oO ⟨hr,rfl⟩;rw[if_neg (by simpa using hr)] at eC;refine aa ?_;refine X_ (LO cy (o.jz m k) m.procs[k].name 4 k oO AL.set) ?_ ?_;rotate_left
  .rintro c _ ⟨az,rfl,rfl⟩;rw[if_pos az] at eC;have hJ:=o.Gi a1 bI (by rw[eC];decide);rw[eC] at hJ;refine aa ?_;rw[hJ];exact⟨(show(7:Int)≠0 by decide),aL,lk,AL.mod⟩
  rintro _ gy ⟨az,iz,Zl⟩;rw[if_neg az] at eC;have LG:kx w0 w cy bw _ gy (o.jz m (k+1)):=(AL.wr iz Zl).jB (by simp only[o.jz,o.yE];rw[o.CX (fun x:o.dJ=>x.name) _ a1,Vq]);replace j7:=j7.wr iz AK;replace al:=LG.box;replace dD:=iz.obj dD AK;have zz:=LG.ext;have Sl:=iz.size;clear AL lk;refine aa ?_;refine L_ 74 m.procs[k].vars.length [1,2,4,8,9,39,40,41,72,73] (fun _:Unit=>[]) () (fun j _ w'=>kx w0 w cy bw _ w' (o.jz m (k+1))/\ga w' gD (o.jz m m.procs.length)/\Ext gy w'/\∀i,i<j->o.q9 m m.procs[k] i=0) bc bc ⟨LG,j7,Ext.refl _,fun j h=>absurd h (K8 _)⟩ ?_;have iW:=dD;clear LG j7 al dD zz;rintro j _ Hz ji aF ⟨LH,j7,fb,tG⟩;have al:=LH.box;have dD:=fb.obj iW;have q7:=LH.ext;refine aa ?_;apply I_<;>intro g3
  .have ek:j<m.procs[k].vars.length:=AK
   obtain⟨cF,rfl⟩:=e7.addr;have ej:=((e7.at j ek).cells).ext q7;have gf:=o.Cy (f:=fun x:o.Var=>x.name) ek;refine aa ?_;intro avu s6 BZ Yv OG;refine eb ?_;intro mR kq ox;have hL:=kq.ext Yv BZ;have LI:=LH.then hL;replace j7:=j7.ext hL;replace al:=LI.box;clear OG Yv kq;refine aa ?_;refine AA2 j7 ?_;refine aa ?_;apply I_<;>intro g4
   .have uP:o.q9 m m.procs[k] j=7:=by unfold o.q9;rw[gf,if_pos g4]
    rw[o.jH ek tG (by rw[uP];decide),uP,if_pos (show(7:Int)≠0 by decide)] at eC;have hJ:=o.Gi a1 bI (by rw[eC];exact(show(7:Int)≠0 by decide));rw[eC] at hJ;refine aa ?_;refine X_ (rO 7 4 k (16+j) mR) ?_ ?_
    .rintro _ _ ⟨zH,_⟩;exact absurd zH BN
    .rintro c _ ⟨_,rfl,rfl⟩;refine aa ?_;rw[hJ];exact⟨(show(7:Int)≠0 by decide),aL,LI.ext,LI.mod⟩
   .refine aa ?_;refine⟨ek,aL,(),trivial,LI,j7,fb.trans hL,fun i U=>?_⟩;by_cases Cc:i=j
    .subst Cc;unfold o.q9;rw[gf,if_neg g4]
    .exact tG i AK
  .rw[o.pO fun i U=>tG i AK,if_neg Bs] at eC;refine aa ?_;refine⟨a1,aL,(),trivial,LH,j7,fun i U=>?_⟩;by_cases Cd:i=k
   .subst Cd;rw[eC]
   .exact bI i AK
 have uQ:m.procs.length<=k:=AK
 have l5:∀j,j<m.procs.length->(o.iV m j).1=0:=fun j aF=>bI j AK;have Jp:=o.H0 bb;have sm:m.procs.length<=6:=by
  apply Classical.byContradiction;intro az
  have:=o.Ik (i:=6) AK (l5 6 AK)
  omega
 have sj:o.vy m:=⟨AK,AK,AK,fun p au=>by
  obtain⟨j,aF,rfl⟩:=List.mem_iff_getElem.1 au
  have:=o.Q8 (o.D6 aF (l5 j aF)).2.1
  omega⟩
 refine aa ?_;refine J_ (aov _ m bz (aW.ext cv) sj) ?_;rintro _ bK ⟨rfl,bq⟩;have jM:=hX.then bq;replace al:=jM.box;have rv:=o.Q9 l5;have PK:ga bK cy (o.jz m m.procs.length):=by
  have h:=jM.set;simp only[o.jz,o.yE] at h ⊢;rw[LJ uQ] at h;rw[LJ (GA _)];exact h
 refine aa ?_;apply I_<;>intro g2
 .rw[if_pos (.inl AK)] at rv;refine aa ?_;refine X_ (rO 11 4 m.procs.length 0 bK) ?_ ?_
  .rintro _ _ ⟨zH,_⟩;exact absurd zH BN
  .rintro c _ ⟨_,rfl,rfl⟩;refine aa ?_;rw[rv];exact⟨(show(11:Int)≠0 by decide),aL,jM.ext,jM.mod⟩
 refine aa ?_;apply I_<;>intro g3
 .rw[if_pos (.inr AK)] at rv;refine aa ?_;refine X_ (rO 11 4 m.procs.length 0 bK) ?_ ?_
  .rintro _ _ ⟨zH,_⟩;exact absurd zH BN
  .rintro c _ ⟨_,rfl,rfl⟩;refine aa ?_;rw[rv];exact⟨(show(11:Int)≠0 by decide),aL,jM.ext,jM.mod⟩
 rw[if_neg AK] at rv;refine aa ?_;exact⟨by rw[rv];rfl,jM.ext,jM.mod,PK⟩
theorem aoG{w0:A_}(cs:C_ B_)(m:o.Model)(cy:Nat)(w:A_)(h:o.eh w0 cs m)(aK:m.cK)(ei:Ext w0 w)(pS:w0.heap.size<=cy)(aO:gK w0)(ak:ga w cy (o.jz m m.procs.length)) :
  qY Tryz.prog F.a9 #[.agg cs.toArray,.map (some cy)] w (fun _ w'=>(o.p0 m).cN=0/\Ext w0 w'/\Mod (fun k=>k=cy) w w')
   (fun c w'=>(o.p0 m).cN≠0/\c=xp (o.p0 m)/\Ext w0 w'/\Mod (fun k=>k=cy) w w'):=by
 have aW:=h;obtain⟨b6,bx,bR,c1,bX,c2,bZ,bu,ca,bC,rfl,af,h1,I,ab,aH,e2,eE,eJ,er,eH⟩:=h.form;refine _o lN E.a9 Bp (args:=[_,_]) (Nat.le_of_ble_eq_true rfl) ?_;dsimp only[C.a9];refine oh ?_;refine aa ?_;intro w1 bw cM ai al;have st1:kx w0 w cy bw _ w1 (o.sv m 0):=⟨ei.trans ai,ai.mod,al,by have:=ak.ext ai;simpa[o.sv] using this,pS,by have:=ak.lt;omega⟩;have asf:=ak.lt;have z0:=ai.size;clear ak;refine aa ?_;refine J_ (acm _ m (-1) w1 (aW.ext st1.ext) aK) ?_;rintro _ aD ⟨⟨asU,rfl,j0⟩,aj⟩;rw[o.Li (.inl BN)] at j0;have mb:=j0.here;obtain⟨mj,GV,ka,ks,k3,jE,pq,rR,oQ,C5,rfl,_⟩:=mb.form;clear mb;have st2:=st1.then aj;clear al st1;have gz:=aj.size;refine aa ?_;intro aN cC ff ah bp;have yp:=j0.ext ah gz;have mh:=st2.then ah;have al:=mh.box;clear j0 st2;refine aa ?_;refine L_ 14 m.props.length [1,2,4,12,13] (fun _:Unit=>[]) () (fun k _ w'=>kx w0 w cy bw _ w' (o.sv m k)/\ey w1 (fun w=>o.fZ w _ (o.eR m)) w'/\w'.heap[cC]? = some (.cells (List.toArray [_,_,_,_,_,_]) T.w)/\w1.heap.size<=w'.heap.size/\∀j,j<k->o.nF m j=0) bc bc ⟨mh,yp,bp,by have:=ah.size;omega,fun j h=>absurd h (K8 _)⟩ ?_;clear al mh yp bp;rintro k _ S aU hk ⟨lB,nQ,bp,z4,bI⟩;have al:=lB.box;have bD:=lB.ext;refine aa ?_;apply I_<;>intro g1
 .have a1:k<m.props.length:=AK
  obtain⟨a,rfl⟩:=aH.addr;obtain⟨mc,gZ,au,h7⟩:=aH.at k a1;obtain⟨QV,ce,rfl,le⟩:=h7.form;have eC:=o.D7 a1;replace au:=au.ext bD;have z5:=lB.mod.size;refine aa ?_;intro C3 ez gm nJ ri;refine eb ?_;intro bt fg cb;have aI:=fg.ext nJ gm;have iD:=lB.then aI;replace nQ:=nQ.ext aI z4;replace bp:=aI.obj bp;replace al:=iD.box;have bJ:=iD.ext;clear ri nJ fg lB;have bb:o.nF m k≠0->o.p0 m=⟨o.nF m k,5,k,0⟩:=o.abj a1 bI;refine aa ?_;apply I_<;>intro g2
  .rw[if_pos AK] at eC;rw[eC] at bb;replace bb:=bb BN;refine aa ?_;refine X_ (rO 11 5 k 0 bt) ?_ ?_
   .rintro _ _ ⟨hr,_⟩;exact absurd hr BN
   .rintro c _ ⟨_,rfl,rfl⟩;refine aa ?_;rw[bb];exact⟨(show(11:Int)≠0 by decide),aL,bJ,iD.mod⟩
  rw[if_neg AK] at eC;refine aa ?_;refine J_ (La m.props[k].name bt (aO.ext bJ) mc) ?_;rintro _ bz ⟨rfl,aM⟩;have hX:=iD.then aM;replace nQ:=nQ.ext aM (by have:=aI.size;omega);replace bp:=aM.obj bp;replace cb:=aM.obj cb;replace al:=hX.box;have cv:=hX.ext;clear iD;refine aa ?_;refine N_ (fun g3=>?_) (fun g3=>?_);rotate_left
  .rw[if_pos g3] at eC;rw[eC] at bb;replace bb:=bb BN;refine aa ?_;refine X_ (rO 6 5 k 0 bz) ?_ ?_
   .rintro _ _ ⟨hr,_⟩;exact absurd hr BN
   .rintro c _ ⟨_,rfl,rfl⟩;refine aa ?_;rw[bb];exact⟨(show(6:Int)≠0 by decide),aL,cv,hX.mod⟩
  rw[if_neg (by rw[g3];decide)] at eC;refine aa ?_;refine X_ (LO cy (o.sv m k) m.props[k].name 5 k bz hX.set) ?_ ?_;rotate_left
  .rintro c _ ⟨az,rfl,rfl⟩;rw[if_pos az] at eC;rw[eC] at bb;replace bb:=bb BN;refine aa ?_;rw[bb];exact⟨(show(7:Int)≠0 by decide),aL,hX.ext,hX.mod⟩
  rintro _ bK ⟨az,dL,ko⟩;rw[if_neg az] at eC;have jM:kx w0 w cy bw _ bK (o.sv m (k+1)):=(hX.wr dL ko).jB (by simp only[o.sv,o.QJ];rw[o.CX (fun x:o.lY=>x.name) _ a1,Vq]);replace nQ:=nQ.wr dL AK;replace bp:=dL.obj bp AK;replace cb:=dL.obj cb AK;replace al:=jM.box;have dz:=jM.ext;clear hX cv;refine aa ?_;refine J_ (aab _ m.props[k].expr _ _ bK (h7.ext dz) nQ.here) ?_;rintro _ c4 ⟨rfl,bG⟩;have GG:=jM.then bG;have adr:=dL.size;replace nQ:=nQ.ext bG (by have:=aI.size;have:=aM.size;omega);replace bp:=bG.obj bp;replace al:=GG.box;have fk:=GG.ext;clear jM;refine aa ?_;refine X_ (rO (o.kind m.props[k].expr (o.eR m)).2 5 k 0 c4) ?_ ?_;rotate_left
  .rintro c _ ⟨hr,rfl,rfl⟩;rw[if_pos hr] at eC;rw[eC] at bb;replace bb:=bb hr;refine aa ?_;rw[bb];exact⟨hr,aL,fk,GG.mod⟩
  rintro _ c6 ⟨hr,rfl⟩;rw[if_neg (by simpa using hr)] at eC;refine aa ?_;apply I_<;>intro g4;rotate_left
  .rw[if_pos g4] at eC;rw[eC] at bb;replace bb:=bb BN;refine aa ?_;refine X_ (rO 9 5 k 0 c6) ?_ ?_
   .rintro _ _ ⟨zH,_⟩;exact absurd zH BN
   .rintro c _ ⟨_,rfl,rfl⟩;refine aa ?_;rw[bb];exact⟨(show(9:Int)≠0 by decide),aL,fk,GG.mod⟩
  rw[if_neg (by simpa using g4)] at eC;refine aa ?_;refine⟨a1,aL,(),trivial,GG,nQ,bp,by have:=aI.size;have:=aM.size;have:=bG.size;omega,fun i U=>?_⟩;by_cases Cd:i=k
  .subst Cd;rw[eC]
  .exact bI i AK
 refine aa ?_;exact⟨by rw[o.Rb fun j aF=>bI j AK];rfl,bD,lB.mod⟩
end Go.Proofs.R
end
section
namespace ba
open Go Go.RowKit
structure A5 where
 n:Nat
 res:List mX
 pre:eN
 b7:List Step
 fn:Operand
 rest:eN
def Nw(ae:Oper):H_ G_ :=
 match ae.guard,ae.dst,ae.op with
 | none,none,.defer ⟨.value x,args,_⟩=>match args.toList with | []=>some x | _=>none
 | _,_,_=>none
def V5(P:D_)(fn:Func):Code->H_ A5
 | .seq a (.seq (.region _ ops false) c) =>
  match ops.toList.getLast?.bind Nw,comp P fn.ntmps a,qk P fn.ntmps ops ops.toList.dropLast,comp P fn.ntmps c,x1 P fn.results.toList with
  | some x,some hT,some b7,some lc,some r=>some ⟨fn.ntmps,r,hT,b7,x,lc⟩
  | _,_,_,_,_=>none
 | _=>none
def HU(P:D_)(f:E_):H_ A5 :=
 match P.funcs[f]? with
 | some fn=>match fn.body with | some c=>V5 P fn c | none=>none
 | none=>none
def uj(P:D_)(f:E_)(cap:Array B_)(u:FrameMode)(w:A_)(R:A_->Prop):Prop :=
 CallsD P f cap u w fun e kH w'=>(∃v,e = .returned v)/\settle kH = .returning/\R w'
def D4(P:D_)(res:C_ mX)(f:E_)(cap:Array B_)(R:B_->A_->Prop):eu->Fr->A_->Prop
 | .normal,S,w=>uj P f cap .returning w fun w'=>p3 res S w' fun vs=>R (hl vs) w'
 | .ret,S,w=>uj P f cap .returning w fun w'=>p3 res S w' fun vs=>R (hl vs) w'
 | .exit _,_,_=>False
 | .gx c,S,w=>uj P f cap (.panicking c) w fun w'=>p3 res S w' fun vs=>R (hl vs) w'
def arM(P:D_)(L:A5)(R:B_->A_->Prop)(S:Fr)(w:A_):Prop :=
 dV P L.pre (vm (fun S w=>steps P L.b7 S w fun S w => ∃f cap,aX S L.fn = .func (.func f) #[] cap/\okF P f=true/\dV P L.rest (D4 P L.res f cap R) S w) (fun _ _ _=>False)) S w
theorem af2{ae:Oper}{x:G_}(h:Nw ae=some x):∃ty pos after nY,ae=⟨none,.defer ⟨.value x,#[],nY⟩,ty,pos,after,none⟩:=by
 obtain⟨dst,op,ty,pos,after,guard⟩:=ae;unfold Nw at h;split at h
 .rename_i h1 I ab;simp only at h1 I ab;split at h
  .rename_i aH;injection h with h
   have a8:=Array.toList_eq_nil_iff.1 aH;subst h1 I ab h a8;exact⟨_,_,_,_,rfl⟩
  .cases h
 .cases h
theorem agy{P:D_}{f:E_}{L:A5}(hm:P.follows .mixedOrders=true)(an:HU P f=some L){args:C_ B_}{w:A_}{R:B_->A_->Prop}(aV:args.length<=L.n)
  (h:arM P L R (h5 args 0) w):aY P f args.toArray w R:=by
 unfold HU at an;split at an
 .rename_i fn lv;split at an
  .rename_i c ao;unfold V5 at an;split at an
   .rename_i a id ops kN;split at an
    .rename_i x hT b7 lc r h1 I ab aH a8;injection an with an;subst an
     obtain⟨ae,aO,ag⟩:=Option.bind_eq_some_iff.1 h1;obtain⟨ty,pos,after,nY,rfl⟩:=af2 ag;have akf:ops.toList=ops.toList.dropLast++[⟨none,.defer ⟨.value x,#[],nY⟩,ty,pos,after,none⟩]:=by
      have cz:ops.toList≠[]:=by intro e;rw[e] at aO;cases aO
      rw[List.getLast?_eq_some_getLast cz] at aO;injection aO with aO
      rw[<-aO,AL2 cz]
     have fin:∀(g:E_) (cap:Array B_) (S:Fr) (cF:Act) (w':A_) (u:FrameMode),u≠.run->okF P g=true->Fits [{ target:=.fn (.func g) cap,args:=#[] }] cF S fn.ntmps->uj P g cap u w' (fun w'=>p3 r S w' fun vs=>R (hl vs) w') ->
       Leaves P fn cF.tmps (fun e w' => ∃v,e = .returned v/\R v w') cF.defers u w':=by
      intro g cap S cF w' u hu dh ay aC;rw[ay.1];refine leaves_cons hu (f:=g) (args:=cap) (by simp[invoke,CN dh]) (CallsD.mono aC ?_);rintro e kH bO ⟨⟨v,rfl⟩,ak,aP⟩;simp only[ak];obtain⟨vs,bE,cj⟩:=sF ay _ _ _ a8 aP;exact⟨_,xh bE,_,rfl,cj⟩
     refine calls_of_wp_defers lv ao ((wpIn_wide (n:=0)).1 ?_);refine wpIn_seq (wpIn_mono (sound (ds:=[]) (r:=none) (m:=0) hm a hT I _ _ (h5 args 0) w (NW aV) h) fun e cF w' ar=>?_);cases e with
     | normal =>
      obtain⟨S,ay,ar⟩:=ar;refine wpIn_seq (wpIn_region_list ?_);rw[akf];refine yT (r:=none) (tl:=[_]) ?_ ?_ _ b7 cF S w' ab ay ar
      .rintro a2 k7 aD lJ ⟨g,cap,he,dh,aG⟩;have hw:Region.wanted (⟨none,.defer ⟨.value x,#[],nY⟩,ty,pos,after,none⟩:Oper) (yielded ops a2.tmps)=true:=rfl;simp only[wpListIn,hw,if_true];have h8:∀ρ:G_->B_,ρ x = .func (.func g) #[] cap->((⟨none,.defer ⟨.value x,#[],nY⟩,ty,pos,after,none⟩:Oper).semAt none ρ).run P aD = .ok (.defer { target:=.fn (.func g) cap,args:=#[] }) aD:=by
        intro ρ alH;simp[Oper.semAt,execOp,resolve,Deferred.ofValue,alH,go_sem]
       refine⟨fun _ _=>trivial,?_⟩;rw[show(n4 none).round=none from rfl,h8 a2.eval (by rw[lJ.eval];exact he)];have ajL:Fits [{ target:=.fn (.func g) cap,args:=#[] }] ({ a2 with defers:={ target:=.fn (.func g) cap,args:=#[] } :: a2.defers }:Act) k7 fn.ntmps:=⟨by rw[lJ.1],lJ.2⟩;refine wpIn_mono (sound (ds:=[{ target:=.fn (.func g) cap,args:=#[] }]) (r:=none) (m:=0) hm kN lc aH _ _ k7 aD ajL aG) fun e a4 aU ar=>?_;cases e with
       | normal=>obtain⟨qg,qy,ar⟩:=ar;exact fin g cap qg a4 aU .returning Bs dh qy ar
       | ret=>obtain⟨qg,qy,ar⟩:=ar;exact fin g cap qg a4 aU .returning Bs dh qy ar
       | exit i=>obtain⟨qg,qy,ar⟩:=ar;exact ar.elim
       | panic uy=>obtain⟨qg,qy,ar⟩:=ar;exact fin g cap qg a4 aU (.panicking uy) Bs dh qy ar
       | _=>exact ar.elim
      .rintro⟨_,_,ag⟩;obtain⟨_,h1,_⟩:=ag;cases h1
     | ret=>obtain⟨S,ay,ar⟩:=ar;exact ar.elim
     | exit i=>obtain⟨S,ay,ar⟩:=ar;exact ar.elim
     | panic uy=>obtain⟨S,ay,ar⟩:=ar;exact ar.elim
     | _=>exact ar.elim
    .cases an
   .cases an
  .cases an
 .cases an
structure Dr where
 n:Nat
 res:List mX
 d:Nat
 e:Nat
 rest:eN
def Rp(ae:Oper):H_ Nat :=
 match ae.guard,ae.op,ae.dst with
 | none,.call ⟨.builtin .recover,args,_⟩,some d=>match args.toList with | []=>some d | _=>none
 | _,_,_=>none
def MP(ae:Oper):H_ (Nat×Nat) :=
 match ae.guard,ae.op,ae.dst with
 | none,.assign (.tmp d),some e=>some (d,e)
 | _,_,_=>none
def V6(P:D_)(fn:Func):Code->H_ Dr
 | .seq (.region _ ops false) c =>
  match ops.toList with
  | [bR,bX]=>match Rp bR,MP bX,comp P fn.ntmps c,x1 P fn.results.toList with
   | some d,some (vW,e),some lc,some r=>if d=vW/\d<fn.ntmps/\e<fn.ntmps then some ⟨fn.ntmps,r,d,e,lc⟩ else none
   | _,_,_,_=>none
  | _=>none
 | _=>none
def HV(P:D_)(f:E_):H_ Dr :=
 match P.funcs[f]? with
 | some fn=>match fn.body with | some c=>V6 P fn c | none=>none
 | none=>none
def p2:FrameMode->B_×FrameMode
 | .panicking ({ v,recovered:=false,goexit:=false } :: anK)=>(v,.panicking ({ v,recovered:=true } :: anK))
 | u=>(.nilIface,u)
theorem apq(c:Frame)(cs:C_ Frame):(match recoverD (c :: cs) with | some (v,il)=>(v,il) | none=>(.nilIface,c :: cs))=((p2 c.mode).1,{ c with mode:=(p2 c.mode).2 } :: cs):=by
 obtain⟨fn,tmps,todo,defers,mode,kind,ro⟩:=c;unfold recoverD p2;cases mode with
 | run=>rfl
 | returning=>rfl
 | panicking l =>
  cases l with
  | nil=>rfl
  | cons p r =>
   obtain⟨v,rc,ge⟩:=p;cases rc<;>cases ge<;>rfl
theorem apn{ae:Oper}{d:Nat}(h:Rp ae=some d):∃nY ty pos after,ae=⟨some d,.call ⟨.builtin .recover,#[],nY⟩,ty,pos,after,none⟩:=by
 obtain⟨dst,op,ty,pos,after,guard⟩:=ae;unfold Rp at h;split at h
 .rename_i h1 I ab;simp only at h1 I ab;split at h
  .rename_i aH;injection h with h
   have a8:=Array.toList_eq_nil_iff.1 aH;subst h1 I ab h a8;exact⟨_,_,_,_,rfl⟩
  .cases h
 .cases h
theorem aen{ae:Oper}{d e:Nat}(h:MP ae=some (d,e)):∃ty pos after,ae=⟨some e,.assign (.tmp d),ty,pos,after,none⟩:=by
 obtain⟨dst,op,ty,pos,after,guard⟩:=ae;unfold MP at h;split at h
 .rename_i h1 I ab;simp only at h1 I ab;injection h with h
  injection h with a8 bE
  subst h1 I ab a8 bE;exact⟨_,_,_,rfl⟩
 .cases h
theorem agz{P:D_}{f:E_}{L:Dr}(hm:P.follows .mixedOrders=true)(an:HV P f=some L){args:C_ B_}{u:FrameMode}{w:A_}{R:B_->A_->Prop}(aV:args.length<=L.n)
  (h:dV P L.rest (D3 L.res R) (b4 (b4 (h5 args 0) L.d (p2 u).1) L.e (p2 u).1) w):CallsD P f args.toArray u w fun e kH w'=>kH=(p2 u).2/\∃v,e = .returned v/\R v w':=by
 unfold HV at an;split at an
 .rename_i fn lv;split at an
  .rename_i c ao;unfold V6 at an;split at an
   .rename_i id ops kN;split at an
    .rename_i bR bX Fe;split at an
     .rename_i d vW e lc r h1 I ab aH;split at an
      .rename_i ajB;obtain⟨ajA,bb,he⟩:=ajB;subst ajA;injection an with an;subst an
       obtain⟨nY,art,aoA,ad8,rfl⟩:=apn h1;obtain⟨aru,aoB,ad9,rfl⟩:=aen I;refine callsD_of_wpS lv ao fun BF cs hu=>?_;refine wpS_seq (wpS_region ?_);have dr:ops.size=2:=by rw[<-Array.length_toList,Fe];rfl
       have B8:ops[0]? = ops.toList[0]? := by simp
       have O6:ops[1]? = ops.toList[1]? := by simp
       rw[Fe] at B8 O6;simp only[List.getElem?_cons_zero,List.getElem?_cons_succ] at B8 O6;have aP:List.range ops.size=[0,1]:=by rw[dr];rfl
       rw[aP];have ak1:∀(ρ:G_->B_),(execOp ρ ⟨some d,.call ⟨.builtin .recover,#[],nY⟩,art,aoA,ad8,none⟩).run P w = .ok .recover w:=by
        intro ρ;simp[execOp,resolve,invoke,builtin,go_sem]
       have JS:∀(dst:H_ Nat) (op:Op) (ty:F_) (pos:String) (after:Array Edge) (y:Nat->H_ Bool),Region.wanted (⟨dst,op,ty,pos,after,none⟩:Oper) y=true:=fun _ _ _ _ _ _=>rfl;have ajK:=NW (n:=fn.ntmps) aV;have key:∀(v:B_) (il:C_ Frame),dV P lc (D3 r R) (b4 (b4 (h5 args 0) d v) e v) w->(il = { BF with mode:=(p2 u).2 } :: cs) ->
         wpOpsS P ops (Exit.thenS (kN.wpS P (bodyPostS P fn BF cs fun e kH w'=>kH=(p2 u).2/\∃v,e = .returned v/\R v w')) (bodyPostS P fn BF cs fun e kH w'=>kH=(p2 u).2/\∃v,e = .returned v/\R v w')) [1]
          (({ tmps:=args.toArray++Array.replicate (fn.ntmps - args.toArray.size) undef,defers:=[] }:Act).put (some d) v) il w:=by
        intro v il aG fx;have Jw:=ajK.put (d:=some d) (by simpa[x4] using bb) v;have ag:(execOp (({ tmps:=args.toArray++Array.replicate (fn.ntmps - args.toArray.size) undef,defers:=[] }:Act).put (some d) v).eval ⟨some e,.assign (.tmp d),aru,aoB,ad9,none⟩).run P w = .ok (.value v) w:=by
         rw[Jw.eval];simp[execOp,aX,ba.put,b4]
        simp only[wpOpsS,O6,JS,if_true,ag];rw[Oper.upon_value];have lJ:=Jw.put (d:=some e) (by simpa[x4] using he) v;refine wpS_of_wp ((wpIn_wide (n:=0)).1 (wpIn_mono (sound (ds:=[]) (r:=none) (m:=0) hm kN lc ab _ _ _ w lJ aG) fun x a4 aU ar=>?_));cases x with
        | normal =>
         obtain⟨qg,qy,ar⟩:=ar;obtain⟨vs,bE,cj⟩:=sF qy _ _ _ aH ar;exact⟨qy.1,_,fx,_,xh bE,rfl,_,rfl,cj⟩
        | ret =>
         obtain⟨qg,qy,ar⟩:=ar;obtain⟨vs,bE,cj⟩:=sF qy _ _ _ aH ar;exact⟨qy.1,_,fx,_,xh bE,rfl,_,rfl,cj⟩
        | exit i=>obtain⟨qg,qy,ar⟩:=ar;exact ar.elim
        | panic uy=>obtain⟨qg,qy,ar⟩:=ar;exact ar.elim
        | _=>exact ar.elim
       have rz:=apq BF cs;rw[hu] at rz;unfold wpOpsS;simp only[B8,JS,if_true,ak1];cases JM:recoverD (BF :: cs) with
       | none =>
        rw[JM] at rz;injection rz with bB aJ
        exact key .nilIface (BF :: cs) (by rw[bB];exact h) aJ
       | some arL =>
        obtain⟨v,il⟩:=arL;rw[JM] at rz;injection rz with bB aJ
        exact key v il (by rw[bB];exact h) aJ
      .cases an
     .cases an
    .cases an
   .cases an
  .cases an
 .cases an
end ba
namespace ba
open Go Go.RowKit
def Mh(P:D_)(v:B_)(K:E_->Array B_->Prop):Prop := ∃f cap,v = .func (.func f) #[] cap/\okF P f=true/\K f cap
section
variable{P:Program}{S:Fr}{w:World}{res:List mX}{R:Value->World->Prop}
theorem AC2{f:E_}{L:A5}(hm:P.follows .mixedOrders=true)(an:HU P f=some L){args:C_ B_}(aV:args.length<=L.n)
  (h:eg P L.pre (ic (fun S w=>kG P L.b7 S w (fun S w=>Mh P (aX S L.fn) fun g cap=>eg P L.rest (D4 P L.res g cap R) S w ⟨⟩) ⟨⟩) (fun _ _ _=>False) ⟨⟩) (h5 args 0) w ⟨⟩):aY P f args.toArray w R:=by
 refine agy hm an aV ?_;unfold eg ic kG Mh at h;exact h
theorem AC3{g:E_}{cap:Array B_}{K:E_->Array B_->Prop}(dh:okF P g=true)(h:K g cap):Mh P (.func (.func g) #[] cap) K:=⟨g,cap,rfl,dh,h⟩
theorem AC4{g:E_}{cap:Array B_}(h:uj P g cap .returning w fun w'=>jC res S w' (fun vs=>R (hl vs) w') ⟨⟩):D4 P res g cap R .ret S w:=by
 unfold jC at h;exact h
theorem AC5{g:E_}{cap:Array B_}{c:C_ PanicEntry}(h:uj P g cap (.panicking c) w fun w'=>jC res S w' (fun vs=>R (hl vs) w') ⟨⟩):D4 P res g cap R (.gx c) S w:=by
 unfold jC at h;exact h
theorem uj.of{g:E_}{cap:Array B_}{u AS:FrameMode}{Dv Dw:A_->Prop}(h:CallsD P g cap u w fun e kH w'=>kH=AS/\∃v,e = .returned v/\Dv w')(ak:settle AS = .returning)(hk:∀w',Dv w'->Dw w'):uj P g cap u w Dw :=
 CallsD.mono h fun e kH w' ⟨h1,v,I,ab⟩=>⟨⟨v,I⟩,by rw[h1];exact ak,hk _ ab⟩
theorem AA3{f:E_}{L:Dr}(hm:P.follows .mixedOrders=true)(an:HV P f=some L){args:C_ B_}{u:FrameMode}(aV:args.length<=L.n)
  (h:eg P L.rest (ra L.res R ⟨⟩) (b4 (b4 (h5 args 0) L.d (p2 u).1) L.e (p2 u).1) w ⟨⟩):CallsD P f args.toArray u w fun e kH w'=>kH=(p2 u).2/\∃v,e = .returned v/\R v w':=by
 refine agz hm an aV ?_;unfold eg ra at h;exact h
theorem ab8(d:Nat){t:F_}{ms:Array (String×F_)}(h:P.underlying t=some (.interface ms))(w:A_):(Op.equalIn (d+1) t .nilIface .nilIface).run P w = .ok true w/\∀T v,(Op.equalIn (d+1) t (.iface T v) .nilIface).run P w = .ok false w:=by
 constructor
 .simp[Op.equalIn,run_underlying h]
 .intro T v;simp[Op.equalIn,run_underlying h]
theorem ZD{t:F_}(h:(P.underlying t).map yw=some true):∃ms,P.underlying t=some (.interface ms):=by
 obtain⟨d,bb,U⟩:=Option.map_eq_some_iff.1 h;cases d<;>first | exact⟨_,bb⟩ | (simp[yw] at U;done)
theorem AC6{hY:F_}{x:G_}{v:B_}{aE:B_->Prop}{t}(h:(P.underlying hY).map yw=some true)(hk:aE (.bool false)):hb P .neq hY x (.const v) .nilIface .nilIface aE t :=
 _Z (v:=.bool false) (fun w=>by
  obtain⟨ms,h⟩:=ZD h;have h1:=(ab8 9999 h w).1;have I:(Op.equalIn Op.maxDepth hY .nilIface .nilIface).run P w = .ok true w:=h1;cases x<;>simp[eqGuard,binOp,Op.equal,go_sem,I,Result.andThen]) hk
theorem AC7{hY T:F_}{x y:G_}{v:B_}{aE:B_->Prop}{t}(h:(P.underlying hY).map yw=some true)(hk:aE (.bool true)):hb P .neq hY x y (.iface T v) .nilIface aE t :=
 _Z (v:=.bool true) (fun w=>by
  obtain⟨ms,h⟩:=ZD h;have I:(Op.equalIn Op.maxDepth hY (.iface T v) .nilIface).run P w = .ok false w:=(ab8 9999 h w).2 T v;simp[eqGuard,binOp,Op.equal,go_sem,I,Result.andThen]) hk
theorem AC8{x:G_}{adn T ty:F_}{v:B_}{cT:B_->A_->Prop}{t}(ag:aX S x = .iface T v)(h:(P.underlying T).map yw=some false)(hk:cT (.tuple #[v,.bool true]) w):sP P (.typeAssert x adn T true) ty S w cT t:=by
 refine _D (v:=.tuple #[v,.bool true]) (w':=w) ?_ hk;obtain⟨d,bb,U⟩:=Option.map_eq_some_iff.1 h;have h1:(Instr.typeAssert (.iface T v) adn T true).run P w = .ok (.tuple #[v,.bool true]) w:=by
  cases d<;>first | (simp[yw] at U;done) | (simp[Instr.typeAssert,run_underlying bb])
 simp[execOp,ag,h1,Result.andThen]
end
end ba
end
section
namespace Go.Proofs.R
open Go ba Go.Proofs
abbrev F.m:E_:=54
def S8.db:A5:=⟨16,[.jm 4 2], (.dv [bP 1 (.box T.d (ad 0)),bP 2 (.new T.x (.agg #[cu,cu,cu,cu]))]),
 [bA 4 (.u6 F.m [] [(ad 2)])],(ad 4), (cO [bP 5 .tL,aq 3 5] (.seq (.fG [ig 6 5 1,aq 7 3] (some 8) F.pE [(ad 6),(ad 7)]) (.seq (.fG [ig 9 5 1,aq 10 3] (some 11) F.pF [(ad 9),(ad 10)]) (.seq (.fG [ig 12 5 1,aq 13 3] (some 14) F.a9 [(ad 12),(ad 13)]) (cO [bA 15 (.gl [cu,cu,cu,cu] [(0,1),(1,1),(2,1),(3,1)] []),p9 4 2 15] .ret)))))⟩
theorem adA.db:HU Tryz.prog F.db=some S8.db:=Ct
def Mg.m:Dr:=⟨17,[],4,1, (cO [aq 5 1,bA 6 (.bin .neq T.as (ad 5) (.const .nilIface))] (kb 6 (cO [aq 8 1,bP 9 (.raw (.typeAssert (ad 8) T.as T.ij true) T.pE),aq 7 9,C6 10 7 0,C6 11 7 1,bP 2 (.new T.ij (.agg #[cu,cu,cu,cu])),p9 4 2 10,aq 3 11] (.seq (cO [aq 12 3,bA 13 (.un .not (ad 12))] (kb 13 (.sB [aq 14 1] (ad 14)) .skip)) (.dv [bd 15 0 2,ig 16 4 15,p9 4 0 16]))) .skip))⟩
theorem Ta.m:HV Tryz.prog F.m=some Mg.m:=Ct
end Go.Proofs.R
end
section
namespace o
theorem aoH{m:Model}(h:(p0 m).cN=0):p0 m=uH:=Rb (Lh h)
end o
namespace Go.Proofs.R
open Go Go.RowKit ba
theorem afC(b:Nat)(w:A_):CallsD Tryz.prog F.m #[.pointer (some ⟨b,0,none⟩)] .returning w fun e kH w'=>kH = .returning/\∃v,e = .returned v/\w'=w:=by
 refine AA3 lN Ta.m (args:=[_]) (Nat.le_of_ble_eq_true rfl) ?_;dsimp only[Mg.m];refine oh ?_;dsimp only[p2];refine aa ?_;refine AC6 Ct ?_
 (repeat' first
 | assumption
 | exact Ext.refl _
 | refine Ext.trans ?_ Bz
 | refine Q_ AK ?_
 | refine _L Bz ?_ rfl ?_
 | refine _C Bz ?_ rfl ?_
 | refine _Q Bz ?_ AK rfl ?_
 | refine _R Bz ?_ AK rfl ?_
 | refine _S Bz ?_ AK rfl ?_
 | refine _V AK ?_
 | refine _T (by first | assumption | omega) ?_
 | refine _U (by first | assumption | omega) ?_
 | refine _F Bz ?_
 | refine _G Bz ?_
 | simp -dsimp only[c7,cB,Nat.reduceAdd,Nat.reduceEqDiff,reduceIte,reduceCtorEq,df])
theorem afB(f:o.sL)(b:Nat)(w:A_)(ao:w.heap[b]? = some (.cells #[.I 0,.I 0,.I 0,.I 0] T.x)) :
  CallsD Tryz.prog F.m #[.pointer (some ⟨b,0,none⟩)] (.panicking (xp f)) w fun e kH w'=>kH=(p2 (.panicking (xp f))).2/\∃v,e = .returned v /\
   (w'.heap[b]? = some (.cells #[.I f.cN,.I f.part,.I f.item,.I f.sub] T.x)/\∀w0,Ext w0 w->w0.heap.size<=b->Ext w0 w'):=by
 refine AA3 lN Ta.m (args:=[_]) (Nat.le_of_ble_eq_true rfl) ?_;dsimp only[Mg.m];refine oh ?_;dsimp only[p2,xp];refine aa ?_;refine AC7 Ct ?_;refine aa ?_;refine AC8 rfl Ct ?_;refine aa ?_;intro w1 bw cM ai al;have GY:=cA ao;replace ao:=ai.obj ao;refine aa ?_;intro aD nR av;refine aa ?_;exact⟨av,fun w0 e aC=>nR.ext (e.trans ai) aC⟩
theorem yC(cs:C_ B_)(m:o.Model)(w:A_)(h:o.eh w cs m)(aK:m.cK)(aO:gK w) :
  DD F.db #[.agg cs.toArray] w fun v w'=>v = .agg #[.I (o.check m).cN,.I (o.check m).part,.I (o.check m).item,.I (o.check m).sub]/\Ext w w':=by
 obtain⟨b6,bx,bR,c1,bX,c2,bZ,bu,ca,bC,rfl,_⟩:=h.form;refine AC2 lN adA.db (args:=[_]) (Nat.le_of_ble_eq_true rfl) ?_;dsimp only[S8.db];refine oh ?_;refine aa ?_;intro w1 bw cM ai al;refine aa ?_;intro aD bS dm aj av;replace al:=aj.obj al;have gz:=cA al;have z5:=cA av;refine aa ?_;refine AC3 Ct ?_;refine aa ?_;refine _g fun aN cy pS ah js=>?_;replace al:=ah.obj al;replace av:=ah.obj av;have z2:=cA av;have z3:=aj.size;have z4:=ai.size;have a7:=(ai.trans aj).trans ah;have M7:∀(f:o.sL) (w':A_) (S:Fr),Ext w w'->w'.heap[bS]? = some (.cells #[.I 0,.I 0,.I 0,.I 0] T.x)->S 2 = .pointer (some ⟨bS,0,none⟩)->f=o.check m ->
   D4 Tryz.prog [.jm 4 2] F.m #[.pointer (some ⟨bS,0,none⟩)] (fun v w'=>v = .agg #[.I (o.check m).cN,.I (o.check m).part,.I (o.check m).item,.I (o.check m).sub]/\Ext w w') (.gx (xp f)) S w':=by
  rintro f w' S e an cc rfl;refine AC5 (uj.of (afB (o.check m) bS w' an) rfl ?_);rintro aU ⟨ao,he⟩;simp -dsimp only[c7,cB,Nat.reduceAdd,Nat.reduceEqDiff,reduceIte,reduceCtorEq,df,cc];refine R_ ao (Ext.refl _) rfl ?_;simp -dsimp only[c7,cB,Nat.reduceAdd,Nat.reduceEqDiff,reduceIte,reduceCtorEq,df];exact⟨aL,he _ e AK⟩
 refine aa ?_;refine X_ (ah1 _ m cy aN h a7 AK aO (ga.empty js)) ?_ ?_;rotate_left
 .rintro c aU ⟨h1,rfl,bD,m4⟩;refine aa ?_;exact M7 _ aU _ bD (m4.obj AK av) rfl (by rw[o.check,if_pos h1])
 rintro _ aU ⟨h1,bD,m4,p5⟩;replace al:=m4.obj AK al;replace av:=m4.obj AK av;refine aa ?_;refine X_ (aoC _ m cy aU h aK bD AK aO h1 p5) ?_ ?_;rotate_left
 .rintro c bt ⟨I,rfl,bJ,m5⟩;refine aa ?_;exact M7 _ bt _ bJ (m5.obj AK av) rfl (by rw[o.check,if_neg (by simpa using h1),if_pos I])
 rintro _ bt ⟨I,bJ,m5,pn⟩;replace al:=m5.obj AK al;replace av:=m5.obj AK av;refine aa ?_;refine X_ (aoG _ m cy bt h aK bJ AK aO pn) ?_ ?_;rotate_left
 .rintro c bz ⟨ab,rfl,cv,m6⟩;refine aa ?_;exact M7 _ bz _ cv (m6.obj AK av) rfl (by rw[o.check,if_neg (by simpa using h1),if_neg (by simpa using I)])
 rintro _ bz ⟨ab,cv,m6⟩;replace al:=m6.obj AK al;replace av:=m6.obj AK av;have l7:o.check m=o.uH:=by rw[o.check,if_neg (by simpa using h1),if_neg (by simpa using I),o.aoH ab]
 refine aa ?_;intro bK dL ct;refine aa ?_;refine AC4 (uj.of (afC bS bK) rfl ?_);rintro _ rfl;refine aa ?_;exact⟨by rw[l7];rfl,dL.ext cv AK⟩
end Go.Proofs.R
end
section
namespace o
open Go
def ed.enc(b:ed):C_ B_:=[.int .i64 b.aR,.int .i64 b.U,.int .i64 b.kind]
def Cell.slot(x:Cell):C_ B_:=[.int .i64 x.sort,.int .i64 x.xv,.int .i64 x.place,.int .i64 x.kind]
def Cell.enc(x:Cell):C_ B_:=[.int .i64 x.sort,.int .i64 x.xv,.int .i64 x.place,.int .i64 x.aR,.int .i64 x.U,.int .i64 x.kind]
theorem xR:∀(y:ed),∀u∈y.enc,u.oneCell'=true:=by intro y u hu;simp[ed.enc] at hu;rcases hu with rfl | rfl | rfl<;>rfl
theorem aqE:∀(y:Cell),∀u∈y.slot,u.oneCell'=true:=by intro y u hu;simp[Cell.slot] at hu;rcases hu with rfl | rfl | rfl | rfl<;>rfl
theorem DV:∀(y:Cell),∀u∈y.enc,u.oneCell'=true:=by intro y u hu;simp[Cell.enc] at hu;rcases hu with rfl | rfl | rfl | rfl | rfl | rfl<;>rfl
end o
namespace Go.Proofs.R
open Go Go.RowKit ba
theorem amH(k:Int)(w:A_)(h:o.ee (k+1)):DD F.wc #[.I k] w fun v w'=>v = .I (o.kindOf k)/\w'=w:=by
 unfold o.ee at h;refine br E.wc ?_;unfold o.kindOf;refine aa ?_;apply I_<;>intro g1
 .refine aa ?_;exact⟨by rw[if_pos g1],aL⟩
 .refine aa ?_;exact⟨by rw[if_neg g1],aL⟩
theorem Rt(k:Int)(w:A_)(h:o.ee (k+1)):DD F.KU #[.I k] w fun v w'=>v = .I (o.kindOf k)/\w'=w:=by
 unfold o.ee at h;refine br E.KU ?_;unfold o.kindOf;refine aa ?_;apply I_<;>intro g1
 .refine aa ?_;exact⟨by rw[if_pos g1],aL⟩
 .refine aa ?_;exact⟨by rw[if_neg g1,Int.add_comm],aL⟩
theorem QF(x:o.Var)(v:B_)(l:C_ o.Scalar)(w:A_)(aC:o.ih w v l)(h:o.ee (x.scalar+1)) :
  DD F.vO #[.agg x.enc.toArray,v] w fun v w'=>v = .agg (o.eY x.scalar x.aR x.U l).enc.toArray/\Ext w w':=by
 obtain⟨ae,c,rfl,_⟩:=aC.form;rw[o.zm];refine br E.vO ?_;refine aa ?_;intro w1 bw cM ai al;refine aa ?_;intro aD bS dm aj av;replace al:=aj.obj al;have gz:=cA al;have z2:=cA av;have aJ:=ai.trans aj;refine aa ?_;refine J_ (HL x _ l aD (aC.ext aJ)) ?_;rintro _ aN ⟨rfl,ah⟩;replace al:=ah.obj al;replace av:=ah.obj av;have a7:=aJ.trans ah;refine aa ?_;refine J_ (amH x.scalar aN h) ?_;rintro _ oO ⟨rfl,rfl⟩;refine aa ?_;intro aU dE bp;refine aa ?_;exact⟨aL,dE.ext a7 (by have:=ai.size;omega)⟩
theorem amS(cs:C_ B_)(m:o.Model)(w:A_)(h:o.eh w cs m)(aK:m.cK)(aO:gK w) :
  DD F.o1 #[.agg cs.toArray] w fun v w'=>v = .bool (decide ((o.check m).cN=0))/\Ext w w':=by
 obtain⟨b6,bx,bR,c1,bX,c2,bZ,bu,ca,bC,rfl,_⟩:=h.form;refine br E.o1 ?_;refine aa ?_;intro w1 bw cM ai al;refine aa ?_;refine J_ (yC _ m w1 (h.ext ai) aK (aO.ext ai)) ?_;rintro _ aD ⟨rfl,aj⟩;refine aa ?_;refine _K (v:=.I (o.check m).cN) rfl ?_;refine aa ?_;exact⟨aL,ai.trans aj⟩
end Go.Proofs.R
end
section
namespace ba
open Go Go.RowKit
theorem iT.congr{α:Type}{enc:α->C_ B_}{e:F_}{sz base n:Nat}{w:A_}{vs ue:Nat->H_ Addr×Nat×Nat}{xs GU:Nat->C_ α}(h:iT enc e sz base w n vs xs)(aG:∀i,i<n->vs i=ue i)(ag:∀i,i<n->xs i=GU i):iT enc e sz base w n ue GU :=
 ⟨fun i U=>by rw[<-aG i U,<-ag i U];exact h.own i U,fun i j k U aF cz he=>by rw[<-aG j aF];rw[<-aG i U] at he;exact h.apart i j k U aF cz he⟩
theorem NR{S:Fr}{t:Nat}{n:Int}(h:S t = .I n):fa S ((List.range 1).map fun i=>(i*1,1)) [(0,.tmp t)] [.I 0]=some [.I n]:=by
 simp[fa,lay,de,h,Value.cells,List.range,List.range.loop]
structure eM(cD:List TypeId)(w w':World):Prop where
 size:w.heap.size<=w'.heap.size
 cx:∀(k:Nat) (c:Array Value) (t:TypeId),w.heap[k]? = some (.cells c t)->t∉cD->w'.heap[k]? = some (.cells c t)
section
variable{cD:List TypeId}{a b w w':World}
theorem eM.refl:eM cD w w:=⟨GA _,fun _ _ _ h _=>h⟩
theorem eM.trans{c:A_}(h:eM cD a b)(k:eM cD b c):eM cD a c:=⟨QB h.size k.size,fun i c t an aB=>k.cx i c t (h.cx i c t an aB) aB⟩
theorem eM.ext(h:Ext a b):eM cD a b:=⟨h.size,fun _ _ _ an _=>h.obj an⟩
theorem eM.mod{A:Nat->Prop}(h:Mod A a b)(dg:∀(k:Nat) (c:Array B_) (t:F_),a.heap[k]? = some (.cells c t)->A k->t∈cD):eM cD a b:=⟨h.size,fun k c t an aB=>h.obj (fun hk=>aB (dg k c t an hk)) an⟩
theorem eM.wr{k:Nat}{c:Array B_}{t:F_}{f:Nat×Nat}(h:dy k a b)(an:a.heap[k]? = some (.cells c t f))(aB:t∈cD):eM cD a b:=eM.mod (h.mod (A:=fun i=>i=k) rfl) fun i kN hY qp e=>by
 subst e;rw[an] at qp;injection qp with qp;injection qp with _ e;exact e ▸ aB
theorem aS.iB{α:Type}{enc:α->C_ B_}{e:F_}{sz base:Nat}{v:B_}{xs:C_ α}(h:aS enc e sz base a v xs)(k:eM cD a b)(he:e∉cD):aS enc e sz base b v xs:=by
 refine⟨h.1,?_⟩;rcases h.2 with az | ⟨g,cap,cur,rfl,ao,aK,rest⟩
 .exact .inl az
 .exact .inr ⟨g,cap,cur,rfl,ao,k.cx _ _ _ aK he,rest⟩
end
end ba
namespace o
structure ho where
 V:List Int
 C:List Int
 c8:List Int
 n:Nat
 L:List Int
 H:List Int
 Z:List Cell
def ho.of(V C c8:C_ Int)(cs:C_ Cell):ho:=⟨V,C,c8,cs.length,cs.map (·.aR),cs.map (·.U),cs⟩
def ho.rows(s:ho):Nat->C_ Int:=fun i=>if i=0 then s.V else if i=1 then s.C else if i=2 then s.c8 else if i=3 then s.L else s.H
end o
namespace Go.Proofs.R
open Go Go.RowKit ba
def tK:C_ F_:=[T.a,T.r,T.i,T.oi]
structure k6(w1:World)(bM bs:Nat)(s:o.ho)(W:World):Prop where
 mod:Mod (fun k=>k=bM\/k=bs) w1 W
 ex:∃(vs:Nat->gA) (u:gA),W.heap[bM]? = some (.cells #[cw (vs 0),cw (vs 1),cw (vs 2),.int .i64 s.n,cw (vs 3),cw (vs 4)] T.i)/\iT cL T.a 1 w1.heap.size W 5 vs s.rows /\
  W.heap[bs]? = some (.cells #[cw u] T.oi)/\aS o.Cell.slot T.r 4 w1.heap.size W (cw u) s.Z
theorem k6.move{w1:A_}{bM bs:Nat}{s:o.ho}{W b8:A_}{A:Nat->Prop}(h:k6 w1 bM bs s W)(m:Mod A W b8)(dg:∀(k:Nat) (c:Array B_) (t:F_),W.heap[k]? = some (.cells c t)->t∈tK->¬A k)(hN:∀k,A k->w1.heap.size<=k):k6 w1 bM bs s b8:=by
 obtain⟨vs,u,h1,I,ab,aH⟩:=h.ex;refine⟨h.mod.comp m (fun _ _ a=>a) fun k hk a=>absurd (hN k a) AK,vs,u,m.obj (dg _ _ _ h1 BN) h1,I.mod m fun i k U hk=>?_,m.obj (dg _ _ _ ab BN) ab,aH.mod m fun k hk=>?_⟩
 .obtain⟨cur,an⟩:=(I.own i U).cx k hk;exact dg _ _ _ an BN
 .obtain⟨cur,an⟩:=aH.cx k hk;exact dg _ _ _ an BN
theorem k6.ext{w1:A_}{bM bs:Nat}{s:o.ho}{W b8:A_}(h:k6 w1 bM bs s W)(e:Ext W b8):k6 w1 bM bs s b8:=h.move (A:=fun _=>False) e.mod (fun _ _ _ _ _ h=>h) fun _ h=>h.elim
structure oe(w1:World)(s:o.ho)(x:o.ed)(fU:Fr)(w0:World)(vs:Nat->gA)(a33:Addr)(d25 d26 d31 d32 d33:Bool)(S:Fr)(w:World):Prop where
 hG:∀t,t∉[25,26,31,32,33,34]->S t=fU t
 mod:Mod (fun k=>(cw (vs 3)).ownBlock=some k\/(cw (vs 4)).ownBlock=some k) w0 w
 rows:∃v3 v4,iT cL T.a 1 w1.heap.size w 5 (dZ (dZ vs 3 v3) 4 v4) (dZ (dZ s.rows 3 (if d26 then s.L++[x.aR] else s.L)) 4 (if d32 then s.H++[x.U] else s.H))/\(d26=false->v3=vs 3)/\(d32=false->v4=vs 4) /\
  (d26=true->S 26=cw v3)/\(d32=true->S 32=cw v4)
 yL:d25=true->d26=false->∃b,S 25 = .slice (some ⟨b,0,none⟩) 1 1/\w0.heap.size<=b/\w.heap[b]? = some (.cells #[.int .i64 x.aR] T.a)
 Gn:d31=true->d32=false->∃b,S 31 = .slice (some ⟨b,0,none⟩) 1 1/\w0.heap.size<=b/\w.heap[b]? = some (.cells #[.int .i64 x.U] T.a)
 Gp:d33=true->S 33 = .pointer (some a33)
section
variable{w1 w0 w:World}{s:o.ho}{x:o.ed}{fU S:Fr}{vs:Nat->gA}{a33:Addr}{d25 d26 d31 d32 d33:Bool}{K:Value->World->Prop}
theorem oe.aaN(h:oe w1 s x fU w0 vs a33 false false d31 d32 d33 S w)(wi:fU 24 = .I x.aR)(hk:∀v w',oe w1 s x fU w0 vs a33 true false d31 d32 d33 (put S (some 25) v) w'->K v w') :
  n2 Tryz.prog (.gb T.a 1 1 [.I 0] [(0,.tmp 24)]) S w K:=by
 have he:Ext w (w.alloc (.cells #[.I x.aR] T.a)):=(Ext.refl w).alloc _;refine DO (NR (by rw[h.hG 24 BN,wi])) (hk _ _ ⟨fun t aB=>?_,h.mod.trans he.mod,?_,fun _ _=>⟨_,by simp[jf,bN],h.mod.size,heap_alloc_new w _⟩,fun a b=>?_,fun a=>by rw[jf,bN,if_neg BN];exact h.Gp a⟩)
 .rw[jf,bN,if_neg (by intro e;subst e;simp at aB)];exact h.hG t aB
 .obtain⟨v3,v4,h1,I,ab,aH,a8⟩:=h.rows;exact⟨v3,v4,h1.ext he,I,ab,fun e=>(by cases e),fun e=>by rw[jf,bN,if_neg BN];exact a8 e⟩
 .obtain⟨b,h1,I,ab⟩:=h.Gn a b;exact⟨b,by rw[jf,bN,if_neg BN];exact h1,I,he.obj ab⟩
theorem oe.QP(h:oe w1 s x fU w0 vs a33 d25 d26 false false d33 S w)(aid:fU 30 = .I x.U)(hk:∀v w',oe w1 s x fU w0 vs a33 d25 d26 true false d33 (put S (some 31) v) w'->K v w') :
  n2 Tryz.prog (.gb T.a 1 1 [.I 0] [(0,.tmp 30)]) S w K:=by
 have he:Ext w (w.alloc (.cells #[.I x.U] T.a)):=(Ext.refl w).alloc _;refine DO (NR (by rw[h.hG 30 BN,aid])) (hk _ _ ⟨fun t aB=>?_,h.mod.trans he.mod,?_,fun a b=>?_,fun _ _=>⟨_,by simp[jf,bN],h.mod.size,heap_alloc_new w _⟩,fun a=>by rw[jf,bN,if_neg BN];exact h.Gp a⟩)
 .rw[jf,bN,if_neg (by intro e;subst e;simp at aB)];exact h.hG t aB
 .obtain⟨v3,v4,h1,I,ab,aH,a8⟩:=h.rows;exact⟨v3,v4,h1.ext he,I,ab,fun e=>by rw[jf,bN,if_neg BN];exact aH e,fun e=>by cases e⟩
 .obtain⟨b,h1,I,ab⟩:=h.yL a b;exact⟨b,by rw[jf,bN,if_neg BN];exact h1,I,he.obj ab⟩
theorem oe.MM(h:oe w1 s x fU w0 vs a33 true false d31 d32 d33 S w)(aic:fU 22=cw (vs 3))(cg:∀i k,i<5->(cw (vs i)).ownBlock=some k->k<w0.heap.size)(ao:w1.heap.size<=w0.heap.size)(hm:s.L.length<=100000)
  (hk:∀v w',oe w1 s x fU w0 vs a33 true true d31 d32 d33 (put S (some 26) v) w'->K v w') :
  n2 Tryz.prog (.app T.b T.a 1 8 (.tmp 22) (.tmp 25)) S w K:=by
 obtain⟨b,bB,aJ,a7⟩:=h.yL rfl rfl;obtain⟨v3,v4,h1,I,ab,aH,a8⟩:=h.rows;obtain rfl:=I rfl;show yX Tryz.prog T.b T.a 1 8 (S 22) (S 25) w K;rw[h.hG 22 BN,aic,bB];have wG:=h.mod.size;refine iT.app (vs:=dZ (dZ vs 3 (vs 3)) 4 v4) (xs:=dZ (dZ s.rows 3 (if false=true then s.L++[x.aR] else s.L)) 4 (if d32=true then s.H++[x.U] else s.H)) (y:=x.aR) 3 BN h1 (fun _=>rfl) (gT a7) l3 (by simp[dZ];omega) (by simp[dZ];unfold maxLen;omega) AK fun b0 w' aO aK _=>?_;have aW:Mod (fun k=>(cw (vs 3)).ownBlock=some k) w w':=Mod.grown aK fun k hk=>hk;refine hk _ _ ⟨fun t aB=>?_,h.mod.trans (aW.AW fun k hk=>.inl hk),?_,fun _ e=>(by cases e),fun a b=>?_,fun a=>by rw[jf,bN,if_neg BN];exact h.Gp a⟩
 .rw[jf,bN,if_neg (by intro e;subst e;simp at aB)];exact h.hG t aB
 .refine⟨b0,v4,aO.congr (fun i U=>?_) (fun i U=>?_),fun e=>(by cases e),ab,fun _=>by simp[jf,bN],fun e=>by rw[jf,bN,if_neg BN];exact a8 e⟩
  .unfold dZ;by_cases a:i=3
   .subst a;simp
   .simp[a]
  .unfold dZ;by_cases a:i=3
   .subst a;simp
   .simp[a]
 .obtain⟨gS,h1,I,ab⟩:=h.Gn a b;exact⟨gS,by rw[jf,bN,if_neg BN];exact h1,I,aW.obj (fun e=>by have:=cg 3 gS BN e;omega) ab⟩
theorem oe.MN(h:oe w1 s x fU w0 vs a33 true true true false d33 S w)(N4:fU 28=cw (vs 4))(ao:w1.heap.size<=w0.heap.size)(hm:s.H.length<=100000)
  (hk:∀v w',oe w1 s x fU w0 vs a33 true true true true d33 (put S (some 32) v) w'->K v w') :
  n2 Tryz.prog (.app T.b T.a 1 8 (.tmp 28) (.tmp 31)) S w K:=by
 obtain⟨b,bB,aJ,a7⟩:=h.Gn rfl rfl;obtain⟨v3,v4,h1,I,ab,aH,a8⟩:=h.rows;obtain rfl:=ab rfl;show yX Tryz.prog T.b T.a 1 8 (S 28) (S 31) w K;rw[h.hG 28 BN,N4,bB];have wG:=h.mod.size;refine iT.app (vs:=dZ (dZ vs 3 v3) 4 (vs 4)) (xs:=dZ (dZ s.rows 3 (if true=true then s.L++[x.aR] else s.L)) 4 (if false=true then s.H++[x.U] else s.H)) (y:=x.U) 4 BN h1 (fun _=>rfl) (gT a7) l3 (by simp[dZ];omega) (by simp[dZ];unfold maxLen;omega) AK fun b0 w' aO aK _=>?_;have aW:Mod (fun k=>(cw (vs 4)).ownBlock=some k) w w':=Mod.grown aK fun k hk=>hk;refine hk _ _ ⟨fun t aB=>?_,h.mod.trans (aW.AW fun k hk=>.inr hk),?_,fun _ e=>(by cases e),fun _ e=>(by cases e),fun a=>by rw[jf,bN,if_neg BN];exact h.Gp a⟩
 .rw[jf,bN,if_neg (by intro e;subst e;simp at aB)];exact h.hG t aB
 .refine⟨v3,b0,aO.congr (fun i U=>?_) (fun i U=>?_),fun e=>(by cases e),fun e=>(by cases e),fun e=>by rw[jf,bN,if_neg BN];exact aH e,fun _=>by simp[jf,bN]⟩
  .unfold dZ;by_cases a:i=4
   .subst a;simp
   .simp[a]
  .unfold dZ;by_cases a:i=4
   .subst a;simp
   .simp[a]
theorem oe.RX(h:oe w1 s x fU w0 vs a33 d25 d26 d31 d32 d33 S w):oe w1 s x fU w0 vs a33 d25 d26 d31 d32 true (b4 S 33 (.pointer (some a33))) w:=by
 have q:∀t,t≠33->b4 S 33 (.pointer (some a33)) t=S t:=fun t aB=>by rw[bN,if_neg aB]
 refine⟨fun t aB=>?_,h.mod,?_,fun a b=>?_,fun a b=>?_,fun _=>by simp[bN]⟩
 .rw[q t (by intro e;subst e;simp at aB)];exact h.hG t aB
 .obtain⟨v3,v4,h1,I,ab,aH,a8⟩:=h.rows;exact⟨v3,v4,h1,I,ab,fun e=>by rw[q _ BN];exact aH e,fun e=>by rw[q _ BN];exact a8 e⟩
 .obtain⟨gS,h1,I⟩:=h.yL a b;exact⟨gS,by rw[q _ BN];exact h1,I⟩
 .obtain⟨gS,h1,I⟩:=h.Gn a b;exact⟨gS,by rw[q _ BN];exact h1,I⟩
end
end Go.Proofs.R
end
section
namespace Go.Proofs.R
open Go Go.RowKit ba
def k5(b:Nat)(w w':A_):Prop := ∀j,j<3->w'.cell? (Addr.add ⟨b,0,none⟩ j)=w.cell? (Addr.add ⟨b,0,none⟩ j)
theorem k5.refl{b:Nat}{w:A_}:k5 b w w:=fun _ _=>rfl
theorem k5.trans{b:Nat}{w w' bO:A_}(h:k5 b w w')(k:k5 b w' bO):k5 b w bO:=fun j aF=>(k j aF).trans (h j aF)
theorem k5.of{b:Nat}{w w':A_}{bx c1 c2:B_}{l w2:C_ B_}{t hY:F_}{f uG:Nat×Nat}(h:w.heap[b]? = some (.cells (bx :: c1 :: c2 :: l).toArray t f))(bo:w'.heap[b]? = some (.cells (bx :: c1 :: c2 :: w2).toArray hY uG)):k5 b w w':=fun j aF=>by
 have:j=0\/j=1\/j=2:=AK
 rcases this with rfl | rfl | rfl
 .rw[fW h (v:=bx) rfl,fW bo (v:=bx) rfl]
 .rw[fW h (v:=c1) rfl,fW bo (v:=c1) rfl]
 .rw[fW h (v:=c2) rfl,fW bo (v:=c2) rfl]
theorem k5.ext{b:Nat}{w w':A_}(he:Ext w w')(h:b<w.heap.size):k5 b w w':=fun j _=>by
 rw[add_eq];simp only[World.cell?,he.heap h]
def Vn:eT:=(.take (bd 21 4 3) (.take (bk 22 21) (.take (bd 23 0 11) (.take (bk 24 23) (.take (bd 27 5 3) (.take (bk 28 27) (.take (bd 29 1 11) (.take (bk 30 29) (.alt (bP 25 (.gb T.a 1 1 [(.int .i64 0)] [(0,(ad 24))])) (.alt (bP 26 (.app T.b T.a 1 8 (ad 22) (ad 25))) (.take (bd 33 4 3) (.alt (bP 31 (.gb T.a 1 1 [(.int .i64 0)] [(0,(ad 30))])) (.bh (bP 32 (.app T.b T.a 1 8 (ad 28) (ad 31))) (.bh (ys 33 26) (.take (bd 34 5 3) (.bh (ys 34 32) .done .nil)) .nil) .nil) .nil)) (.alt (bP 31 (.gb T.a 1 1 [(.int .i64 0)] [(0,(ad 30))])) (.alt (bP 26 (.app T.b T.a 1 8 (ad 22) (ad 25))) (.take (bd 33 4 3) (.bh (bP 32 (.app T.b T.a 1 8 (ad 28) (ad 31))) (.bh (ys 33 26) (.take (bd 34 5 3) (.bh (ys 34 32) .done .nil)) .nil) .nil)) .nil) .nil)) (.alt (bP 31 (.gb T.a 1 1 [(.int .i64 0)] [(0,(ad 30))])) (.alt (bP 25 (.gb T.a 1 1 [(.int .i64 0)] [(0,(ad 24))])) (.alt (bP 26 (.app T.b T.a 1 8 (ad 22) (ad 25))) (.take (bd 33 4 3) (.bh (bP 32 (.app T.b T.a 1 8 (ad 28) (ad 31))) (.bh (ys 33 26) (.take (bd 34 5 3) (.bh (ys 34 32) .done .nil)) .nil) .nil)) .nil) .nil) .nil))))))))))
theorem mO{S:Fr}{n m:Nat}{v u:B_}(h:S m=u)(az:m≠n):b4 S n v m=u:=by rw[bN,if_neg az];exact h
theorem ad7{w1 w:A_}{bM bs bW:Nat}{s:o.ho}{x:o.ed}{S:Fr}{cT:Fr->A_->Prop}(cz:bM≠bs)(hN:bM<w1.heap.size/\bs<w1.heap.size)(ak:k6 w1 bM bs s w)(ab:S 3 = .pointer (some ⟨bM,0,none⟩))(IT:S 11 = .pointer (some ⟨bW,0,none⟩))
  (an:w.heap[bW]? = some (.cells x.enc.toArray T.j))(hm:s.L.length<=100000)(Pn:s.H.length<=100000)
  (hk:∀a6 w',k6 w1 bM bs ⟨s.V,s.C,s.c8,s.n,s.L++[x.aR],s.H++[x.U],s.Z⟩ w'->eM tK w w'->k5 bM w w'->cT a6 w'):∃C:A_->Prop,C w/\ev Tryz.prog C Vn S w cT:=by
 obtain⟨vs,u,g1,g2,g3,g4⟩:=ak.ex;have va:=g2.not g1 BN;have pY:=g2.not an BN;refine⟨Mod (fun k=>(cw (vs 3)).ownBlock=some k\/(cw (vs 4)).ownBlock=some k) w,Mod.refl _ _,?_⟩;have rx:∀w',Mod (fun k=>(cw (vs 3)).ownBlock=some k\/(cw (vs 4)).ownBlock=some k) w w'->w'.heap[bM]? = some (.cells #[cw (vs 0),cw (vs 1),cw (vs 2),.I s.n,cw (vs 3),cw (vs 4)] T.i) :=
  fun w' m=>m.obj (fun h=>h.elim (va 3 BN) (va 4 BN)) g1
 have eW:∀w',Mod (fun k=>(cw (vs 3)).ownBlock=some k\/(cw (vs 4)).ownBlock=some k) w w'->w'.heap[bW]? = some (.cells x.enc.toArray T.j) :=
  fun w' m=>m.obj (fun h=>h.elim (pY 3 BN) (pY 4 BN)) an
 have dr:w1.heap.size<=w.heap.size:=ak.mod.size;unfold Vn;refine ev.lo ab ?_;refine ev.ld (v:=cw (vs 3)) (by simp[bN];rfl) (fun w' m=>fW (rx w' m) rfl) ?_;refine ev.lo (a:=⟨bW,0,none⟩) (by simp[bN,IT]) ?_;refine ev.ld (v:=.I x.aR) (by simp[bN];rfl) (fun w' m=>fW (eW w' m) rfl) ?_;refine ev.lo (a:=⟨bM,0,none⟩) (by simp[bN,ab]) ?_;refine ev.ld (v:=cw (vs 4)) (by simp[bN];rfl) (fun w' m=>fW (rx w' m) rfl) ?_;refine ev.lo (a:=⟨bW,0,none⟩) (by simp[bN,IT]) ?_;refine ev.ld (v:=.I x.U) (by simp[bN];rfl) (fun w' m=>fW (eW w' m) rfl) ?_;generalize zM:b4 _ 30 _=xM;have a7:xM 3 = .pointer (some ⟨bM,0,none⟩):=by subst zM;simp[bN,ab]
 have NA:xM 22=cw (vs 3):=by subst zM;simp[bN]
 have Ie:xM 24 = .I x.aR:=by subst zM;simp[bN]
 have NB:xM 28=cw (vs 4):=by subst zM;simp[bN]
 have NC:xM 30 = .I x.U:=by subst zM;simp[bN]
 have dM:∀i,vs i=dZ (dZ vs 3 (vs 3)) 4 (vs 4) i:=fun i=>by
  unfold dZ;by_cases a:i=4
  .subst a;simp
  .by_cases b:i=3
   .subst b;simp
   .simp[a,b]
 have et:∀i,s.rows i=dZ (dZ s.rows 3 (if false=true then s.L++[x.aR] else s.L)) 4 (if false=true then s.H++[x.U] else s.H) i:=fun i=>by
  unfold dZ;by_cases a:i=4
  .subst a;simp[o.ho.rows]
  .by_cases b:i=3
   .subst b;simp[o.ho.rows]
   .simp[a,b]
 have t0:oe w1 s x xM w vs (Addr.add ⟨bM,0,none⟩ 4) false false false false false xM w :=
  ⟨fun _ _=>rfl,Mod.refl _ _,⟨vs 3,vs 4,g2.congr (fun i U=>dM i) (fun i U=>et i),
   fun _=>rfl,fun _=>rfl,fun e=>(by cases e),fun e=>(by cases e)⟩,fun e=>(by cases e),fun e=>(by cases e),fun e=>(by cases e)⟩
 have cg:∀i k,i<5->(cw (vs i)).ownBlock=some k->k<w.heap.size:=fun i k U he=>(g2.lt i k U he).2;have fin:∀S aD,oe w1 s x xM w vs (Addr.add ⟨bM,0,none⟩ 4) true true true true true S aD->ev Tryz.prog (Mod (fun k=>(cw (vs 3)).ownBlock=some k\/(cw (vs 4)).ownBlock=some k) w) (.bh (ys 33 26) (.take (bd 34 5 3) (.bh (ys 34 32) .done .nil)) .nil) S aD cT:=by
  intro S aD t;obtain⟨v3,v4,cZ,_,_,gP,rJ⟩:=t.rows;have ag:=rx aD t.mod;refine ev.zF ?_;show vG (S 33) (S 26) aD _;rw[t.Gp rfl,gP rfl];refine RT fun mQ=>_E ag Bs rfl fun aN gg bl=>?_;show ev _ _ _ S _ _;refine ev.lo (a:=⟨bM,0,none⟩) (by rw[t.hG 3 BN,a7]) ?_;refine ev.zF ?_;show vG (b4 S 34 _ 34) (b4 S 34 _ 32) aN _;rw[show b4 S 34 (.pointer (some (Addr.add ⟨bM,0,none⟩ 5))) 34 = .pointer (some (Addr.add ⟨bM,0,none⟩ 5)) from by simp[bN],mO (rJ rfl) BN];refine RT fun mQ=>_E bl Bs rfl fun aU dE bp=>?_;have hw:=gg.trans dE;have j5:=cZ.not ag BN;obtain⟨us,at6⟩:∃us,us=cw u:=⟨_,rfl⟩;refine hk _ _ ⟨?_,dZ (dZ vs 3 v3) 4 v4,u,?_,(cZ.mod (hw.mod (A:=fun k=>k=bM) rfl) fun i k U hk e=>j5 i U (by rw[<-e];exact hk)).congr (fun _ _=>rfl) (fun i U=>?_),?_,?_⟩ ?_ ?_
  .refine(ak.mod.comp t.mod (B:=fun k=>k=bM\/k=bs) (fun _ _ a=>a) fun i U a=>?_).trans (hw.mod (A:=fun k=>k=bM\/k=bs) (.inl rfl));rcases a with a | a
   .have:=(g2.lt 3 i BN a).1;omega
   .have:=(g2.lt 4 i BN a).1;omega
  .exact bp
  .have:i=0\/i=1\/i=2\/i=3\/i=4:=AK
   rcases this with rfl | rfl | rfl | rfl | rfl<;>simp[dZ,o.ho.rows]
  .exact hw.obj (t.mod.obj (fun h=>h.elim (g2.not g3 BN 3 BN) (g2.not g3 BN 4 BN)) g3) (Ne.symm cz)
  .refine(g4.mod t.mod fun k hk h=>?_).mod (hw.mod (A:=fun k=>k=bM) rfl) fun k hk e=>?_
   .obtain⟨cur,hI⟩:=g4.cx k hk;exact h.elim (g2.not hI BN 3 BN) (g2.not hI BN 4 BN)
   .obtain⟨cur,hI⟩:=g4.cx k hk;subst e;rw[g1] at hI;injection hI with hI;injection hI with _ e;exact absurd e BN
  .refine(eM.mod t.mod fun k c hY an a=>?_).trans (eM.wr hw ag BN);rcases a with a | a
   .obtain⟨cur,hI⟩:=(g2.own 3 BN).cx k a;rw[an] at hI;injection hI with hI;injection hI with _ e;rw[e];decide
   .obtain⟨cur,hI⟩:=(g2.own 4 BN).cx k a;rw[an] at hI;injection hI with hI;injection hI with _ e;rw[e];decide
  .exact k5.of g1 bp
 clear hk;refine⟨mw.e (t0.aaN Ie fun v2 aD t2=>⟨t2.mod,?_,?_,trivial⟩),mw.e (t0.QP NC fun v2 aD t2=>⟨t2.mod,?_⟩),trivial⟩
 .refine mw.e (t2.MM NA cg dr hm fun v3 aN t3=>⟨t3.mod,?_⟩);refine ev.lo (a:=⟨bM,0,none⟩) (by rw[t3.hG 3 BN,a7]) ?_;refine ev.Br (mw.e (t3.RX.QP NC fun v4 aU t4=>⟨t4.mod,?_⟩));exact ev.zF (pP.e (t4.MN NB dr Pn fun v5 bt t5=>fin _ _ t5))
 .refine mw.e (t2.QP NC fun v3 aN t3=>⟨t3.mod,?_⟩);refine ev.Br (mw.e (t3.MM NA cg dr hm fun v4 aU t4=>⟨t4.mod,?_⟩));refine ev.lo (a:=⟨bM,0,none⟩) (by rw[t4.hG 3 BN,a7]) ?_;exact ev.zF (pP.e (t4.RX.MN NB dr Pn fun v5 bt t5=>fin _ _ t5))
 .refine ev.Br (mw.e (t2.aaN Ie fun v3 aN t3=>⟨t3.mod,?_⟩));refine ev.Br (mw.e (t3.MM NA cg dr hm fun v4 aU t4=>⟨t4.mod,?_⟩));refine ev.lo (a:=⟨bM,0,none⟩) (by rw[t4.hG 3 BN,a7]) ?_;exact ev.zF (pP.e (t4.RX.MN NB dr Pn fun v5 bt t5=>fin _ _ t5))
end Go.Proofs.R
end
section
namespace Go.Proofs.R
open Go Go.RowKit ba
section
variable{w1:World}{bM bs:Nat}{s:o.ho}{W b8:World}
theorem aqD{vs:Nat->gA}{u:gA}{qj lF r1:A_}{y:o.Cell}{b0:B_}(cz:bM≠bs)(hm:Mod (fun k=>k=bM\/k=bs) w1 W)(g1:W.heap[bM]? = some (.cells #[cw (vs 0),cw (vs 1),cw (vs 2),.I s.n,cw (vs 3),cw (vs 4)] T.i))(g2:iT cL T.a 1 w1.heap.size W 5 vs s.rows)
  (g3:W.heap[bs]? = some (.cells #[cw u] T.oi))(g4:aS o.Cell.slot T.r 4 w1.heap.size W (cw u) s.Z)(he:Ext W qj)(aK:qj.grownBy lF (cw u).ownBlock)(aO:aS o.Cell.slot T.r 4 w1.heap.size lF b0 (s.Z++[y]))
  (hw:dy bs lF r1)(an:r1.heap[bs]? = some (.cells #[b0] T.oi)):k6 w1 bM bs ⟨s.V,s.C,s.c8,s.n,s.L,s.H,s.Z++[y]⟩ r1/\eM tK W r1/\k5 bM W r1:=by
 obtain⟨aQ,cap,rfl,_⟩:=aO.form;have yD:Mod (fun k=>(cw u).ownBlock=some k) qj lF:=Mod.grown aK fun k hk=>hk;have mf:∀{k:Nat} {c:Array B_} {t:F_},W.heap[k]? = some (.cells c t)->t≠T.r->¬(cw u).ownBlock=some k:=fun {k c t} hk aB e=>by
  obtain⟨cur,h⟩:=g4.cx k e;rw[hk] at h;injection h with h;injection h with _ h;exact aB h
 have m6:∀{k:Nat} {c:Array B_} {t:F_},W.heap[k]? = some (.cells c t)->t≠T.r->lF.heap[k]? = some (.cells c t):=fun hk aB=>yD.obj (mf hk aB) (he.obj hk);have tO:Mod (fun k=>k=bs) lF r1:=hw.mod rfl;refine⟨⟨?_,vs,(aQ,_,cap),tO.obj cz (m6 g1 BN),?_,an,aO.mod tO fun k hk e=>?_⟩,?_,k5.of g1 (tO.obj cz (m6 g1 BN))⟩
 .have h1:Mod (fun k=>k=bM\/k=bs) w1 qj:=hm.comp (A':=fun _=>False) he.mod (fun _ _ a=>a) fun _ _ a=>a.elim;have I:Mod (fun k=>k=bM\/k=bs) w1 lF:=h1.comp yD (fun _ _ a=>a) fun i U a=>by have:=(g4.lt i a).1;omega
  exact I.trans (hw.mod (.inr rfl))
 .refine((g2.ext he).mod yD fun i k U hk e=>?_).mod tO fun i k U hk e=>?_
  .obtain⟨cur,h⟩:=(g2.own i U).cx k hk;exact mf h BN e
  .subst e;obtain⟨cur,h⟩:=(g2.own i U).cx k hk;rw[g3] at h;injection h with h;injection h with _ h;exact absurd h BN
 .subst e;obtain⟨cur,h⟩:=aO.cx k hk;rw[m6 g3 BN] at h;injection h with h;injection h with _ h;exact absurd h BN
 .refine((eM.ext he).trans (eM.mod yD fun k c t an a=>?_)).trans (eM.wr hw (m6 g3 BN) BN);obtain⟨cur,h⟩:=(g4.ext he).cx k a;rw[an] at h;injection h with h;injection h with _ h;rw[h];decide
theorem afN{vs:Nat->gA}{u:gA}{n:Int}(cz:bM≠bs)(hm:Mod (fun k=>k=bM\/k=bs) w1 W)(g1:W.heap[bM]? = some (.cells #[cw (vs 0),cw (vs 1),cw (vs 2),.I s.n,cw (vs 3),cw (vs 4)] T.i))(g2:iT cL T.a 1 w1.heap.size W 5 vs s.rows)
  (g3:W.heap[bs]? = some (.cells #[cw u] T.oi))(g4:aS o.Cell.slot T.r 4 w1.heap.size W (cw u) s.Z)(hw:dy bM W b8)(az:n=((s.n+1:Nat):Int))
  (an:b8.heap[bM]? = some (.cells #[cw (vs 0),cw (vs 1),cw (vs 2),.I n,cw (vs 3),cw (vs 4)] T.i)):k6 w1 bM bs ⟨s.V,s.C,s.c8,s.n+1,s.L,s.H,s.Z⟩ b8/\eM tK W b8/\k5 bM W b8:=by
 subst az;have tO:Mod (fun k=>k=bM) W b8:=hw.mod rfl;refine⟨⟨hm.trans (hw.mod (.inl rfl)),vs,u,an,g2.mod tO fun i k U hk e=>?_,tO.obj (Ne.symm cz) g3,g4.mod tO fun k hk e=>?_⟩,eM.wr hw g1 BN,k5.of g1 an⟩
 .subst e;exact g2.not g1 BN i U hk
 .subst e;obtain⟨cur,h⟩:=g4.cx k hk;rw[g1] at h;injection h with h;injection h with _ h;exact absurd h BN
end
theorem ami(so jj:Int)(v:B_)(l:C_ o.ed)(qi qb qe:C_ Int)(cs:C_ o.Cell)(base:Nat)(w1:A_)(bM bs:Nat)(w:A_)(cz:bM≠bs)(hN:bM<w1.heap.size/\bs<w1.heap.size)(ak:k6 w1 bM bs (o.ho.of qi qb qe cs) w)(aG:aS o.ed.enc T.j 3 base w v l)
  (hm:cs.length+l.length<=100000) :
  DD F.r3 #[.I so,.I jj,v,.pointer (some ⟨bM,0,none⟩),.pointer (some ⟨bs,0,none⟩)] w fun v w'=>v = .I cs.length/\k6 w1 bM bs (o.ho.of qi qb qe (cs++o.fH so jj l 0)) w'/\eM tK w w'/\k5 bM w w':=by
 obtain⟨aQ,cap,rfl,_⟩:=aG.form;obtain⟨arO,LR,g1,g2,g3,g4⟩:=ak.ex;refine br E.r3 ?_;refine aa ?_;refine L_ 16 l.length [0,1,2,3,4,9,14,15] (fun _:Unit=>[]) () (fun k _ w'=>k6 w1 bM bs (o.ho.of qi qb qe (cs++o.fH so jj (l.take k) 0)) w'/\eM tK w w'/\k5 bM w w') bc bc ⟨by simpa[o.fH] using ak,eM.refl,k5.refl⟩ ?_;clear g1 g2 g3 g4 ak;rintro k _ S aD hk ⟨ak,oH,hJ⟩;have kp:bn 3 (Flat o.ed.enc) aD (.slice aQ l.length cap) l:=aS.hE (enc:=o.ed.enc) (fun _=>rfl) (aG.iB oH BN);refine aa ?_;apply I_<;>intro g1
 .have a1:k<l.length:=AK
  obtain⟨a,rfl⟩:=kp.addr;have Ou:(o.fH so jj (l.take k) 0).length=k:=by rw[o.u3,K9];omega
  have wI:=o.xR l[k];refine eb ?_;simp -dsimp only[cB];refine eb ?_;simp -dsimp only[cB];refine eb ?_;intro wn bW fe fC eU;refine eb ?_;intro aN gg bl;have ah:=gg.ext fC fe;have gO:=ak.ext ah;clear gg fC eU;refine eb ?_;refine S_ [0,1,2,3,4,9,10,11,14,15,16] (fun _:Unit=>[]) (fun _ w'=>k6 w1 bM bs ⟨qi,qb,qe,(cs++o.fH so jj (l.take k) 0).length,(cs++o.fH so jj (l.take k) 0).map (·.aR)++[l[k].aR],(cs++o.fH so jj (l.take k) 0).map (·.U)++[l[k].U],cs++o.fH so jj (l.take k) 0⟩ w'/\eM tK aN w'/\k5 bM aN w') ?_ ?_
  .refine aa ?_;intro aU ax;refine _v (ad7 cz hN (gO.ext ax) (by simp[bN]) (by simp[bN]) (ax.obj bl) (by simp[o.ho.of,Ou];omega) (by simp[o.ho.of,Ou];omega) fun a6 w' h k bb=>?_);refine aa ?_;exact⟨(),trivial,h,(eM.ext ax).trans k,(k5.ext ax (by have:=gO.mod.size;omega)).trans bb⟩
  have ajw:k5 bM aD aN:=k5.ext ah (by have:=ak.mod.size;omega);clear gO;rintro _ S aU ⟨ly,aaf,OV⟩;obtain⟨vs,⟨LR,LS,AS⟩,g1,g2,g3,g4⟩:=ly.ex;have bp:=aaf.cx _ _ _ bl BN;refine aa ?_;intro bt dR kT aI b9;replace b9:bt.heap[dR]? = some (.cells (o.Cell.slot ⟨so,jj,k,l[k].aR,l[k].U,l[k].kind⟩).toArray T.r):=b9;have dF:=g4.ext aI;have gz:=ly.mod.size;have z2:=aI.size;have aC:(cs++o.fH so jj (l.take k) 0).length=cs.length+k:=by rw[Ln,Ou]
  refine U_ (y:=⟨so,jj,k,l[k].aR,l[k].U,l[k].kind⟩) dF b9 rfl (fun _=>rfl) o.aqE (by simp only[aC];omega) (by unfold maxLen;simp only[aC];omega) AK fun aQ n c bz dn iJ=>?_;have gm:=dF.box iJ (aI.obj g3) BN;refine aa ?_;intro bK dL ct;obtain⟨ko,u2,ajy⟩:=aqD cz ly.mod g1 g2 g3 g4 aI iJ dn dL ct;dsimp only at ko;obtain⟨ue,kH,cZ,dt,ef,gP⟩:=ko.ex;clear g1 g2 g3 g4 ly dF dn iJ gm ct b9;have aoU:=cZ;dsimp only[cw] at cZ;refine aa ?_;intro c4 jc cG;obtain⟨Cm,al9,ajz⟩:=afN cz ko.mod aoU dt ef gP jc (by dsimp only;omega) cG;refine aa ?_;refine⟨a1,aL,(),trivial,?_,((((oH.trans (eM.ext ah)).trans aaf).trans u2).trans al9),((((hJ.trans ajw).trans OV).trans ajy).trans ajz)⟩;rw[o.amj a1,<-Vq];have e:o.ho.of qi qb qe ((cs++o.fH so jj (l.take k) 0)++[⟨so,jj,k,l[k].aR,l[k].U,l[k].kind⟩])=⟨qi,qb,qe,(cs++o.fH so jj (l.take k) 0).length+1,(cs++o.fH so jj (l.take k) 0).map (·.aR)++[l[k].aR],(cs++o.fH so jj (l.take k) 0).map (·.U)++[l[k].U],cs++o.fH so jj (l.take k) 0++[⟨so,jj,k,l[k].aR,l[k].U,l[k].kind⟩]⟩:=by
   simp[o.ho.of,List.map_append,Nat.add_assoc]
  rw[e];exact Cm
 .refine aa ?_;rw[LJ AK] at ak;exact⟨aL,ak,oH,hJ⟩
end Go.Proofs.R
end
section
namespace ba
open Go Go.RowKit
section
variable{P:Program}{C:World->Prop}{S:Fr}{w:World}{K:Fr->World->Prop}
theorem ev.np{d m:Nat}{r:eT}{v:B_}(ag:S m=v)(h:ev P C r (b4 S d v) w K):ev P C (.take ⟨some d,none,.p (.np (.tmp m))⟩ r) S w K:=by subst ag;exact h
theorem mw.c{i:qP}{d:Nat}{k:Fr->A_->Prop}(h:rU P i S w fun v w'=>C w'/\k (put S (some d) v) w'):mw P C ⟨some d,none,.c i⟩ S w k:=h
end
end ba
namespace o
def ho.add(s:ho)(off:Nat)(y:Int):ho:=if off=0 then { s with V:=s.V++[y] } else if off=1 then { s with C:=s.C++[y] } else { s with c8:=s.c8++[y] }
end o
namespace Go.Proofs.R
open Go Go.RowKit ba
def VQ(n x y off:Nat)(so:Int):eT :=
 (.take (bd n off 4) (.take (bk (n+1) n) (.take (aq (n+2) 6) (.take (aq (n+3) x) (.take (aq (n+4) y)
 (.alt (bY (n+5) (.val (ad (n+2)) [(cf so),(ad (n+3)),(ad (n+4))]))
 (.alt (bP (n+6) (.gb T.a 1 1 [(.int .i64 0)] [(0,(ad (n+5)))]))
 (.bh (bP (n+7) (.app T.b T.a 1 8 (ad (n+1)) (ad (n+6))))
 (.take (bd (n+8) off 4) (.bh (ys (n+8) (n+7)) .done .nil)) .nil) .nil) .nil))))))
theorem M5{w1 w:A_}{bM bs n x y off base:Nat}{so jj:Int}{nu:B_}{l:C_ o.ed}{qi qb qe:C_ Int}{cs:C_ o.Cell}{S:Fr}{cT:Fr->A_->Prop}(Pz:off<3)(az:20<=n)(ag:x<20)(bV:y<20)
  (cz:bM≠bs)(hN:bM<w1.heap.size/\bs<w1.heap.size)(aH:S 4 = .pointer (some ⟨bM,0,none⟩))(bE:S 6 = .func (.func F.r3) #[] #[.pointer (some ⟨bM,0,none⟩),.pointer (some ⟨bs,0,none⟩)])(uW:S x = .I jj)(Qf:S y=nu)
  (ak:k6 w1 bM bs (o.ho.of qi qb qe cs) w)(aG:aS o.ed.enc T.j 3 base w nu l)(hm:cs.length+l.length<=100000)(aP:qi.length<=100000/\qb.length<=100000/\qe.length<=100000)
  (hk:∀a6 w',(∀t,t<n\/n+8<t->a6 t=S t)->k6 w1 bM bs ((o.ho.of qi qb qe (cs++o.fH so jj l 0)).add off cs.length) w'->eM tK w w'->cT a6 w'):∃C:A_->Prop,C w/\ev Tryz.prog C (VQ n x y off so) S w cT:=by
 obtain⟨vs,u,g1,g2,g3,g4⟩:=ak.ex;have bx:w.cell? (Addr.add ⟨bM,0,none⟩ off)=some (cw (vs off)):=by
  have:off=0\/off=1\/off=2:=AK
  rcases this with rfl | rfl | rfl<;>exact fW g1 rfl
 refine⟨fun w'=>w'.cell? (Addr.add ⟨bM,0,none⟩ off)=some (cw (vs off)),bx,?_⟩;unfold VQ;refine ev.lo aH ?_;refine ev.ld (v:=cw (vs off)) (by simp[bN]) (fun w' m=>m) ?_;refine ev.np (mO (mO bE AK) AK) ?_;refine ev.np (mO (mO (mO uW AK) AK) AK) ?_;refine ev.np (mO (mO (mO (mO Qf AK) AK) AK) AK) ?_;generalize pR:b4 _ (n+4) _=rY;have ahi:∀t,t<n\/n+8<t->rY t=S t:=by
  subst pR;intro t aB;simp only[bN];rw[if_neg AK,if_neg AK,if_neg AK,if_neg AK,if_neg AK]
 have bD:rY 4 = .pointer (some ⟨bM,0,none⟩):=by subst pR;exact mO (mO (mO (mO (mO aH AK) AK) AK) AK) AK
 have f1:rY (n+1)=cw (vs off):=by subst pR;simp[bN]
 have f2:rY (n+2) = .func (.func F.r3) #[] #[.pointer (some ⟨bM,0,none⟩),.pointer (some ⟨bs,0,none⟩)]:=by subst pR;simp[bN]
 have f3:rY (n+3) = .I jj:=by subst pR;simp[bN]
 have f4:rY (n+4)=nu:=by subst pR;simp[bN]
 refine ev.Br (mw.c ?_);show A2 _ (rY (n+2)) [.I so,rY (n+3),rY (n+4)] w _;rw[f2,f3,f4];refine M4 (first:=[]) (cap:=[.pointer (some ⟨bM,0,none⟩),.pointer (some ⟨bs,0,none⟩)]) Ct (ami so jj nu l qi qb qe cs base w1 bM bs w cz hN ak aG hm) ?_;rintro _ aD ⟨rfl,ep,oH,hJ⟩;refine⟨(hJ off Pz).trans bx,?_⟩;refine ev.Br (mw.e ?_);have he:Ext aD (aD.alloc (.cells #[.I cs.length] T.a)):=(Ext.refl aD).alloc _;rw[agj];refine DO (cs:=[.I cs.length]) (NR (by simp[jf,bN])) ?_;refine⟨he.cell ((hJ off Pz).trans bx),?_⟩;have bl:=heap_alloc_new aD (.cells #[.I cs.length] T.a);have bu:=he.cell ((hJ off Pz).trans bx);have gO:=ep.ext he;have aae:eM tK w (aD.alloc (.cells #[.I cs.length] T.a)):=oH.trans (eM.ext he);show ev _ _ _ _ (aD.alloc (.cells #[.I cs.length] T.a)) _;generalize aD.alloc (.cells #[.I cs.length] T.a)=aN at bl bu gO aae;clear he g1 g2 g3 g4;obtain⟨ue,kH,g1,g2,g3,g4⟩:=gO.ex;have agF:cw (vs off)=cw (ue off):=by
  have:off=0\/off=1\/off=2:=AK
  rcases this with rfl | rfl | rfl
  .rw[fW g1 (v:=cw (ue 0)) rfl] at bu;exact(Option.some.inj bu).symm
  .rw[fW g1 (v:=cw (ue 1)) rfl] at bu;exact(Option.some.inj bu).symm
  .rw[fW g1 (v:=cw (ue 2)) rfl] at bu;exact(Option.some.inj bu).symm
 refine ev.zF (pP.e ?_);rw[agi];unfold ad;rw[de,de];rw[show ∀a b,put (put rY (some (n+5)) a) (some (n+6)) b (n+1)=cw (ue off) from fun a b=>by rw[jf,jf,<-agF];exact mO (mO f1 AK) AK,
  show ∀a b,put (put rY (some (n+5)) a) (some (n+6)) b (n+6)=b from fun a b=>by rw[jf,jf,bN,if_pos rfl]]
 have gz:=gO.mod.size;have hlen:((o.ho.of qi qb qe (cs++o.fH so jj l 0)).rows off).length<=100000:=by
  have:off=0\/off=1\/off=2:=AK
  rcases this with rfl | rfl | rfl
  .exact aP.1
  .exact aP.2.1
  .exact aP.2.2
 refine iT.app (y:=(cs.length:Int)) off AK g2 (fun _=>rfl) (gT bl) l3 AK (by unfold maxLen;omega) AK fun b0 aU dO nM _=>?_;have m4:Mod (fun k=>(cw (ue off)).ownBlock=some k) aN aU:=Mod.grown nM fun k hk=>hk;have mf:∀{k:Nat} {c:Array B_} {t:F_},aN.heap[k]? = some (.cells c t)->t≠T.a->aU.heap[k]? = some (.cells c t):=fun hk aB=>m4.obj (g2.not hk aB off AK) hk;refine ev.lo (a:=⟨bM,0,none⟩) (by rw[jf,jf,jf];exact mO (mO (mO bD AK) AK) AK) ?_;refine ev.zF ?_;show vG (b4 _ (n+8) _ (n+8)) (b4 (put _ (some (n+7)) _) (n+8) _ (n+7)) aU _;rw[show ∀(S:Fr) v,b4 S (n+8) v (n+8)=v from fun S v=>by rw[bN,if_pos rfl],show ∀(S:Fr) a b,b4 (put S (some (n+7)) a) (n+8) b (n+7)=a from fun S a b=>by rw[jf,bN,if_neg AK,bN,if_pos rfl]];have cC:=mf g1 BN;refine RT fun mQ=>_E cC (by simp;omega) rfl fun bt fg b9=>?_;have tO:Mod (fun k=>k=bM) aU bt:=fg.mod rfl;refine hk _ _ (fun t aB=>?_) ⟨?_,dZ ue off b0,kH,?_,(dO.mod tO fun i k U ar e=>?_).congr (fun _ _=>rfl) (fun i U=>?_),?_,?_⟩ ?_
 .simp only[jf,abo,bN];rw[if_neg AK,if_neg AK,if_neg AK,if_neg AK];exact ahi t aB
 .refine(gO.mod.comp m4 (B:=fun k=>k=bM\/k=bs) (fun _ _ a=>a) fun i U a=>?_).trans (fg.mod (A:=fun k=>k=bM\/k=bs) (.inl rfl))
  have:=(g2.lt off i AK a).1;omega
 .rw[b9]
  have:off=0\/off=1\/off=2:=AK
  rcases this with rfl | rfl | rfl<;>rfl
 .subst e;exact dO.not cC BN i U ar
 .have a:off=0\/off=1\/off=2:=AK
  have b:i=0\/i=1\/i=2\/i=3\/i=4:=AK
  rcases a with rfl | rfl | rfl<;>rcases b with rfl | rfl | rfl | rfl | rfl<;>rfl
 .exact fg.obj (mf g3 BN) (Ne.symm cz)
 .have wc:((o.ho.of qi qb qe (cs++o.fH so jj l 0)).add off cs.length).Z=(o.ho.of qi qb qe (cs++o.fH so jj l 0)).Z:=by unfold o.ho.add; (repeat' split)<;>rfl
  rw[wc];refine(g4.mod m4 fun k hk h=>?_).mod tO fun k hk e=>?_
  .obtain⟨cur,hI⟩:=g4.cx k hk;exact g2.not hI BN off AK h
  .obtain⟨cur,hI⟩:=g4.cx k hk;subst e;rw[g1] at hI;injection hI with hI;injection hI with _ e;exact absurd e BN
 .refine(aae.trans (eM.mod m4 fun k c hY an a=>?_)).trans (eM.wr fg cC BN);obtain⟨cur,hI⟩:=(g2.own off AK).cx k a;rw[an] at hI;injection hI with hI;injection hI with _ e;rw[e];decide
end Go.Proofs.R
end