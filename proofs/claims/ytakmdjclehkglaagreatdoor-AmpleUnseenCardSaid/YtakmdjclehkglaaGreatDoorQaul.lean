/- Parts. -/
import Derived.Test.YtakmdjclehkglaaGreatDoorQauk
import Derived.Lib.SlKeysI
import Derived.Maps.OwnSet
set_option linter.all false
set_option maxRecDepth 8000
set_option maxHeartbeats 16000000
section
namespace o
theorem aex{c:dv}{s:C_ Scalar}(h:CK c s)(af:c.scalar≠0):∃i,∃U:i<s.length,c.scalar=(i:Int)+1/\s[i].size=size c.scalar s:=by
 have e:=h.sc.resolve_left af;unfold size at e ⊢;split at e
 .rename_i x ag;obtain⟨ch,uk⟩:=List.getElem?_eq_some_iff.1 ag;split at e
  .rename_i h1;refine⟨(c.scalar - 1).toNat,ch,by omega,?_⟩;rw[uk,if_pos h1]
  .exact absurd rfl e
 .exact absurd rfl e
theorem Pw(so iL:Int)(l:C_ dN)(b:dN):ft so iL (l++[b]) 0=ft so iL l 0++[⟨so,iL,(l.length:Nat),b.aO,b.U,b.kind⟩]:=by
 rw[Pv,Nat.zero_add]
end o
namespace Go.Proofs.R
open Go Go.RowKit bb
theorem Zr{α:Type}{enc:α->C_ B_}{e:F_}{sz base:Nat}{w w':A_}{v:B_}{xs:C_ α}(aM:aW enc e sz base w v xs)(aK:w.grownBy w' v.ownBlock):eB [e] w w':=eB.mod (A:=fun k=>v.ownBlock=some k) (Mod.grown aK fun k hk=>hk) fun k c t ah a=>by
 obtain⟨cur,h⟩:=aM.cu k a;rw[ah] at h;injection h with h;injection h with _ h;rw[h];simp
theorem aoy(cs:C_ B_)(m:o.Model)(w:A_)(h:o.dV w cs m)(aK:m.cN)(a1:o.eL m) :
  a7 Tryz.prog F.J3 #[.agg cs.toArray] w fun v w'=>aW o.Cell.enc T.s8 6 w.heap.size w' v (o.bX m)/\Ext w w':=by
 obtain⟨cd,bw,bO,c1,bV,c2,b2,br,cj,bF,rfl,af,h1,I,ab,aD,eU,ek,ev,ef,ew⟩:=h.form;have gU:=a1.gU;refine bn E.J3 ?_;refine J ?_;intro w1 bo cT al ai;refine J ?_;refine L_ 4 m.vars.length [1] (fun v:hc=>[(3,.slice v.1 v.2.1 v.2.2)]) (none,0,0) (fun k v W=>Ext w1 W/\aW o.Cell.enc T.s8 6 w1.heap.size W (.slice v.1 v.2.1 v.2.2) (o.cellsOf 1 ((o.cO m).take k) 0)) bc bc ⟨Ext.refl _,aW.nil _ _ _ _ _⟩ ?_;have rJ:=ai;clear ai;rintro k v S aH hk ⟨ao,fo⟩;have ai:=ao.obj rJ;have aI:=al.trans ao;refine J ?_;apply I_<;>intro g1
 .have aZ:k<m.vars.length:=by omega
  obtain⟨a,rfl⟩:=h1.addr;have eo:=((h1.at k aZ).cells).ext aI;have di:=a1.var _ (List.getElem_mem aZ);have ma:=o.K0 di gU.1;have aG:k<(o.cO m).length:=by simpa[o.cO] using aZ
  have s4:=o.KV m a1 (k+1);rw[o.FP aG] at s4;have xu:(o.cO m)[k]=o.Aj m.scalars m.vars[k]:=by simp[o.cO]
  rw[xu,o.Cy] at s4;have dR:=o.sH m.vars[k] m.scalars;refine J ?_;refine P_ (.tuple #[.int .i64 (o.bounds m.vars[k] m.scalars).1,.int .i64 (o.bounds m.vars[k] m.scalars).2]) (fun w' e=>Qq m.vars[k] _ m.scalars w' (af.ext (aI.trans e))) ?_;refine J ?_;intro aP aj;have eu:=fo.ext aj;have bu:=aj.obj ai;have iD:=ao.trans aj;clear ai eo;refine J ?_;refine L_ 7 (o.cells m.vars[k] m.scalars).toNat [1,4,5,6] (fun v:hc=>[(3,.slice v.1 v.2.1 v.2.2)]) v (fun j v W=>Ext w1 W/\aW o.Cell.enc T.s8 6 w1.heap.size W (.slice v.1 v.2.1 v.2.2) (o.cellsOf 1 ((o.cO m).take k) 0++o.ft 1 k (List.replicate j (o.e7 m.vars[k].scalar m.vars[k].aO m.vars[k].U m.scalars)) 0)) bc bc ⟨iD,by simpa[o.ft] using eu⟩ ?_;clear bu eu fo ao aj iD;rintro j v S aR aE ⟨aA,eR⟩;have ai:=aA.obj rJ;have bG:=al.trans aA;have eo:=((h1.at k aZ).cells).ext bG;refine J ?_;refine P_ _ (fun w' e=>Qr m.vars[k] _ m.scalars w' (af.ext (bG.trans e))) ?_;refine J ?_;intro bq aJ;replace ai:=aJ.obj ai;replace eo:=eo.ext aJ;have dL:=eR.ext aJ;have pV:=aA.trans aJ;refine J ?_;apply I_<;>intro g2
  .have et:j<(o.cells m.vars[k] m.scalars).toNat:=by omega
   refine J ?_;refine J_ (Qu m.vars[k].scalar bq (by unfold o.dH;omega)) ?_;rintro _ oh ⟨rfl,rfl⟩;refine J ?_;intro bB dP fX aT b4;have dB:=dL.ext aT;have BB:=pV.trans aT;have aF:(o.cellsOf 1 ((o.cO m).take k) 0++o.ft 1 k (List.replicate j (o.e7 m.vars[k].scalar m.vars[k].aO m.vars[k].U m.scalars)) 0).length=o.total ((o.cO m).take k)+j:=by
    rw[List.length_append,o.kF,o.uw,List.length_replicate]
   refine V_ (y:=⟨1,k,j,(o.bounds m.vars[k] m.scalars).1,(o.bounds m.vars[k] m.scalars).2,o.kindOf m.vars[k].scalar⟩) dB b4 rfl (fun _=>rfl) o.Ds (by rw[aF];omega) (by rw[aF];unfold maxLen;omega) BB.size fun aQ n c bQ dS lb=>?_;refine J ?_;refine⟨et,aU,(aQ,n,c),bc,dB.mw BB lb (Nat.le_refl _),?_⟩;rw[List.replicate_succ',o.Pw,<-List.append_assoc,List.length_replicate,o.yU];rw[o.yU] at dS;exact dS
  .have nZ:j=(o.cells m.vars[k] m.scalars).toNat:=by omega
   refine J ?_;refine⟨aZ,aU,v,bc,pV,?_⟩;have aI:(0+((o.cO m).take k).length:Nat)=k:=by rw[List.length_take];omega
   rw[List.take_succ_eq_append_getElem aG,xu,o.yY,aI];rw[nZ] at dL;exact dL
 have lK:m.vars.length<=k:=by omega
 rw[List.take_of_length_le (by simpa[o.cO] using lK)] at fo;have Rb:=o.KV m a1 m.vars.length;rw[List.take_of_length_le (by simp[o.cO])] at Rb;refine J ?_;refine L_ 8 m.aw.length [1] (fun v:hc=>[(3,.slice v.1 v.2.1 v.2.2)]) v (fun k v W=>Ext w1 W/\aW o.Cell.enc T.s8 6 w1.heap.size W (.slice v.1 v.2.1 v.2.2) (o.cellsOf 1 (o.cO m) 0++o.cellsOf 2 ((o.dr m).take k) 0)) bc bc ⟨ao,by simpa[o.cellsOf] using fo⟩ ?_;clear ai fo ao aI;rintro k v S aH hk ⟨ao,fo⟩;have ai:=ao.obj rJ;have aI:=al.trans ao;refine J ?_;apply I_<;>intro g2
 .have aZ:k<m.aw.length:=by omega
  obtain⟨a,rfl⟩:=I.addr;have eo:=((I.at k aZ).cells).ext aI;have di:=a1.chan _ (List.getElem_mem aZ);have ma:=o.Va di gU.1;have h7:=di.cap;have aG:k<(o.dr m).length:=by simpa[o.dr] using aZ
  have s4:=o.Ra m a1 (k+1);rw[o.FP aG] at s4;have xu:(o.dr m)[k]=o.na m.scalars m.aw[k]:=by simp[o.dr]
  rw[xu,o.vj] at s4;have zn:(o.cellsOf 1 (o.cO m) 0++o.cellsOf 2 ((o.dr m).take k) 0).length=o.total (o.cO m)+o.total ((o.dr m).take k):=by rw[List.length_append,o.kF,o.kF]
  refine J ?_;intro aP j7 l4 aj dX;replace dX:aP.heap[j7]? = some (.cells m.aw[k].enc.toArray T.t):=dX;replace ai:=aj.obj ai;have eu:=fo.ext aj;clear eo;have iD:=ao.trans aj;refine J ?_;intro aR cF fy aA bH;have eR:=eu.ext aA;have nj:=iD.trans aA;refine V_ (y:=⟨2,k,0,0,m.aw[k].cap,0⟩) eR bH rfl (fun _=>rfl) o.Ds (by rw[zn];omega) (by rw[zn];unfold maxLen;omega) nj.size fun aQ n c bq dL iE=>?_;have ai:=eR.box iE (aA.obj ai) (by decide);have dX:=eR.box iE (aA.obj dX) (by decide);have pV:=eR.mw nj iE (Nat.le_refl _);have bU:=al.trans pV;have auA:=cy dX;clear fo eu bH fy aA aj l4;refine eh ?_;simp -dsimp only[cB];refine eh ?_;intro bB aT;replace ai:=aT.obj ai;replace dX:=aT.obj dX;have dB:=dL.ext aT;have c8:=bU.trans aT;have BB:=pV.trans aT;refine S_ [1,3,8,9] (fun _:Unit=>[(10,.int .i64 (o.kG m.scalars m.aw[k]).aO),(11,.int .i64 (o.kG m.scalars m.aw[k]).U)]) (fun _ W=>Ext bB W) ?_ ?_
  .refine J ?_;apply I_<;>intro g3
   .obtain⟨i,U,EG,ON⟩:=o.aex di (by omega);obtain⟨a0,rfl⟩:=af.addr;have gx:=((af.at i U).cells).ext c8;refine J ?_;refine K_ i (by omega) U ?_;refine J ?_;intro bQ bz;refine J ?_;have e:o.kG m.scalars m.aw[k]=⟨0,m.scalars[i].size,m.aw[k].scalar+1⟩:=by unfold o.kG o.e7;rw[if_neg (by omega),ON]
    rw[e];exact⟨(),bc,bz⟩
   .have hd:m.aw[k].scalar=0:=by omega
    refine J ?_;have e:o.kG m.scalars m.aw[k]=⟨min 0 m.aw[k].aO,max 0 m.aw[k].U,0⟩:=by unfold o.kG o.e7;rw[if_pos hd,Int.min_comm,Int.max_comm]
    rw[e];exact⟨(),bc,Ext.refl _⟩
  rintro _ S bQ bz;replace ai:=bz.obj ai;replace dX:=bz.obj dX;have dS:=dB.ext bz;have BC:=BB.trans bz;have BN:o.kG m.scalars m.aw[k]=⟨(o.kG m.scalars m.aw[k]).aO,(o.kG m.scalars m.aw[k]).U,o.kindOf m.aw[k].scalar⟩:=by
   unfold o.kG o.e7 o.kindOf;split<;>rfl
  have I9:∀{W:A_},W.heap[j7]? = bQ.heap[j7]? -> _:=fun e=>e.trans dX;refine J ?_;refine _W [1,8,9,10,11] (fun x:hc×Nat=>[(3,.slice x.1.1 x.1.2.1 x.1.2.2),(12,.int .i64 ((x.2:Int)+1))]) ((aQ,n,c),0) (fun x W=>(Ext w1 W/\W.heap[j7]? = bQ.heap[j7]? /\ (x.2:Int)<=m.aw[k].cap)/\aW o.Cell.enc T.s8 6 w1.heap.size W (.slice x.1.1 x.1.2.1 x.1.2.2) (o.cellsOf 1 (o.cO m) 0++o.cellsOf 2 ((o.dr m).take k) 0++o.ft 2 k (⟨0,m.aw[k].cap,0⟩ :: List.replicate x.2 (o.kG m.scalars m.aw[k])) 0)) (fun x=>(m.aw[k].cap - x.2).toNat) bc ⟨⟨BC,rfl,by simp only;omega⟩,by simpa[o.ft] using dS⟩ ?_;clear ai dX dS dB dL;rintro⟨v,j⟩ S de ⟨⟨Ej,l4,aE⟩,hr⟩;have ai:=Ej.obj rJ;have dX:=I9 l4;simp only at aE;refine J ?_;apply I_<;>intro g4
  .refine J ?_;refine J_ (Qu m.aw[k].scalar de (by unfold o.dH;omega)) ?_;rintro _ oh ⟨rfl,rfl⟩;refine J ?_;intro dc tJ Bv ck ko;have hs:=hr.ext ck;have Ek:=Ej.trans ck;have aF:(o.cellsOf 1 (o.cO m) 0++o.cellsOf 2 ((o.dr m).take k) 0++o.ft 2 k (⟨0,m.aw[k].cap,0⟩ :: List.replicate j (o.kG m.scalars m.aw[k])) 0).length=o.total (o.cO m)+o.total ((o.dr m).take k)+(j+1):=by
    rw[List.length_append,zn,o.uw,List.length_cons,List.length_replicate]
   refine V_ (y:=⟨2,k,(j:Int)+1,(o.kG m.scalars m.aw[k]).aO,(o.kG m.scalars m.aw[k]).U,o.kindOf m.aw[k].scalar⟩) hs ko rfl (fun _=>rfl) o.Ds (by rw[aF];omega) (by rw[aF];unfold maxLen;omega) Ek.size fun aQ n c eY pk oF=>?_;have ain:=hs.box oF (ck.obj dX) (by decide);refine J ?_;refine⟨((aQ,n,c),j+1),bc,⟨⟨hs.mw Ek oF (Nat.le_refl _),ain.trans (I9 rfl).symm,by simp only;omega⟩,?_⟩,by simp only;omega⟩;rw[List.replicate_succ',<-List.cons_append,o.Pw,<-List.append_assoc,List.length_cons,List.length_replicate];rw[BN] at pk ⊢;exact pk
  .refine J ?_;refine⟨aZ,aU,v,bc,Ej,?_⟩;have aI:(0+((o.dr m).take k).length:Nat)=k:=by rw[List.length_take];omega
   have rA:j=m.aw[k].cap.toNat:=by omega
   rw[List.take_succ_eq_append_getElem aG,xu,o.yY,aI,<-List.append_assoc];rw[rA] at hr;exact hr
 have qO:m.aw.length<=k:=by omega
 rw[List.take_of_length_le (by simpa[o.dr] using qO)] at fo;refine J ?_;refine J_ (Qt _ m aH (h.ext aI) aK) ?_;rintro bM qf ⟨fp,ud⟩;obtain⟨cx,ci,rfl,_⟩:=fp.form;have N7:∀{W:A_},eB [T.s8] qf W->ke W (.slice cx (o.insts m).length ci) (o.insts m):=fun k=>aW.iv (enc:=o.cZ.enc) (fun _=>rfl) (fp.ib k (by decide));have lJ:(o.insts m).length<=30:=by have:=o.uo m;have:=a1.procs;omega
 have Yj:=fo.ext ud;have XB:=ao.trans ud;have auq:=ud.size;refine J ?_;refine L_ 14 (o.insts m).length [1,13] (fun v:hc=>[(3,.slice v.1 v.2.1 v.2.2)]) v (fun k v W=>(Ext w1 W/\eB [T.s8] qf W)/\aW o.Cell.enc T.s8 6 w1.heap.size W (.slice v.1 v.2.1 v.2.2) (o.cellsOf 1 (o.cO m) 0++o.cellsOf 2 (o.dr m) 0++o.cellsOf 3 ((o.fq m).take k) 0)) bc bc ⟨⟨XB,eB.refl⟩,by simpa[o.cellsOf] using Yj⟩ ?_;clear ai fo ao aI Yj ud XB;rintro k v S aH hk ⟨⟨ao,n2⟩,fo⟩;have e9:=N7 n2;have ai:=ao.obj rJ;have aI:=al.trans ao;refine J ?_;apply I_<;>intro g3
 .have aZ:k<(o.insts m).length:=by omega
  obtain⟨iP,rfl⟩:=e9.addr;have pn:=o.rW _ (List.getElem_mem aZ);obtain⟨p,ar,hh,pR⟩:=o.zE pn;have di:=a1.proc _ (List.getElem_mem ar);have X5:=di.b8;have sU:=di.gU.1;obtain⟨a,rfl⟩:=ab.addr;obtain⟨lM,b7,ec,dD,e2,fO⟩:=ab.at p ar;obtain⟨e4,fL,rfl,fH⟩:=e2.form;obtain⟨ob,k5,rfl,lc⟩:=fO.form;replace dD:=dD.ext aI;have aG:k<(o.fq m).length:=by simpa[o.fq] using aZ
  have s4:=o.abT m a1 (k+1);rw[o.FP aG] at s4;have xu:(o.fq m)[k]=o.uF m.scalars m.procs[p]:=by simp[o.fq,pR]
  rw[xu,o.zX] at s4;have zn:(o.cellsOf 1 (o.cO m) 0++o.cellsOf 2 (o.dr m) 0++o.cellsOf 3 ((o.fq m).take k) 0).length=o.total (o.cO m)+o.total (o.dr m)+o.total ((o.fq m).take k):=by rw[List.length_append,List.length_append,o.kF,o.kF,o.kF]
  refine J ?_;intro aP aj;replace dD:=dD.ext aj;replace ai:=aj.obj ai;replace e9:=e9.ext Flat.ext aj;have eu:=fo.ext aj;have iD:=ao.trans aj;refine J ?_;refine K_ p hh ar ?_;refine J ?_;intro wn yS D3 fm eQ;refine⟨fm,?_⟩;refine J ?_;intro aR du bH;have IB:Ext aP aR:=du.ext fm D3;replace bH:aR.heap[yS]? = some (.cells (m.procs[p].enc (.slice e4 m.procs[p].vars.length fL) (.slice ob m.procs[p].cL.length k5)).toArray T.l):=bH;unfold o.dz.enc at bH;replace ai:=IB.obj ai;have eR:=eu.ext IB;have nj:=iD.trans IB;clear du fm eQ dD eu fo e9;refine J ?_;intro bq dx k9 aJ cc;have dL:=eR.ext aJ;have pV:=nj.trans aJ;refine V_ (y:=⟨3,k,0,0,m.procs[p].b8 - 1,0⟩) dL cc rfl (fun _=>rfl) o.Ds (by rw[zn];omega) (by rw[zn];unfold maxLen;omega) pV.size fun aQ n c bB dB jA=>?_;have ai:=dL.box jA (aJ.obj ai) (by decide);have zl:=dL.box jA (aJ.obj bH) (by decide);have BB:=dL.mw pV jA (Nat.le_refl _);have Pr:eB [T.s8] qf bB:=((n2.trans (eB.ext (aj.trans IB))).trans (eB.ext aJ)).trans (Zr dL jA);clear bH eR;have YE:∀{W:A_},W.heap[yS]? = bB.heap[yS]? -> _:=fun e=>e.trans zl;refine J ?_;refine L_ 16 m.procs[p].vars.length [1,13,14,15] (fun v:hc=>[(3,.slice v.1 v.2.1 v.2.2)]) (aQ,n,c) (fun j v W=>((Ext w1 W/\eB [T.s8] qf W)/\W.heap[yS]? = bB.heap[yS]?)/\aW o.Cell.enc T.s8 6 w1.heap.size W (.slice v.1 v.2.1 v.2.2) (o.cellsOf 1 (o.cO m) 0++o.cellsOf 2 (o.dr m) 0++o.cellsOf 3 ((o.fq m).take k) 0++o.ft 3 k (⟨0,m.procs[p].b8 - 1,0⟩ :: (m.procs[p].vars.take j).map fun v=>o.e7 v.scalar v.aO v.U m.scalars) 0)) bc bc ⟨⟨⟨BB,Pr⟩,rfl⟩,by simpa[o.ft] using dB⟩ ?_;clear ai zl dB;rintro j v S bQ aE ⟨⟨⟨BC,uv⟩,D3⟩,dS⟩;have ai:=BC.obj rJ;have zl:=YE D3;have dQ:=al.trans BC;refine J ?_;apply I_<;>intro g4
  .have et:j<m.procs[p].vars.length:=by omega
   obtain⟨qx,rfl⟩:=e2.addr;have eo:=((e2.at j et).cells).ext dQ;have OZ:=di.var _ (List.getElem_mem et);have ma:=o.K0 OZ gU.1;refine J ?_;refine P_ (.tuple #[.int .i64 (o.bounds m.procs[p].vars[j] m.scalars).1,.int .i64 (o.bounds m.procs[p].vars[j] m.scalars).2]) (fun w' e=>Qq m.procs[p].vars[j] _ m.scalars w' (af.ext (dQ.trans e))) ?_;refine J ?_;intro de bP;replace ai:=bP.obj ai;replace zl:=bP.obj zl;replace eo:=eo.ext bP;have hr:=dS.ext bP;have Ej:=BC.trans bP;refine J ?_;refine J_ (Qu m.procs[p].vars[j].scalar de (by unfold o.dH;omega)) ?_;rintro _ oh ⟨rfl,rfl⟩;refine J ?_;intro dc j7 l4 ck dX;have hs:=hr.ext ck;have Ek:=Ej.trans ck;have aF:(o.cellsOf 1 (o.cO m) 0++o.cellsOf 2 (o.dr m) 0++o.cellsOf 3 ((o.fq m).take k) 0++o.ft 3 k (⟨0,m.procs[p].b8 - 1,0⟩ :: (m.procs[p].vars.take j).map fun v=>o.e7 v.scalar v.aO v.U m.scalars) 0).length=o.total (o.cO m)+o.total (o.dr m)+o.total ((o.fq m).take k)+(j+1):=by
    rw[List.length_append,zn,o.uw,List.length_cons,List.length_map,List.length_take];omega
   have ch:((m.procs[p].vars.take j).map fun v=>o.e7 v.scalar v.aO v.U m.scalars).length=j:=by simp;omega
   refine V_ (y:=⟨3,k,1+(j:Int),(o.bounds m.procs[p].vars[j] m.scalars).1,(o.bounds m.procs[p].vars[j] m.scalars).2,o.kindOf m.procs[p].vars[j].scalar⟩) hs dX rfl (fun _=>rfl) o.Ds (by rw[aF];omega) (by rw[aF];unfold maxLen;omega) Ek.size fun aQ n c eY pk oF=>?_;have aia:=hs.box oF (ck.obj zl) (by decide);refine J ?_;refine⟨et,aU,(aQ,n,c),bc,⟨⟨hs.mw Ek oF (Nat.le_refl _),(uv.trans (eB.ext (bP.trans ck))).trans (Zr hs oF)⟩,aia.trans (YE rfl).symm⟩,?_⟩;rw[List.take_succ_eq_append_getElem et,List.map_append,<-List.cons_append,List.map_cons,List.map_nil,o.Pw,<-List.append_assoc,List.length_cons,ch,o.yU m.procs[p].vars[j],show((j+1:Nat):Int)=1+(j:Int) from by omega];exact pk
  .refine J ?_;refine⟨aZ,aU,v,bc,⟨BC,uv⟩,?_⟩;have aI:(0+((o.fq m).take k).length:Nat)=k:=by rw[List.length_take];omega
   rw[List.take_of_length_le (l:=m.procs[p].vars) (by omega)] at dS;rw[List.take_succ_eq_append_getElem aG,xu,o.yY,aI,<-List.append_assoc];exact dS
 .rw[List.take_of_length_le (by simp[o.fq];omega)] at fo;refine J ?_;exact⟨aW.low al.size fo,aI⟩
end Go.Proofs.R
end
section
namespace bb
open Go Go.RowKit
theorem _n{P:D_}{cW:B_->A_->Prop}{α:Type}{enc:α->C_ B_}{e:F_}{sz base n:Nat}{w:A_}{vs:Nat->H_ Addr×Nat×Nat}{xs:Nat->C_ α}{ty:F_}{b:Nat}{a:Addr}{c:Nat}{y:α}{t}(i:Nat)(U:i<n)(h:ix enc e sz base w n vs xs)(dy:∀x,(enc x).length=sz)(ah:e0 w a (enc y))(h1:∀y,∀u∈enc y,u.oneCell'=true)
  (ak:((xs i).length+1)*b<=140737488355328)(my:(xs i).length+1<=maxLen)(lG:base<=w.heap.size)
  (hk:∀b9 w',ix enc e sz base w' n (dJ vs i b9) (dJ xs i (xs i++[y]))->w.grownBy w' (ct (vs i)).ownBlock->cW (ct b9) w'):mR P ty e sz b (ct (vs i)) (.slice (some a) 1 c) w cW t:=by
 unfold mR;exact ix.app i U h dy ah h1 ak my lG fun b9 w' a b _=>hk b9 w' a b
end bb
namespace o
theorem MQ{s:Int}{l:C_ Cell}{k:Nat}(h:k<l.length):iU s (l.take (k+1)) 0=iU s (l.take k) 0++(if l[k].place=0/\l[k].sort=s then [(k:Int)] else []):=by
 rw[List.take_succ_eq_append_getElem h,DI];simp only[iU,List.append_nil,List.length_take,Nat.zero_add];rw[show min k l.length=k from by omega]
theorem Wg(s:Int):∀(l:C_ Cell) (i:Nat),(iU s l i).length<=l.length
 | [],_=>by simp[iU]
 | x :: r,i=>by
  have:=Wg s r (i+1)
  simp only[iU,List.length_append,List.length_cons];split<;>simp<;>omega
def fh(l:C_ Cell)(k:Nat):Nat->C_ Int:=fun i=>if i=0 then iU 1 (l.take k) 0 else if i=1 then iU 2 (l.take k) 0 else if i=2 then iU 3 (l.take k) 0 else if i=3 then (l.take k).map (·.aO) else (l.take k).map (·.U)
end o
namespace Go.Proofs.R
open Go Go.RowKit bb
def Ck:C_ F_:=[T.a,T.h]
def l2(vs:Nat->hc)(n:Int):Array B_:=#[ct (vs 0),ct (vs 1),ct (vs 2),.int .i64 n,ct (vs 3),ct (vs 4)]
structure oS(w1:World)(b:Nat)(xs:Nat->List Int)(n:Int)(W:World):Prop where
 mod:Mod (fun k=>k=b) w1 W
 ex:∃vs:Nat->hc,W.heap[b]? = some (.cells (l2 vs n) T.h)/\ix cR T.a 1 w1.heap.size W 5 vs xs
theorem oS.congr{w1:A_}{b:Nat}{xs FW:Nat->C_ Int}{n:Int}{W:A_}(h:oS w1 b xs n W)(ag:∀i,i<5->xs i=FW i):oS w1 b FW n W :=
 let ⟨vs,g1,g2⟩:=h.ex; ⟨h.mod,vs,g1,g2.congr (fun _ _=>rfl) ag⟩
theorem Fa{w1:A_}{b:Nat}{xs:Nat->C_ Int}{n y:Int}{W pL k2 rq:A_}{vs:Nat->hc}{b9:hc}{i:Nat}(U:i<5)(hm:Mod (fun k=>k=b) w1 W)(g1:W.heap[b]? = some (.cells (l2 vs n) T.h))(g2:ix cR T.a 1 w1.heap.size W 5 vs xs)
  (he:Ext W pL)(aK:pL.grownBy k2 (ct (vs i)).ownBlock)(aM:ix cR T.a 1 w1.heap.size k2 5 (dJ vs i b9) (dJ xs i (xs i++[y])))(hw:dn b k2 rq)(ah:rq.heap[b]? = some (.cells (l2 (dJ vs i b9) n) T.h)) :
  oS w1 b (dJ xs i (xs i++[y])) n rq/\eB Ck W rq:=by
 have ya:Mod (fun k=>(ct (vs i)).ownBlock=some k) pL k2:=Mod.grown aK fun k hk=>hk;have g5:=he.obj g1;have g6:k2.heap[b]? = some (.cells (l2 vs n) T.h):=ya.obj ((g2.ext he).not g5 (by decide) i U) g5;refine⟨⟨?_,_,ah,aM.mod (hw.mod (A:=fun k=>k=b) rfl) fun j k aE hk e=>?_⟩,?_⟩
 .have h1:Mod (fun k=>k=b) w1 pL:=hm.comp (A':=fun _=>False) he.mod (fun _ _ a=>a) fun _ _ a=>a.elim;have I:Mod (fun k=>k=b) w1 k2:=h1.comp ya (fun _ _ a=>a) fun j aE a=>by have:=(g2.lt i j U a).1;omega
  exact I.trans (hw.mod rfl)
 .subst e;exact aM.not g6 (by decide) j aE hk
 .refine((eB.ext he).trans (eB.mod ya fun k c t ah a=>?_)).trans (eB.wr hw g6 (by decide));obtain⟨cur,h⟩:=((g2.ext he).own i U).cu k a;rw[ah] at h;injection h with h;injection h with _ h;rw[h];decide
theorem aoz(cs:C_ B_)(m:o.Model)(w:A_)(h:o.dV w cs m)(aK:m.cN)(a1:o.eL m) :
  a7 Tryz.prog F.J4 #[.agg cs.toArray] w fun v w'=>(∃xs,v = .agg xs.toArray/\eD w (fun w=>o.jN w xs (o.layout m)) w')/\Ext w w':=by
 have dw:=h;obtain⟨cd,bw,bO,c1,bV,c2,b2,br,cj,bF,rfl,_⟩:=h.form;have mz:=o.kt a1;refine bn E.J4 ?_;refine J ?_;intro K5 bo cT qM ai;have cV:=cy ai;refine J ?_;intro K8 bR dt pX av;have dq:=cy av;replace ai:=pX.obj ai;refine J ?_;intro w1 b0 fW nm bu;replace ai:=nm.obj ai;replace av:=nm.obj av;have dU:=cy bu;have j1:=qM.size;have jK:=pX.size;have re:=nm.size;have n13:bo≠b0:=by omega
 have bt:=(qM.trans pX).trans nm;refine J ?_;refine J_ (aoy _ m w1 (dw.ext bt) aK a1) ?_;rintro ec yv ⟨dR,pY⟩;obtain⟨amJ,ad8,rfl,_⟩:=dR.form;have jZ:oS w1 b0 (o.fh (o.bX m) 0) 0 yv:=⟨pY.mod,fun _=>(none,0,0),pY.obj bu,⟨fun i U=>by
   have e:o.fh (o.bX m) 0 i=[]:=by unfold o.fh; (repeat' split)<;>simp[o.iU]
   rw[e];exact aW.nil _ _ _ _ _,fun i j k _ _ _ e=>by cases e⟩⟩
 have mG:∀{xs n W},oS w1 b0 xs n W->W.heap[bo]? = w1.heap[bo]? := fun h=>h.mod.block _ (by omega) n13;have gp:∀{xs n W},oS w1 b0 xs n W->W.heap[bR]? = w1.heap[bR]? := fun h=>h.mod.block _ (by omega) (by omega);have dK:∀{xs n W},oS w1 b0 xs n W->Ext w W:=fun h=>h.mod.ext bt fun i U e=>by omega
 have kM:∀{W:A_},eB Ck yv W->bh 6 (Flat o.Cell.enc) W (.slice amJ (o.bX m).length ad8) (o.bX m):=fun k=>aW.iv (enc:=o.Cell.enc) (fun _=>rfl) (dR.ib k (by decide));rw[av] at gp;clear ai av bu dR;refine J ?_;refine L_ 5 (o.bX m).length [1,2,3,4] (fun _:Unit=>[]) () (fun k _ W=>oS w1 b0 (o.fh (o.bX m) k) 0 W/\eB Ck yv W) bc bc ⟨jZ,eB.refl⟩ ?_;clear jZ;rintro k _ S aH hk ⟨an,n2⟩;have dR:=kM n2;obtain⟨aqS,g1,g2⟩:=an.ex;refine J ?_;apply I_<;>intro g0
 .have aZ:k<(o.bX m).length:=by omega
  obtain⟨a,rfl⟩:=dR.addr;clear g1 g2;obtain⟨x,ag⟩:∃x,x=(o.bX m)[k]:=⟨_,rfl⟩;have kr:∀i,(o.fh (o.bX m) k i).length<=100:=fun i=>by
   unfold o.fh;have q:=fun s=>o.Wg s ((o.bX m).take k) 0;have cV:=q 1;have dq:=q 2;have dU:=q 3
   (repeat' split)<;>simp only[List.length_map,List.length_take] at * <;> omega
  refine eh ?_;simp -dsimp only[cB];refine eh ?_;refine S_ [1,2,3,4,5] (fun _:Unit=>[]) (fun _ W=>oS w1 b0 (dJ (o.fh (o.bX m) k) 0 ((o.fh (o.bX m) k) 0++if x.place=0/\x.sort=1 then [(k:Int)] else [])) 0 W/\eB Ck yv W) ?_ ?_
  .have dR:=kM n2;obtain⟨vs,g1,g2⟩:=an.ex;have ng:=g1;unfold l2 at g1;dsimp only[ct] at g1;have same:¬(x.place=0/\x.sort=1)->oS w1 b0 (dJ (o.fh (o.bX m) k) 0 ((o.fh (o.bX m) k) 0++if x.place=0/\x.sort=1 then [(k:Int)] else [])) 0 aH:=fun e=>an.congr fun j aE=>by
    unfold dJ;by_cases a:j=0
    .subst a;simp[e]
    .simp[a]
   refine J ?_;rw[<-ag];apply I_<;>intro g3
   .refine J ?_;rw[<-ag];apply I_<;>intro g4
    .refine J ?_;intro bq dx k9 aJ cc;have gj:=an.mod.size;have z2:=aJ.size;have hlen:((o.fh (o.bX m) k) 0).length<=100:=kr 0;have oA:=g2.ext aJ;have g15:=aJ.obj ng;refine _n (y:=(k:Int)) 0 (by decide) oA (fun _=>rfl) (hA cc) rC (by omega) (by unfold maxLen;omega) (by omega) fun b9 bB dB jA=>?_;have fX:bB.heap[b0]? = some (.cells (l2 vs 0) T.h):=(Mod.grown (A:=fun k=>(ct (vs 0)).ownBlock=some k) jA fun k hk=>hk).obj (oA.not g15 (by decide) 0 (by decide)) g15;have vC:=fX;unfold l2 at fX;refine J ?_;intro bQ dT c9;obtain⟨jW,uv⟩:=Fa (by decide) an.mod ng g2 aJ jA dB dT c9;refine J ?_;refine⟨(),trivial,jW.congr fun j aE=>?_,n2.trans uv⟩;have e:(if x.place=0/\x.sort=1 then [(k:Int)] else [])=[(k:Int)]:=if_pos ⟨g3,g4⟩;rw[e]
    .refine J ?_;exact⟨(),trivial,same fun e=>g4 e.2,n2⟩
   .refine J ?_;exact⟨(),trivial,same fun e=>g3 e.1,n2⟩
  rintro _ S eY ⟨I2,Ji⟩;refine eh ?_;refine S_ [1,2,3,4,5] (fun _:Unit=>[]) (fun _ W=>oS w1 b0 (dJ (dJ (o.fh (o.bX m) k) 0 ((o.fh (o.bX m) k) 0++if x.place=0/\x.sort=1 then [(k:Int)] else [])) 1 ((dJ (o.fh (o.bX m) k) 0 ((o.fh (o.bX m) k) 0++if x.place=0/\x.sort=1 then [(k:Int)] else [])) 1++if x.place=0/\x.sort=2 then [(k:Int)] else [])) 0 W/\eB Ck yv W) ?_ ?_
  .have dR:=kM Ji;obtain⟨vs,g1,g2⟩:=I2.ex;have ng:=g1;unfold l2 at g1;dsimp only[ct] at g1;have same:¬(x.place=0/\x.sort=2)->oS w1 b0 (dJ (dJ (o.fh (o.bX m) k) 0 ((o.fh (o.bX m) k) 0++if x.place=0/\x.sort=1 then [(k:Int)] else [])) 1 ((dJ (o.fh (o.bX m) k) 0 ((o.fh (o.bX m) k) 0++if x.place=0/\x.sort=1 then [(k:Int)] else [])) 1++if x.place=0/\x.sort=2 then [(k:Int)] else [])) 0 eY:=fun e=>I2.congr fun j aE=>by
    unfold dJ;by_cases a:j=1
    .subst a;simp[e]
    .simp[a]
   refine J ?_;rw[<-ag];apply I_<;>intro g3
   .refine J ?_;rw[<-ag];apply I_<;>intro g4
    .refine J ?_;intro bq dx k9 aJ cc;have gj:=I2.mod.size;have z2:=aJ.size;have hlen:((dJ (o.fh (o.bX m) k) 0 ((o.fh (o.bX m) k) 0++if x.place=0/\x.sort=1 then [(k:Int)] else [])) 1).length<=100:=kr 1;have oA:=g2.ext aJ;have g15:=aJ.obj ng;refine _n (y:=(k:Int)) 1 (by decide) oA (fun _=>rfl) (hA cc) rC (by omega) (by unfold maxLen;omega) (by omega) fun b9 bB dB jA=>?_;have fX:bB.heap[b0]? = some (.cells (l2 vs 0) T.h):=(Mod.grown (A:=fun k=>(ct (vs 1)).ownBlock=some k) jA fun k hk=>hk).obj (oA.not g15 (by decide) 1 (by decide)) g15;have vC:=fX;unfold l2 at fX;refine J ?_;intro bQ dT c9;obtain⟨jW,uv⟩:=Fa (by decide) I2.mod ng g2 aJ jA dB dT c9;refine J ?_;refine⟨(),trivial,jW.congr fun j aE=>?_,Ji.trans uv⟩;have e:(if x.place=0/\x.sort=2 then [(k:Int)] else [])=[(k:Int)]:=if_pos ⟨g3,g4⟩;rw[e]
    .refine J ?_;exact⟨(),trivial,same fun e=>g4 e.2,Ji⟩
   .refine J ?_;exact⟨(),trivial,same fun e=>g3 e.1,Ji⟩
  rintro _ S gw ⟨I3,Jj⟩;refine eh ?_;refine S_ [1,2,3,4,5] (fun _:Unit=>[]) (fun _ W=>oS w1 b0 (dJ (dJ (dJ (o.fh (o.bX m) k) 0 ((o.fh (o.bX m) k) 0++if x.place=0/\x.sort=1 then [(k:Int)] else [])) 1 ((dJ (o.fh (o.bX m) k) 0 ((o.fh (o.bX m) k) 0++if x.place=0/\x.sort=1 then [(k:Int)] else [])) 1++if x.place=0/\x.sort=2 then [(k:Int)] else [])) 2 ((dJ (dJ (o.fh (o.bX m) k) 0 ((o.fh (o.bX m) k) 0++if x.place=0/\x.sort=1 then [(k:Int)] else [])) 1 ((dJ (o.fh (o.bX m) k) 0 ((o.fh (o.bX m) k) 0++if x.place=0/\x.sort=1 then [(k:Int)] else [])) 1++if x.place=0/\x.sort=2 then [(k:Int)] else [])) 2++if x.place=0/\x.sort=3 then [(k:Int)] else [])) 0 W/\eB Ck yv W) ?_ ?_
  .have dR:=kM Jj;obtain⟨vs,g1,g2⟩:=I3.ex;have ng:=g1;unfold l2 at g1;dsimp only[ct] at g1;have same:¬(x.place=0/\x.sort=3)->oS w1 b0 (dJ (dJ (dJ (o.fh (o.bX m) k) 0 ((o.fh (o.bX m) k) 0++if x.place=0/\x.sort=1 then [(k:Int)] else [])) 1 ((dJ (o.fh (o.bX m) k) 0 ((o.fh (o.bX m) k) 0++if x.place=0/\x.sort=1 then [(k:Int)] else [])) 1++if x.place=0/\x.sort=2 then [(k:Int)] else [])) 2 ((dJ (dJ (o.fh (o.bX m) k) 0 ((o.fh (o.bX m) k) 0++if x.place=0/\x.sort=1 then [(k:Int)] else [])) 1 ((dJ (o.fh (o.bX m) k) 0 ((o.fh (o.bX m) k) 0++if x.place=0/\x.sort=1 then [(k:Int)] else [])) 1++if x.place=0/\x.sort=2 then [(k:Int)] else [])) 2++if x.place=0/\x.sort=3 then [(k:Int)] else [])) 0 gw:=fun e=>I3.congr fun j aE=>by
    unfold dJ;by_cases a:j=2
    .subst a;simp[e]
    .simp[a]
   refine J ?_;rw[<-ag];apply I_<;>intro g3
   .refine J ?_;rw[<-ag];apply I_<;>intro g4
    .refine J ?_;intro bq dx k9 aJ cc;have gj:=I3.mod.size;have z2:=aJ.size;have hlen:((dJ (dJ (o.fh (o.bX m) k) 0 ((o.fh (o.bX m) k) 0++if x.place=0/\x.sort=1 then [(k:Int)] else [])) 1 ((dJ (o.fh (o.bX m) k) 0 ((o.fh (o.bX m) k) 0++if x.place=0/\x.sort=1 then [(k:Int)] else [])) 1++if x.place=0/\x.sort=2 then [(k:Int)] else [])) 2).length<=100:=kr 2;have oA:=g2.ext aJ;have g15:=aJ.obj ng;refine _n (y:=(k:Int)) 2 (by decide) oA (fun _=>rfl) (hA cc) rC (by omega) (by unfold maxLen;omega) (by omega) fun b9 bB dB jA=>?_;have fX:bB.heap[b0]? = some (.cells (l2 vs 0) T.h):=(Mod.grown (A:=fun k=>(ct (vs 2)).ownBlock=some k) jA fun k hk=>hk).obj (oA.not g15 (by decide) 2 (by decide)) g15;have vC:=fX;unfold l2 at fX;refine J ?_;intro bQ dT c9;obtain⟨jW,uv⟩:=Fa (by decide) I3.mod ng g2 aJ jA dB dT c9;refine J ?_;refine⟨(),trivial,jW.congr fun j aE=>?_,Jj.trans uv⟩;have e:(if x.place=0/\x.sort=3 then [(k:Int)] else [])=[(k:Int)]:=if_pos ⟨g3,g4⟩;rw[e]
    .refine J ?_;exact⟨(),trivial,same fun e=>g4 e.2,Jj⟩
   .refine J ?_;exact⟨(),trivial,same fun e=>g3 e.1,Jj⟩
  rintro _ S jr ⟨OQ,Zs⟩;have dR:=kM Zs;obtain⟨vs,g1,g2⟩:=OQ.ex;have ng:=g1;unfold l2 at g1;dsimp only[ct] at g1;refine J ?_;intro bq aJ;replace dR:=dR.ext Flat.ext aJ;replace g1:=aJ.obj g1;refine J ?_;intro bB dP fX aT b4;refine⟨aT,?_⟩;have vH:=aJ.trans aT;have gj:=OQ.mod.size;have z2:=vH.size;have hlen:(o.fh (o.bX m) k 3).length<=100:=kr 3;have oA:=g2.ext vH;have g15:=vH.obj ng;refine _n (y:=(o.bX m)[k].aO) 3 (by decide) oA (fun _=>rfl) (hA b4) rC (by rw[show(dJ _ 2 _ 3:C_ Int)=o.fh (o.bX m) k 3 from rfl];omega) (by rw[show(dJ _ 2 _ 3:C_ Int)=o.fh (o.bX m) k 3 from rfl];unfold maxLen;omega) (by omega) fun b9 bQ dS lb=>?_;have h6:bQ.heap[b0]? = some (.cells (l2 vs 0) T.h):=(Mod.grown (A:=fun k=>(ct (vs 3)).ownBlock=some k) lb fun k hk=>hk).obj (oA.not g15 (by decide) 3 (by decide)) g15;have Nq:=h6;unfold l2 at h6;refine J ?_;intro auc iH c4;obtain⟨OI,alh⟩:=Fa (by decide) OQ.mod ng g2 vH lb dS iH c4;clear g1 g2 ng oA g15 dS h6 Nq c4 b4 dR;have Zq:=Zs.trans alh;have dR:=kM Zq;obtain⟨vs,g1,g2⟩:=OI.ex;have ng:=g1;unfold l2 at g1;dsimp only[ct] at g1;refine J ?_;intro bq aJ;replace dR:=dR.ext Flat.ext aJ;replace g1:=aJ.obj g1;refine J ?_;intro bB dP fX aT b4;refine⟨aT,?_⟩;have vH:=aJ.trans aT;have gj:=OI.mod.size;have z2:=vH.size;have hlen:(o.fh (o.bX m) k 4).length<=100:=kr 4;have oA:=g2.ext vH;have g15:=vH.obj ng;refine _n (y:=(o.bX m)[k].U) 4 (by decide) oA (fun _=>rfl) (hA b4) rC (by rw[show(dJ _ 3 _ 4:C_ Int)=o.fh (o.bX m) k 4 from rfl];omega) (by rw[show(dJ _ 3 _ 4:C_ Int)=o.fh (o.bX m) k 4 from rfl];unfold maxLen;omega) (by omega) fun b9 bQ dS lb=>?_;have h6:bQ.heap[b0]? = some (.cells (l2 vs 0) T.h):=(Mod.grown (A:=fun k=>(ct (vs 4)).ownBlock=some k) lb fun k hk=>hk).obj (oA.not g15 (by decide) 4 (by decide)) g15;have Nq:=h6;unfold l2 at h6;refine J ?_;intro aud iH c4;obtain⟨akk,ali⟩:=Fa (by decide) OI.mod ng g2 vH lb dS iH c4;clear g1 g2 ng oA g15 dS h6 Nq c4 b4 dR;have alj:=Zq.trans ali;refine J ?_;refine⟨aZ,aU,(),trivial,akk.congr fun j aE=>?_,alj⟩;subst ag;have a:j=0\/j=1\/j=2\/j=3\/j=4:=by omega
  rcases a with rfl | rfl | rfl | rfl | rfl
  .exact(o.MQ (s:=1) aZ).symm
  .exact(o.MQ (s:=2) aZ).symm
  .exact(o.MQ (s:=3) aZ).symm
  .show(_:C_ Int)=((o.bX m).take (k+1)).map (·.aO);rw[List.take_succ_eq_append_getElem aZ,List.map_append];rfl
  .show(_:C_ Int)=((o.bX m).take (k+1)).map (·.U);rw[List.take_succ_eq_append_getElem aZ,List.map_append];rfl
 have p2:k=(o.bX m).length:=by omega
 subst p2;have c7:=dK an;have av:=gp an;clear g1 g2;obtain⟨vs,g1,g2⟩:=an.ex;have ng:=g1;unfold l2 at g1;dsimp only[ct] at g1;refine J ?_;intro aP gd bu;have g23:=g2.mod (gd.mod (A:=fun k=>k=b0) rfl) fun i k U hk e=>by subst e;exact g2.not ng (by decide) i U hk
 replace av:=gd.obj av (by omega);replace bu:aP.heap[b0]? = some (.cells #[ct (vs 0),ct (vs 1),ct (vs 2),.int .i64 (o.bX m).length,ct (vs 3),ct (vs 4)] T.h):=bu;dsimp only[ct] at bu;refine J ?_;intro aR du bH;have g24:=g23.mod (du.mod (A:=fun k=>k=bR) rfl) fun i k U hk e=>by subst e;exact g23.not av (by decide) i U hk
 have bA:w.heap.size<=w1.heap.size:=by omega
 have tg:=fun(i:Nat) (U:i<5)=>aW.new (e:=T.a) (enc:=cR) (fun _=>rfl) (aW.low bA (g24.own i U));obtain⟨f1,f2,f3⟩:=o.agE a1;have eF:o.fh (o.bX m) (o.bX m).length 0=(o.layout m).vars:=by show o.iU 1 ((o.bX m).take _) 0=_;rw[List.take_length,f1];rfl
 have eb:o.fh (o.bX m) (o.bX m).length 1=(o.layout m).aw:=by show o.iU 2 ((o.bX m).take _) 0=_;rw[List.take_length,f2];rfl
 have dG:o.fh (o.bX m) (o.bX m).length 2=(o.layout m).insts:=by show o.iU 3 ((o.bX m).take _) 0=_;rw[List.take_length,f3];rfl
 have fg:o.fh (o.bX m) (o.bX m).length 3=(o.layout m).aO:=by show((o.bX m).take _).map _=_;rw[List.take_length];rfl
 have gq:o.fh (o.bX m) (o.bX m).length 4=(o.layout m).U:=by show((o.bX m).take _).map _=_;rw[List.take_length];rfl
 refine J ?_;refine⟨⟨[_,_,_,_,_,_],rfl,fun eP tc=>⟨⟨_,_,_,_,_,rfl,?_,?_,?_,?_,?_⟩⟩⟩,du.ext (gd.ext c7 (by omega)) (by omega)⟩
 .rw[<-eF];exact tg 0 (by decide) eP tc
 .rw[<-eb];exact tg 1 (by decide) eP tc
 .rw[<-dG];exact tg 2 (by decide) eP tc
 .rw[<-fg];exact tg 3 (by decide) eP tc
 .rw[<-gq];exact tg 4 (by decide) eP tc
theorem Qv(cs:C_ B_)(m:o.Model)(w:A_)(h:o.dV w cs m)(aK:m.cN) :
  a7 Tryz.prog F.E7 #[.agg cs.toArray] w fun v w'=>(∃xs,v = .agg xs.toArray/\eD w (fun w=>o.jN w xs (o.lay m)) w')/\Ext w w':=by
 have a1:=h;obtain⟨cd,bw,bO,c1,bV,c2,b2,br,cj,bF,rfl,_⟩:=h.form;refine bn E.E7 ?_;refine J ?_;intro w1 bo cT al ai;refine J ?_;intro aH bR dt ao av;have gj:=cy ai;replace ai:=ao.obj ai;have z2:=cy av;have z3:=al.size;have aI:=al.trans ao;refine J ?_;refine J_ (aha _ m aH (a1.ext aI) aK) ?_;rintro _ aP ⟨rfl,aj⟩;replace ai:=aj.obj ai;replace av:=aj.obj av;have ba:=aI.trans aj;by_cases hk:(o.check m).cA=0
 .rw[decide_eq_true hk];refine J ?_;refine J_ (aoz _ m aP (a1.ext ba) aK (o.ir hk)) ?_;rintro _ aR ⟨⟨xs,rfl,cI⟩,aA⟩;obtain⟨ml,d0,j0,d1,kX,d2,pB,d3,oP,d4,rfl,_⟩:=cI.here.form;replace av:=aA.obj av;have bG:=ba.trans aA;have z4:=aj.size;refine J ?_;intro bB gn b4;have ay:=cI.wr gn (by omega);refine J ?_;exact⟨⟨_,rfl,by rw[o.x7 hk];exact ay.low ba.size⟩,gn.ext bG (by omega)⟩
 .rw[decide_eq_false hk];refine J ?_;intro aR du bH;refine J ?_;exact⟨⟨[_,_,_,_,_,_],rfl,by rw[o.ZA hk];exact gT.of fun _=>o.jN.zero _⟩,du.ext ba (by omega)⟩
end Go.Proofs.R
end
section
namespace o
open Go
def gG(m:Model)(i:Nat):Nat:=total ((cO m).take i)
def cq(m:Model)(i:Nat):Nat:=total (cO m)+total ((dr m).take i)
def dj(m:Model)(i:Nat):Nat:=total (cO m)+total (dr m)+total ((fq m).take i)
theorem KQ(n:Nat):∀(ls:C_ (C_ dN)) (i:Nat) (h:i<(hW n ls).length),(hW n ls)[i]=((n+total (ls.take i):Nat):Int)
 | [],i,h=>by simp[hW] at h
 | l :: r,0,h=>by simp[hW,total]
 | l :: r,i+1,h=>by
  simp only[hW,List.getElem_cons_succ,List.take_succ_cons,FO];rw[KQ (n+l.length) r i (by simpa[hW] using h)];congr 1;omega
def dW(m:Model):Nat:=(bX m).length
theorem nR(m:Model):dW m=total (cO m)+total (dr m)+total (fq m):=EW m
theorem Ai{m:Model}{i:Nat}(h:i<m.vars.length):∃bd:i<(layout m).vars.length,(layout m).vars[i]=(gG m i:Int):=by
 have bd:i<(hW 0 (cO m)).length:=by rw[tw];simpa[cO] using h
 exact⟨bd,by have:=KQ 0 (cO m) i bd;rw[Nat.zero_add] at this;exact this⟩
theorem vh{m:Model}{i:Nat}(h:i<m.aw.length):∃bd:i<(layout m).aw.length,(layout m).aw[i]=(cq m i:Int):=by
 have bd:i<(hW (total (cO m)) (dr m)).length:=by rw[tw];simpa[dr] using h
 exact⟨bd,KQ _ _ i bd⟩
theorem rV{m:Model}{i:Nat}(h:i<(insts m).length):∃bd:i<(layout m).insts.length,(layout m).insts[i]=(dj m i:Int):=by
 have bd:i<(hW (total (cO m)+total (dr m)) (fq m)).length:=by rw[tw];simpa[fq] using h
 exact⟨bd,KQ _ _ i bd⟩
theorem tz{m:Model}{i:Nat}(h:i<m.vars.length):gG m i+(cells m.vars[i] m.scalars).toNat<=total (cO m):=by
 have bd:i<(cO m).length:=by simpa[cO] using h
 have:=Q2 bd
 have e:(cO m)[i].length=(cells m.vars[i] m.scalars).toNat:=by simp[cO,Cy]
 rw[e] at this;exact this
theorem tL{m:Model}{i:Nat}(h:i<m.aw.length):cq m i+(1+m.aw[i].cap.toNat)<=total (cO m)+total (dr m):=by
 have bd:i<(dr m).length:=by simpa[dr] using h
 have:=Q2 bd
 have e:(dr m)[i].length=1+m.aw[i].cap.toNat:=by simp[dr,vj]
 rw[e] at this;unfold cq;omega
theorem Pf{m:Model}{i:Nat}(h:i<(insts m).length):dj m i+(lN m (insts m)[i]).length<=dW m:=by
 have bd:i<(fq m).length:=by simpa[fq] using h
 have:=Q2 bd
 have e:(fq m)[i].length=(lN m (insts m)[i]).length:=by simp[fq]
 rw[e] at this;rw[nR];unfold dj;omega
def lA(s:C_ Scalar)(c:dv)(l:C_ Int):Prop :=
 ∃n,l[0]? = some n/\0<=n/\n<=c.cap/\∀k:Nat,(k:Int)<c.cap->∃x,l[k+1]? = some x/\((k:Int)<n->(e7 c.scalar c.aO c.U s).aO<=x/\x<=(e7 c.scalar c.aO c.U s).U)/\(n<=k->x=0)
def mv(m:Model)(i:Nat)(c:dv)(s:C_ Int):C_ Int:=(s.drop (cq m i)).take (1+c.cap.toNat)
structure Fits(m:Model)(s:List Int):Prop where
 len:s.length=dW m
 queue:∀i (h:i<m.aw.length),lA m.scalars m.aw[i] (mv m i m.aw[i] s)
 cell:∀i (h:i<s.length) (bd:i<(bX m).length),(bX m)[i].aO<=s[i]/\s[i]<=(bX m)[i].U
def hb(m:Model)(s:C_ Int):Prop:=(check m).cA=0/\Fits m s
def rv(m:Model)(s:C_ Int)(p:Int)(l:Int)(k:Nat):Nat:=((List.range k).filter fun i=>decide (((insts m)[i]?.map (·.proc))=some p/\s[dj m i]? = some l)).length
def iQ(m:Model)(s:C_ Int)(p:Nat)(n:Int)(k:Nat):C_ Int:=(List.range n.toNat).map fun(l:Nat)=>((rv m s (p:Int) (l:Int) k:Nat):Int)
def yq(m:Model)(s:C_ Int)(inst:Int):C_ Int×Int :=
 match nth (insts m) inst with
 | some x=>((s.drop (dj m inst.toNat+1)).take ((lN m x).length - 1),x.elem)
 | none=>([],0)
def cr(m:Model)(s:C_ Int)(inst:Int):Env :=
 ⟨(List.range m.vars.length).map fun i=>(s.drop (gG m i)).take (cO m)[i]!.length,
  (List.range m.aw.length).map fun i=>s[cq m i]!,
  (yq m s inst).1,
  (List.range m.procs.length).map fun i=>iQ m s i (m.procs[i]?.map (·.b8) |>.getD 0) (insts m).length,
  (yq m s inst).2⟩
def val:C_ Nat->Nat
 | []=>0
 | d :: r=>d+256*val r
def He(n:Nat):C_ Nat:=if h:n=0 then [] else n % 256 :: He (n / 256)
termination_by n
decreasing_by omega
def Z9:C_ Cell->C_ Int->Nat->Nat
 | x :: r,v :: s,n=>Z9 r s (n*(x.U - x.aO+1).toNat+(v - x.aO).toNat)
 | _,_,n=>n
def num(m:Model)(s:C_ Int):Nat:=Z9 (bX m) s 0
def fC(m:Model):Nat:=num m ((bX m).map (·.U))
def adV(m:Model):Nat:=(He (fC m)).length
def fixed(k n:Nat):C_ Nat:=He n++List.replicate (k - (He n).length) 0
def bytes(m:Model)(s:C_ Int):C_ Nat:=(fixed (adV m) (num m s)).reverse
end o
end
section
namespace Go.Proofs.R
open Go Go.RowKit bb
abbrev ee(w:A_)(v:B_)(l:C_ Int):Prop:=bh 1 (Flat cR) w v l
structure w7(w:World)(b:Nat)(m:o.Model):Prop where
 ex:∃xs cs bM,w.heap[b]? = some (.cells (xs++cs++[bM]).toArray T.tI)/\o.jN w xs (o.layout m)/\o.dV w cs m/\ke w bM (o.insts m)
theorem w7.ext{w w':A_}{b:Nat}{m:o.Model}(he:Ext w w')(h:w7 w b m):w7 w' b m :=
 let ⟨xs,cs,bM,af,h1,I,ab⟩:=h.ex; ⟨xs,cs,bM,he.obj af,h1.ext he,I.ext he,ab.ext Flat.ext he⟩
theorem aop(cs:C_ B_)(m:o.Model)(w:A_)(h:o.dV w cs m)(aK:m.cN)(aM:gB w) :
  a7 Tryz.prog F.Dv #[.agg cs.toArray] w fun v w'=>((v = .pointer none/\¬(o.check m).cA=0)\/(∃b,v = .pointer (some ⟨b,0,none⟩)/\(o.check m).cA=0/\w7 w' b m))/\Ext w w':=by
 have a1:=h;obtain⟨cd,bw,bO,c1,bV,c2,b2,br,cj,bF,rfl,_⟩:=h.form;refine bn E.Dv ?_;refine J ?_;intro w1 bo cT al ai;refine J ?_;refine J_ (x9 _ m w1 (a1.ext al) aK (aM.ext al)) ?_;rintro _ aH ⟨rfl,ao⟩;replace ai:=ao.obj ai;have aI:=al.trans ao;refine J ?_;refine _A (v:=.int .i64 (o.check m).cA) rfl ?_;refine J ?_;refine I_ (fun hk=>?_) (fun hk=>?_);rotate_left
 .refine J ?_;exact⟨.inl ⟨aU,hk⟩,aI⟩
 refine J ?_;intro aP aj;replace ai:=aj.obj ai;have ba:=aI.trans aj;refine J ?_;refine J_ (EX _ m aP (a1.ext ba) aK (aM.ext ba)) ?_;rintro _ aR ⟨⟨xs,rfl,cI⟩,aA⟩;replace cI:=cI.here;rw[o.x7 hk] at cI;obtain⟨ml,d0,j0,d1,kX,d2,pB,d3,oP,d4,rfl,_⟩:=cI.form;have bG:=ba.trans aA;refine⟨aA,?_⟩;refine J ?_;refine J_ (v7 _ m aR (a1.ext bG) aK) ?_;rintro bM bq ⟨fp,aJ⟩;obtain⟨cx,ci,rfl,_⟩:=fp.form;have bU:=bG.trans aJ;refine⟨aA.trans aJ,?_⟩;refine J ?_;intro bB dP fX aT b4;refine J ?_;exact⟨.inr ⟨dP,rfl,hk,⟨_,_,_,b4,cI.ext (aJ.trans aT),a1.ext (bU.trans aT),aW.iv (enc:=o.cZ.enc) (fun _=>rfl) (fp.ext aT)⟩⟩,bU.trans aT⟩
end Go.Proofs.R
end
section
namespace o
theorem PB(m:Model):(layout m).aO.length=(bX m).length:=by simp[layout,zM]
theorem Pz(m:Model):(layout m).U.length=(bX m).length:=by simp[layout,zM]
theorem PA{m:Model}{c:Nat}(h:c<(layout m).aO.length)(bd:c<(bX m).length):(layout m).aO[c]=(bX m)[c].aO:=by simp[layout,zM]
theorem Py{m:Model}{c:Nat}(h:c<(layout m).U.length)(bd:c<(bX m).length):(layout m).U[c]=(bX m)[c].U:=by simp[layout,zM]
theorem s6(m:Model):(layout m).vars.length=m.vars.length/\(layout m).aw.length=m.aw.length/\(layout m).insts.length=(insts m).length:=by
 refine⟨?_,?_,?_⟩<;>simp[layout,zM,tw,cO,dr,fq]
end o
end
section
namespace bb
open Go Go.RowKit
structure Gq(es:Array MapEntry)(c:Nat)(L:List Int):Prop where
 zK:∃l:List (Int×Value),iw (Value.int .i64) es.toList l/\(l.map (·.1)).Nodup/\(∀x,x∈l.map (·.1)↔x∈L)/\l.length<=L.length/\∀p∈l,∃z,p.2 = .int .i64 z
 born:∀e∈es.toList,e.born<c
 nodup:(es.toList.map (·.born)).Nodup
structure fi(w:World)(b:Nat)(L:List Int):Prop where
 ok:∀x∈L,-9223372036854775808<=x/\x<=9223372036854775807
 ex:∃es c,w.heap[b]? = some (.map es c)/\Gq es c L
theorem fi.of{w w':A_}{b:Nat}{L:C_ Int}(h:fi w b L)(e:w'.heap[b]? = w.heap[b]?):fi w' b L:=let ⟨es,c,h1,I⟩:=h.ex; ⟨h.ok,es,c,e.trans h1,I⟩
theorem fi.lt{w:A_}{b:Nat}{L:C_ Int}(h:fi w b L):b<w.heap.size:=let ⟨_,_,h1,_⟩:=h.ex;cy h1
theorem fi.ext{w w':A_}{b:Nat}{L:C_ Int}(h:fi w b L)(e:Ext w w'):fi w' b L:=h.of (e.heap h.lt)
theorem fi.mod{A:Nat->Prop}{w w':A_}{b:Nat}{L:C_ Int}(h:fi w b L)(e:Mod A w w')(hk:¬A b):fi w' b L:=h.of (e.block b h.lt hk)
theorem Gq.empty:Gq #[] 0 []:=⟨⟨[],rfl,by simp,fun _=>Iff.rfl,Nat.le_refl _,fun p h=>by simp at h⟩,fun e he=>by simp at he,by simp⟩
theorem fi.empty{w:A_}{b:Nat}(h:w.heap[b]? = some (.map #[] 0)):fi w b []:=⟨fun _ h=>by simp at h,_,_,h,Gq.empty⟩
theorem iw.len{om:Type}{enc:om->B_}{es:C_ MapEntry}{l:C_ (om×B_)}(h:iw enc es l):es.length=l.length:=by
 have:=congrArg List.length h
 simpa using this
theorem iw.at{om:Type}{enc:om->B_}{es:C_ MapEntry}{l:C_ (om×B_)}(h:iw enc es l)(i:Nat):es[i]?.map (fun e=>(e.key,e.val))=l[i]?.map (fun p=>(enc p.1,p.2)):=by
 have:=congrArg (fun q=>q[i]?) h
 simpa using this
theorem fi.look{w:A_}{b:Nat}{L:C_ Int}(h:fi w b L)(x:Int):∃es r z,rn w (.map (some b)) es/\Instr.findNow (.int .i64) (.int .i64 x) es.toList 0=some r/\mK (.int .i64 0) false r = .int .i64 z:=by
 obtain⟨es,c,h1,hm⟩:=h.ex;obtain⟨l,I,ab,aD,aY,bx⟩:=hm.zK;obtain⟨r,mE,jV⟩:=y8 (KD .i64 .i64) x es.toList _ 0 I;cases r with
 | none=>exact⟨es,none,0,.inr ⟨b,c,rfl,h1⟩,mE,rfl⟩
 | some q =>
  cases ax:l.find? (fun p=>decide (x=p.1)) with
  | none=>rw[ax] at jV;cases jV
  | some p =>
   rw[ax] at jV;obtain⟨z,bA⟩:=bx p (List.mem_of_find?_eq_some ax);simp only[Option.map_some,Option.some.injEq] at jV;exact⟨es,some q,z,.inr ⟨b,c,rfl,h1⟩,mE,by simp[mK,jV,bA]⟩
theorem aln{x z:Int}{l:C_ (Int×B_)}{es:C_ MapEntry}{j:Nat}(h:iw (Value.int .i64) es l)(hk:∀p,l[j]? = some p->p.1=x):iw (Value.int .i64) (es.modify j fun e=>{ e with key:=.int .i64 x,val:=.int .i64 z }) (l.modify j fun p=>(p.1,.int .i64 z)):=by
 unfold iw;apply List.ext_getElem?;intro i;have U:=h.at i;simp only[List.getElem?_map,List.getElem?_modify] at *;by_cases e:j=i
 .subst e;simp only[if_true] at *;cases he:es[j]? with
  | none=>rw[he] at U;cases ar:l[j]? with
   | none=>simp
   | some p=>rw[ar] at U;cases U
  | some q =>
   rw[he] at U;cases ar:l[j]? with
   | none=>rw[ar] at U;cases U
   | some p=>simp[hk p ar]
 .simp only[if_neg e];cases he:es[i]? with
  | none=>rw[he] at U;cases ar:l[i]? with
   | none=>simp
   | some p=>rw[ar] at U;cases U
  | some q =>
   rw[he] at U;cases ar:l[i]? with
   | none=>rw[ar] at U;cases U
   | some p=>rw[ar] at U;simpa using U
theorem Ws{z:B_}(l:C_ (Int×B_))(j:Nat):(l.modify j fun p=>(p.1,z)).map (·.1)=l.map (·.1):=by
 apply List.ext_getElem?;intro i;simp only[List.getElem?_map,List.getElem?_modify];by_cases e:j=i
 .subst e;cases l[j]? <;> simp
 .simp[e]
theorem US{k v:B_}(es:C_ MapEntry)(j:Nat):(es.modify j fun e=>{ e with key:=k,val:=v }).map (·.born)=es.map (·.born):=by
 apply List.ext_getElem?;intro i;simp only[List.getElem?_map,List.getElem?_modify];by_cases e:j=i
 .subst e;cases es[j]? <;> simp
 .simp[e]
theorem fi.put{w:A_}{b:Nat}{L:C_ Int}(h:fi w b L)(x z:Int)(ag : -9223372036854775808<=x/\x<=9223372036854775807):∃es c q,w.heap[b]? = some (.map es c)/\Instr.findNow (.int .i64) (.int .i64 x) es.toList 0=some q /\
  ∀w':A_,w'.heap[b]? = some (rZ es c (.int .i64 x) (.int .i64 z) q)->fi w' b (L++[x]):=by
 obtain⟨es,c,h1,hm⟩:=h.ex;obtain⟨l,I,ab,aD,aY,bx⟩:=hm.zK;obtain⟨r,mE,jV⟩:=y8 (KD .i64 .i64) x es.toList _ 0 I;have di:∀y∈L++[x],-9223372036854775808<=y/\y<=9223372036854775807:=fun y bS=>by
  rcases List.mem_append.1 bS with bS | bS
  .exact h.ok y bS
  .simp only[List.mem_singleton] at bS;subst bS;exact ag
 refine⟨es,c,r,h1,mE,fun w' hw=>?_⟩;cases r with
 | none =>
  have ay:∀p∈l,p.1≠x:=by
   cases ax:l.find? (fun p=>decide (x=p.1)) with
   | none =>
    intro p ar e
    have:=List.find?_eq_none.1 ax p ar
    simp[e] at this
   | some p=>rw[ax] at jV;cases jV
  refine⟨di,_,_,hw,⟨⟨l++[(x,.int .i64 z)],iw.push I x (.int .i64 z) c,?_,fun y=>?_,?_,fun p ar=>?_⟩,?_,?_⟩⟩
  .rw[List.map_append,List.map_cons,List.map_nil,List.nodup_append];refine⟨ab,by simp,fun a aV b ak=>?_⟩;obtain⟨p,ar,rfl⟩:=List.mem_map.1 aV;simp only[List.mem_singleton] at ak;rw[ak];exact ay p ar
  .rw[List.map_append,List.mem_append,List.mem_append,aD y];simp
  .rw[List.length_append,List.length_append];simp;exact aY
  .rcases List.mem_append.1 ar with ar | ar
   .exact bx p ar
   .simp only[List.mem_singleton] at ar;subst ar;exact⟨z,rfl⟩
  .intro e he;simp only[Array.toList_push,List.mem_append,List.mem_singleton] at he;rcases he with he | rfl
   .have:=hm.born e he;omega
   .show c<c+1;omega
  .simp only[Array.toList_push,List.map_append,List.map_cons,List.map_nil];rw[List.nodup_append];refine⟨hm.nodup,by simp,fun a aV gL Bu=>?_⟩;obtain⟨e,he,rfl⟩:=List.mem_map.1 aV;simp only[List.mem_singleton] at Bu
   have:=hm.born e he
   omega
 | some Pn =>
  obtain⟨j,v⟩:=Pn;obtain⟨_,e,he,an⟩:=MO mE;rw[Nat.sub_zero] at he;have X1:∀p,l[j]? = some p->p.1=x:=fun p ar=>by
   have:=I.at j
   rw[he,ar] at this;simp only[Option.map_some,Option.some.injEq,Prod.mk.injEq] at this;rw[this.1,KD] at an;have an:=Option.some.inj an;simp only[decide_eq_true_eq] at an;exact an.symm
  have s5:x∈L:=by
   have aE:=I.at j;rw[he] at aE;cases ar:l[j]? with
   | none=>rw[ar] at aE;cases aE
   | some p =>
    rw[<-aD x,<-X1 p ar];exact List.mem_map.2 ⟨p,List.mem_of_getElem? ar,rfl⟩
  have po:w'.heap[b]? = some (.map (es.modify j fun e=>{ e with key:=.int .i64 x,val:=.int .i64 z }) c):=hw;refine⟨di,_,_,po,⟨⟨l.modify j fun p=>(p.1,.int .i64 z),?_,by rw[Ws];exact ab,fun y=>?_,?_,fun p ar=>?_⟩,?_,?_⟩⟩
  .rw[Array.toList_modify];exact aln I X1
  .rw[Ws,aD y,List.mem_append,List.mem_singleton];exact⟨.inl,fun q=>q.elim id fun q=>q ▸ s5⟩
  .rw[List.length_modify,List.length_append];omega
  .obtain⟨i,U,rfl⟩:=List.mem_iff_getElem.1 ar;rw[List.getElem_modify];split
   .exact⟨z,rfl⟩
   .exact bx _ (List.getElem_mem _)
  .rw[Array.toList_modify];intro e' hR
   have:e'.born∈es.toList.map (·.born):=by rw[<-US (k:=.int .i64 x) (v:=.int .i64 z) es.toList j];exact List.mem_map.2 ⟨e',hR,rfl⟩
   obtain⟨ej,af,hd⟩:=List.mem_map.1 this
   have:=hm.born ej af
   omega
  .rw[Array.toList_modify,US];exact hm.nodup
section
variable{P:Program}{KW:World->Prop}{aC:Value->Prop}{w:World}
theorem AC7{b:Nat}{L:C_ Int}{x:Int}{t}(h:fi w b L)(hk:∀z,aC (.int .i64 z)):Ay (.int .i64) (.int .i64 0) false (.map (some b)) (.int .i64 x) w aC t:=by
 obtain⟨es,r,z,h1,I,ab⟩:=h.look x;exact _l h1 I (by rw[ab];exact hk z)
theorem AC8{b:Nat}{L:C_ Int}{x z:Int}{t}(h:fi w b L)(ag : -9223372036854775808<=x/\x<=9223372036854775807)(hk:∀w1,dn b w w1->fi w1 b (L++[x])->KW w1):yC (.int .i64) (.map (some b)) (.int .i64 x) (.int .i64 z) w KW t:=by
 obtain⟨es,c,q,h1,I,ab⟩:=h.put x z ag;exact _r h1 I (hk _ (dn.fr w b _) (ab _ (Cp (cy h1))))
end
theorem wf_i64{x:Int}(h : -9223372036854775808<=x/\x<=9223372036854775807):(Lit.int .i64 x).wf=true:=by
 have h1:IntKind.i64.min = -9223372036854775808:=by decide
 have I:IntKind.i64.max=9223372036854775807:=by decide
 simp only[Lit.wf,h1,I,Bool.and_eq_true,decide_eq_true_eq];exact h
theorem fi.own{P:D_}{k:F_}{w:A_}{b:Nat}{L:C_ Int}(hk:P.underlying k=some (.int .i64))(h:fi w b L)(cI:L.length<=maxLen) :
  ∃tB:DataW Unit,w.ownsMap P k (fun _=>some (.lit (.bool true),[])) b L.length tB/\Maps.size tB<=L.length/\∀b5:C_ Int,b5.Perm (intKeys tB)->b5.Nodup/\∀x,x∈b5↔x∈L:=by
 obtain⟨es,c,h1,hm⟩:=h.ex;obtain⟨l,I,ab,aD,aY,bx⟩:=hm.zK;have hlen:es.toList.length=l.length:=I.len;have qU:∀e∈es.toList,∃x,e.key = .int .i64 x/\WideElems.rd P k (fun _=>some ((.lit (.bool true):DataW Unit),[])) e=some (.int .i64 x,.lit (.bool true)):=fun e he=>by
  obtain⟨i,U,rfl⟩:=List.mem_iff_getElem.1 he;have kJ:=I.at i;rw[List.getElem?_eq_getElem U,List.getElem?_eq_getElem (by omega)] at kJ;simp only[Option.map_some,Option.some.injEq,Prod.mk.injEq] at kJ;refine⟨_,kJ.1,?_⟩;have hw:=wf_i64 (h.ok l[i].1 ((aD _).1 (List.mem_map.2 ⟨l[i],List.getElem_mem _,rfl⟩)));unfold WideElems.rd;rw[kJ.1,Maps.keyOf_int_mk hk hw];rfl
 have Bo:WideElems.Fit P k (fun _=>some ((.lit (.bool true):DataW Unit),[])) es c:=⟨by simp at hlen;omega,⟨hm.born,hm.nodup,by
  have:es.toList.map (·.key)=(l.map (·.1)).map (Value.int .i64):=by
   apply List.ext_getElem?;intro i;rw[List.getElem?_map,List.getElem?_map,List.getElem?_map]
   have:=I.at i
   cases he:es.toList[i]? with
   | none=>rw[he] at this;cases ar:l[i]? with
    | none=>rfl
    | some p=>rw[ar] at this;cases this
   | some q =>
    rw[he] at this;cases ar:l[i]? with
    | none=>rw[ar] at this;cases this
    | some p =>
     rw[ar] at this;simp only[Option.map_some,Option.some.injEq,Prod.mk.injEq] at this;simp only[Option.map_some,this.1]
  rw[this];exact List.pairwise_map.2 (ab.imp fun {a b} cw e=>cw (by injection e))⟩,fun x ag=>let ⟨y,_,bS⟩:=qU x ag; ⟨_,bS⟩⟩
 refine⟨_,World.ownsMap.mono (World.ownsMap_of_fit h1 Bo (fun _ _ _ q=>q)) (by simp at hlen;omega),?_,fun b5 ar=>?_⟩
 .rw[Maps.size_eq,length_sorted];simp at hlen ⊢;omega
 .have ajb:(intKeys (.map ((es.toList.map (WideElems.rg P k (fun _=>some ((.lit (.bool true):DataW Unit),[])))).foldr DataW.insert []))).Perm (l.map (·.1)):=by
   refine((WideShapes.sorted_perm _).map _).trans ?_;rw[List.map_map]
   have:es.toList.map ((fun p:Lit×DataW Unit=>intOf p.1)∘WideElems.rg P k (fun _=>some ((.lit (.bool true):DataW Unit),[])))=l.map (·.1):=by
    apply List.ext_getElem?;intro i;rw[List.getElem?_map,List.getElem?_map];cases he:es.toList[i]? with
    | none =>
     have:=I.at i
     rw[he] at this;cases ar:l[i]? with
     | none=>rfl
     | some p=>rw[ar] at this;cases this
    | some e =>
     obtain⟨x,ag,bS⟩:=qU e (List.mem_of_getElem? he)
     have:=I.at i
     rw[he] at this;cases ar:l[i]? with
     | none=>rw[ar] at this;cases this
     | some p =>
      rw[ar] at this;simp only[Option.map_some,Option.some.injEq,Prod.mk.injEq] at this;rw[ag] at this;have bt:x=p.1:=by have:=this.1;injection this
      simp only[Option.map_some,Function.comp,WideElems.rg_of bS,bt];rfl
   rw[this]
  have vR:=ar.trans ajb;exact⟨vR.nodup_iff.2 ab,fun x=>by rw[vR.mem_iff];exact aD x⟩
theorem apJ{b5:C_ Int}(h:b5.Nodup):(b5.mergeSort fun x y=>decide (x<=y)).Pairwise (· < ·):=by
 have aqp:∀a b c:Int,decide (a<=b)=true->decide (b<=c)=true->decide (a<=c)=true:=fun a b c h1 I=>by simp only[decide_eq_true_eq] at *;omega
 have to:∀a b:Int,(decide (a<=b)||decide (b<=a))=true:=fun a b=>by simp only[Bool.or_eq_true,decide_eq_true_eq];omega
 have h1:=List.pairwise_mergeSort aqp to b5;have I:(b5.mergeSort fun x y=>decide (x<=y)).Nodup:=(List.mergeSort_perm b5 _).nodup_iff.2 h;refine(h1.and I).imp fun {a b} q=>?_;simp only[decide_eq_true_eq] at q;omega
end bb
end
section
namespace o
open Go
theorem Qa{p:dz}{s:Scope}(h:(hU p s).2.2=0):whole p s=0/\(lu p s).2=0/\(lC (inner p s) p.b8 p.cL p.cL 0).2.2=0:=by
 unfold hU at h;by_cases h1:whole p s≠0
 .rw[if_pos h1] at h;exact absurd h h1
 rw[if_neg h1] at h;by_cases I:(lu p s).2≠0
 .rw[if_pos I] at h;exact absurd h I
 rw[if_neg I] at h;exact⟨by simpa using h1,by simpa using I,h⟩
theorem GY{own:Scope}{b8:Int}{all:C_ dI}:∀(l:C_ dI) (i:Nat),(lC own b8 all l i).2.2=0->∀k (h:k<l.length),(jg l[k] b8 own).2=0/\(all.take (i+k)).any (fun x=>decide (x.name=l[k].name))=false
 | [],_,_,k,h=>by simp at h
 | c :: r,i,dK,k,h=>by
  simp only[lC] at dK;by_cases h1:(jg c b8 own).2≠0
  .rw[if_pos h1] at dK;exact absurd dK h1
  rw[if_neg h1] at dK;by_cases I:(all.take i).any (fun x=>decide (x.name=c.name))=true
  .rw[if_pos I] at dK;cases dK
  rw[if_neg I] at dK;cases k with
  | zero=>exact⟨by simpa using h1,by simpa using I⟩
  | succ k =>
   have:=GY r (i+1) dK k (by simpa using h)
   simpa[Nat.add_assoc,Nat.add_comm 1 k] using this
theorem wu{α:Type}{l:C_ α}{n:Int}{x:α}(h:nth l n=some x):0<=n/\l[n.toNat]? = some x/\n.toNat<l.length:=by
 unfold nth at h;by_cases af:0<=n
 .rw[if_pos af] at h;exact⟨af,h,(List.getElem?_eq_some_iff.1 h).1⟩
 .rw[if_neg af] at h;cases h
theorem Zm{n:Int}{s:Scope}(h:(hv n s).2=true):0<=n/\n<=s.scalars.length/\(hv n s).1=if n=0 then 0 else 1+n:=by
 unfold hv at h ⊢;by_cases h1:n=0
 .subst h1;simp
 .rw[if_neg h1] at h ⊢;by_cases I:n<0\/(s.scalars.length:Int)<n
  .rw[if_pos I] at h;cases h
  .rw[if_neg I,if_neg h1];exact⟨by omega,by omega,rfl⟩
theorem Zu{l:C_ Var}{n:Int}{s:Scope}(h:(fY l n s).2.2=true):∃v,nth l n=some v/\l[n.toNat]? = some v/\0<=n/\fY l n s=((hv v.scalar s).1,(hv v.over s).1,true)/\(hv v.scalar s).2=true/\(hv v.over s).2=true:=by
 unfold fY at h ⊢;cases ay:nth l n with
 | none=>rw[ay] at h;cases h
 | some v =>
  rw[ay] at h;simp only[Bool.and_eq_true] at h;obtain⟨af,h1,_⟩:=wu ay;exact⟨v,rfl,h1,af,by simp only[h.1,h.2,Bool.and_self],h.1,h.2⟩
theorem Ch:∀(a b:C_ Int),a.Pairwise (· < ·)->b.Pairwise (· < ·)->(∀x,x∈a↔x∈b)->a=b
 | [],[],_,_,_=>rfl
 | [],y :: b,_,_,h=>by have:=(h y).2 (List.mem_cons_self ..);cases this
 | x :: a,[],_,_,h=>by have:=(h x).1 (List.mem_cons_self ..);cases this
 | x :: a,y :: b,aV,ak,h=>by
  rw[List.pairwise_cons] at aV ak;have e:x=y:=by
   rcases List.mem_cons.1 ((h x).1 (List.mem_cons_self ..)) with e | e
   .exact e
   .rcases List.mem_cons.1 ((h y).2 (List.mem_cons_self ..)) with aI | aI
    .exact aI.symm
    .have:=ak.1 x e;have:=aV.1 y aI;omega
  subst e;congr 1;refine Ch a b aV.2 ak.2 fun z=>⟨fun bA=>?_,fun bA=>?_⟩
  .rcases List.mem_cons.1 ((h z).1 (List.mem_cons_of_mem _ bA)) with e | e
   .subst e;have:=aV.1 z bA;omega
   .exact e
  .rcases List.mem_cons.1 ((h z).2 (List.mem_cons_of_mem _ bA)) with e | e
   .subst e;have:=ak.1 z bA;omega
   .exact e
def gr(a n:Nat):C_ Int:=(List.range n).map fun(k:Nat)=>((a+k:Nat):Int)
theorem aoU(a n:Nat):(gr a n).length=n:=by simp[gr]
theorem aa2(a:Nat):gr a 0=[]:=rfl
theorem Cj(a:Nat):gr a 1=[(a:Int)]:=by simp[gr]
theorem aoV(a n:Nat):gr a (n+1)=gr a n++[((a+n:Nat):Int)]:=by simp[gr,List.range_succ]
theorem oN{a n:Nat}{x:Int}:x∈gr a n↔(a:Int)<=x/\x<((a+n:Nat):Int):=by
 constructor
 .intro h;obtain⟨k,hk,rfl⟩:=List.mem_map.1 h
  have:=List.mem_range.1 hk
  omega
 .intro h;refine List.mem_map.2 ⟨(x - a).toNat,List.mem_range.2 (by omega),by omega⟩
structure ary(l:List Int)(last:Int)(out:List Int):Prop where
 mO:out.Pairwise (· < ·)
 mem:∀x,x∈out↔x∈l/\x<=last
 last : -1<=last
structure sr(l r:List Int):Prop where
 mO:r.Pairwise (· < ·)
 mem:∀x,x∈r↔x∈l
theorem sr.eq{l we r hj:C_ Int}(h:sr l r)(k:sr we hj)(e:∀x,x∈l↔x∈we):r=hj :=
 Ch r hj h.mO k.mO fun x=>by rw[h.mem,k.mem,e]
def qc(m:Model)(v:Nat):Nat:=match m.vars[v]? with | some x=>(cells x m.scalars).toNat | none=>0
def Hz(m:Model)(q:Nat):Nat:=match (insts m)[q]? with | some x=>x.elem.toNat | none=>0
def gN(m:Model)(c:Nat):Nat:=match m.aw[c]? with | some x=>x.cap.toNat | none=>0
def pq(m:Model)(q v:Nat)(own:Bool):C_ Int:=if own then gr (gG m v+Hz m q - 1) 1 else gr (gG m v) (qc m v)
def oy(m:Model)(p:Int)(n:Nat):C_ Int:=(List.range n).flatMap fun j=>if (insts m)[j]?.map (·.proc)=some p then gr (dj m j) 1 else []
def gi(m:Model)(q:Nat)(own:Bool)(x:Node):C_ Int :=
 if x.op=2 then gr (gG m x.n.toNat) 1
 else if x.op=3 then pq m q x.n.toNat own
 else if x.op=4 then gr (dj m q+1+x.n.toNat) 1
 else if x.op=6 then gr (cq m x.n.toNat) 1
 else if x.op=7 then oy m (x.n.tdiv 16) (insts m).length
 else []
def Cb(e:C_ Node):Nat->Bool
 | 0=>false
 | k+1=>match e[k]? with | some x=>decide (x.op=5) | none=>false
def rE(m:Model)(q:Nat)(e:C_ Node)(n:Nat):C_ Int:=(List.range n).flatMap fun k=>match e[k]? with | some x=>gi m q (Cb e k) x | none=>[]
def xj(m:Model)(c:Nat):C_ Int:=gr (cq m c) (1+gN m c)
def r8(a:Act):Bool:=match a.index with | [x]=>decide (x.op=5) | _=>false
def u9(m:Model)(q:Nat)(a:Act):C_ Int :=
 if a.kind=5 then xj m a.to.toNat
 else (if a.kind=2 then rE m q a.index a.index.length else if a.kind=4 then gr (cq m a.to.toNat) 1 else [])++rE m q a.value a.value.length
def nP(m:Model)(q:Nat)(a:Act):C_ Int :=
 if a.kind=1 then gr (gG m a.to.toNat) 1
 else if a.kind=2 then pq m q a.to.toNat (r8 a)
 else if a.kind=3 then gr (dj m q+1+a.to.toNat) 1
 else if a.kind=4 then xj m a.to.toNat
 else if a.kind=5 then xj m a.to.toNat++gr (dj m q+1+a.loc.toNat) 1
 else []
def H5(m:Model)(q:Nat)(c:dI):C_ Int:=gr (dj m q) 1++rE m q c.guard c.guard.length
def q4(m:Model)(q:Nat)(c:dI)(n:Nat):C_ Int:=H5 m q c++(c.bY.take n).flatMap (u9 m q)
def nB(m:Model)(q:Nat)(c:dI)(n:Nat):C_ Int:=gr (dj m q) 1++(c.bY.take n).flatMap (nP m q)
theorem aaP{m:Model}{q:Nat}{c:dI}{n:Nat}(h:n<c.bY.length):q4 m q c (n+1)=q4 m q c n++u9 m q c.bY[n]:=by
 unfold q4;rw[List.take_succ_eq_append_getElem h,List.flatMap_append,List.flatMap_singleton,List.append_assoc]
theorem ack{m:Model}{q:Nat}{c:dI}{n:Nat}(h:n<c.bY.length):nB m q c (n+1)=nB m q c n++nP m q c.bY[n]:=by
 unfold nB;rw[List.take_succ_eq_append_getElem h,List.flatMap_append,List.flatMap_singleton,List.append_assoc]
theorem V3{m:Model}{q:Nat}{e:C_ Node}{n:Nat}(h:n<e.length):rE m q e (n+1)=rE m q e n++gi m q (Cb e n) e[n]:=by
 unfold rE;rw[List.range_succ,List.flatMap_append,List.flatMap_singleton,List.getElem?_eq_getElem h]
theorem aah{e:C_ Node}{n:Nat}(h:n<e.length):Cb e (n+1)=decide (e[n].op=5):=by
 simp only[Cb,List.getElem?_eq_getElem h]
theorem Db{m:Model}{p:Int}{n:Nat}(h:n<(insts m).length):oy m p (n+1)=oy m p n++if (insts m)[n].proc=p then gr (dj m n) 1 else []:=by
 unfold oy;rw[List.range_succ,List.flatMap_append,List.flatMap_singleton,List.getElem?_eq_getElem h];simp only[Option.map_some,Option.some.injEq]
structure AD(s:Scope)(x:Node):Prop where
 var:x.op=2->0<=x.n/\∃v,s.vars[x.n.toNat]? = some v/\v.over=0
 item:x.op=3->0<=x.n/\x.n.toNat<s.vars.length
 loc:x.op=4->0<=x.n/\x.n.toNat<s.locals.length
 self:x.op=5->1<=s.self/\s.self<=s.scalars.length
 len:x.op=6->0<=x.n/\x.n.toNat<s.aw.length
 at_:x.op=7->0<=x.n/\(x.n.tdiv 16).toNat<s.procs.length
structure sg(s:Scope)(e:List Node):Prop where
 node:∀k (h:k<e.length),AD s e[k]/\(e[k].op=3->0<k)
 len:e.length<=24
theorem alF{s:Scope}{x:Node}{top:Int}(h:(iY x s top).2=0):AD s x:=by
 unfold iY at h;by_cases h1:x.op=1
 .exact⟨by omega,by omega,by omega,by omega,by omega,by omega⟩
 rw[if_neg h1] at h;by_cases I:x.op=2\/x.op=3\/x.op=4
 .rw[if_pos I] at h;simp only at h;by_cases au:(fY (if x.op=4 then s.locals else s.vars) x.n s).2.2=false
  .rw[if_pos au] at h;cases h
  rw[if_neg au] at h;obtain⟨v,cC,cS,eT,hI,B0,B1⟩:=Zu (by simpa using au);obtain⟨bO,bV,b2⟩:=Zm B1;rw[hI] at h;simp only at h;have ch:=(List.getElem?_eq_some_iff.1 cS).1;by_cases ab:(x.op=3/\((hv v.over s).1=0\/top≠(hv v.over s).1))\/(x.op≠3/\(hv v.over s).1≠0)
  .rw[if_pos ab] at h;cases h
  .refine⟨fun e=>⟨eT,v,?_,?_⟩,fun e=>⟨eT,?_⟩,fun e=>⟨eT,?_⟩,by omega,by omega,by omega⟩
   .rw[if_neg (by omega)] at cS;exact cS
   .have:(hv v.over s).1=0:=Classical.byContradiction fun ay=>ab (.inr ⟨by omega,ay⟩)
    rw[b2] at this;split at this
    .assumption
    .omega
   .rw[if_neg (by omega)] at ch;exact ch
   .rw[if_pos e] at ch;exact ch
 .rw[if_neg I] at h;unfold mc at h;refine⟨by omega,by omega,by omega,fun e=>?_,fun e=>?_,fun e=>?_⟩
  .rw[if_pos e] at h;by_cases q:1<=s.self/\s.self<=s.scalars.length
   .exact q
   .rw[if_neg q] at h;cases h
  .rw[if_neg (by omega),if_pos e] at h;unfold j8 at h;cases ay:nth s.aw x.n with
   | none=>rw[ay] at h;cases h
   | some c=>exact⟨(wu ay).1,(wu ay).2.2⟩
  .rw[if_neg (by omega),if_neg (by omega),if_pos e] at h;unfold B2 at h;by_cases q:0<=x.n
   .rw[if_pos q] at h;cases ay:nth s.procs (x.n.tdiv 16) with
    | none=>rw[ay] at h;cases h
    | some c=>exact⟨q,(wu ay).2.2⟩
   .rw[if_neg q] at h;cases h
theorem Zk{e:C_ Node}{s:Scope}(h:(kind e s).2=0):sg s e:=by
 unfold kind kV at h;by_cases h1:e.length > 24
 .rw[if_pos h1] at h;cases h
 rw[if_neg h1] at h;by_cases I:e.length=0
 .exact⟨fun k hk=>by omega,by omega⟩
 rw[if_neg I] at h;by_cases ab:(eZ (fk s) e []).1≠0
 .rw[if_pos ab] at h;exact absurd h ab
 have ab:(eZ (fk s) e []).1=0:=by simpa using ab
 refine⟨fun k hk=>?_,by omega⟩;have rR:∀j,(eZ (fk s) (e.take j) []).1=0:=fun j=>Classical.byContradiction fun ay=>by
  have:=QE (f:=fk s) (e:=e) (k:=j) rfl ay
  rw[this] at ab;exact ay ab
 have h9:eZ (fk s) (e.take k) []=(0,(eZ (fk s) (e.take k) []).2):=Prod.ext (rR k) rfl;have aD:=yk hk h9;have aY:=rR (k+1);rw[aD] at aY;unfold stepG at aY;by_cases cV:fc e[k].op<0
 .rw[if_pos cV] at aY;cases aY
 rw[if_neg cV] at aY;by_cases dq:((eZ (fk s) (e.take k) []).2.length:Int)<fc e[k].op
 .rw[if_pos dq] at aY;cases aY
 rw[if_neg dq] at aY;by_cases dU:(fk s e[k] (eZ (fk s) (e.take k) []).2).2≠0
 .rw[if_pos dU] at aY;exact absurd aY dU
 have dU:(fk s e[k] (eZ (fk s) (e.take k) []).2).2=0:=by simpa using dU
 constructor
 .by_cases aM:x4 e[k].op=false
  .unfold fk at dU;rw[PZ aM] at dU;exact alF dU
  .have:9<=e[k].op:=by
    simp only[x4,decide_eq_false_iff_not] at aM;omega
   exact⟨by omega,by omega,by omega,by omega,by omega,by omega⟩
 .intro ba;apply Classical.byContradiction;intro ay;have gb:k=0:=by omega
  subst gb;rw[ba] at dq;simp[eZ,fc] at dq
theorem GK{e:C_ Node}{k:Int}{s:Scope}(h:asked e k s=0):sg s e:=by
 unfold asked at h;by_cases h1:(kind e s).2≠0
 .rw[if_pos h1] at h;exact absurd h h1
 .exact Zk (by simpa using h1)
structure nD(s:Scope)(a:Act):Prop where
 set:a.kind=1->0<=a.to/\∃v,s.vars[a.to.toNat]? = some v/\v.over=0
 item:a.kind=2->0<=a.to/\a.to.toNat<s.vars.length/\sg s a.index
 loc:a.kind=3->0<=a.to/\a.to.toNat<s.locals.length
 chan:a.kind=4\/a.kind=5->0<=a.to/\a.to.toNat<s.aw.length
 recv:a.kind=5->0<=a.loc/\a.loc.toNat<s.locals.length
 val:a.kind≠5->sg s a.value
 kind:1<=a.kind/\a.kind<=5
theorem Mu{l:C_ Var}{n:Int}{s:Scope}{q:Var×Int}(h:declared l n s=some q):0<=n/\l[n.toNat]? = some q.1/\n.toNat<l.length:=by
 unfold declared at h;cases ay:nth l n with
 | none=>rw[ay] at h;cases h
 | some v =>
  rw[ay] at h;simp only at h;split at h
  .injection h with h
   subst h;exact wu ay
  .cases h
theorem LK{a:Act}{s:Scope}(h:kg a s=0):nD s a:=by
 unfold kg at h;by_cases h1:a.kind=1\/a.kind=2\/a.kind=3
 .rw[if_pos h1] at h;cases a6:declared (if a.kind=3 then s.locals else s.vars) a.to s with
  | none=>rw[a6] at h;cases h
  | some q =>
   rw[a6] at h;obtain⟨v,k⟩:=q;obtain⟨d1,d2,d3⟩:=Mu a6;simp only at h;by_cases I:(v.over≠0)≠(a.kind=2)
   .rw[if_pos I] at h;cases h
   rw[if_neg I] at h;have I:(v.over≠0)=(a.kind=2):=Classical.byContradiction fun q=>I q;by_cases ab:a.kind=2/\asked a.index (1+v.over) s≠0
   .rw[if_pos ab] at h;exact absurd h ab.2
   rw[if_neg ab] at h;refine⟨fun e=>⟨d1,v,?_,?_⟩,fun e=>⟨d1,?_,?_⟩,fun e=>⟨d1,?_⟩,by omega,by omega,fun _=>GK h,by omega⟩
   .rw[if_neg (by omega)] at d2;exact d2
   .apply Classical.byContradiction;intro ay
    have:a.kind=2:=I ▸ ay
    omega
   .rw[if_neg (by omega)] at d3;exact d3
   .exact GK (Classical.byContradiction fun ay=>ab ⟨e,ay⟩)
   .rw[if_pos e] at d3;exact d3
 .rw[if_neg h1] at h;by_cases I:a.kind=4\/a.kind=5
  .rw[if_pos I] at h;cases ah:channel a.to s with
   | none=>rw[ah] at h;cases h
   | some k =>
    rw[ah] at h;simp only at h;have vE:0<=a.to/\a.to.toNat<s.aw.length:=by
     unfold channel at ah;cases ay:nth s.aw a.to with
     | none=>rw[ay] at ah;cases ah
     | some c=>exact⟨(wu ay).1,(wu ay).2.2⟩
    refine⟨by omega,by omega,by omega,fun _=>vE,fun e=>?_,fun e=>?_,by omega⟩
    .rw[if_pos e] at h;unfold Fx at h;cases a6:declared s.locals a.loc s with
     | none=>rw[a6] at h;cases h
     | some q =>
      obtain⟨d1,d2,d3⟩:=Mu a6;exact⟨d1,d3⟩
    .rw[if_neg e] at h;exact GK h
  .rw[if_neg I] at h;cases h
structure wR(s:Scope)(c:dI):Prop where
 guard:sg s c.guard
 act:∀k (h:k<c.bY.length),nD s c.bY[k]
 gU:c.bY.length<=6
theorem Uq{s:Scope}:∀(l:C_ Act) (i:Nat) (t:Bool),(kC s l i t).2=0->∀k (h:k<l.length),nD s l[k]
 | [],_,_,_,k,h=>by simp at h
 | a :: r,i,t,h,k,hk=>by
  unfold kC at h;by_cases h1:(hX a&&t)=true
  .rw[if_pos h1] at h;cases h
  rw[if_neg h1] at h;by_cases I:kg a s≠0
  .rw[if_pos I] at h;exact absurd h I
  rw[if_neg I] at h;cases k with
  | zero=>exact LK (by simpa using I)
  | succ k=>exact Uq r _ _ h k (by simpa using hk)
theorem aeO{c:dI}{b8:Int}{s:Scope}(h:(jg c b8 s).2=0):wR s c:=by
 unfold jg at h;by_cases h1:head c b8≠0
 .rw[if_pos h1] at h;exact absurd h h1
 rw[if_neg h1] at h;by_cases I:c.guard.length > 0/\asked c.guard 1 s≠0
 .rw[if_pos I] at h;exact absurd h I.2
 rw[if_neg I] at h;refine⟨?_,Uq _ _ _ h,?_⟩
 .by_cases aK:c.guard.length > 0
  .exact GK (Classical.byContradiction fun ay=>I ⟨aK,ay⟩)
  .exact⟨fun k hk=>by omega,by omega⟩
 .apply Classical.byContradiction;intro ay;apply h1;unfold head;by_cases cV:isName c.name=false
  .rw[if_pos cV];decide
  rw[if_neg cV];by_cases dq:c.from_<0\/b8<=c.from_\/c.to<0\/b8<=c.to
  .rw[if_pos dq];decide
  rw[if_neg dq,if_pos (by omega)];decide
theorem Mf{m:Model}(h:(check m).cA=0):(me m).cA=0:=by
 unfold check at h;by_cases a6:(data m).cA≠0
 .rw[if_pos a6] at h;exact absurd h a6
 rw[if_neg a6] at h;apply Classical.byContradiction;intro ar;rw[if_pos ar] at h;exact ar h
theorem aeR{m:Model}(h:(check m).cA=0){p k:Nat}(ar:p<m.procs.length)(hk:k<m.procs[p].cL.length):wR (inner m.procs[p] (ey m)) m.procs[p].cL[k]:=by
 obtain⟨dZ,_,_⟩:=Kq (Mf h);obtain⟨_,cC,_,_⟩:=Bd ar (dZ p ar);obtain⟨_,_,hI⟩:=Qa cC;have e:hi m (p:Int)=inner m.procs[p] (ey m):=by
  unfold hi;rw[ja (by omega) (by omega)];rfl
 have aY:=(GY _ _ hI k hk).1;rw[e] at aY;exact aeO aY
theorem xy{L:C_ (C_ Int)}{B:C_ (C_ dN)}(h:L.map List.length=B.map List.length):L.flatten.length=total B:=by
 rw[List.length_flatten,h];rfl
def pre(AO:C_ Int)(d:Nat):C_ Int:=AO.take d++List.replicate (AO.length - d) 0
theorem Cu{AO:C_ Int}{d:Nat}{x:Int}(h:AO[d]? = some x):AO.take (d+1)=AO.take d++[x]:=by
 obtain⟨a6,rfl⟩:=List.getElem?_eq_some_iff.1 h;exact List.take_succ_eq_append_getElem a6
theorem ad1{m:Model}{i:Nat}(h:i<m.aw.length):cq m (i+1)=cq m i+(1+m.aw[i].cap.toNat):=by
 have bd:i<(dr m).length:=by simpa[dr] using h
 unfold cq;rw[FP bd];simp[dr,vj];omega
theorem ad2(m:Model):cq m 0=total (cO m):=by simp[cq,total]
theorem Zv(s w:Int):∀(l:C_ dN) (k j:Nat) (h:j<l.length),(ft s w l k)[j]? = some ⟨s,w,(k+j:Nat),l[j].aO,l[j].U,l[j].kind⟩
 | [],_,_,h=>by simp at h
 | b :: l,k,0,_=>by simp[ft]
 | b :: l,k,j+1,h=>by
  simp only[ft,List.getElem?_cons_succ,List.getElem_cons_succ];rw[Zv s w l (k+1) j (by simpa using h),show k+1+j=k+(j+1) from by omega]
theorem Mb(s:Int):∀(ls:C_ (C_ dN)) (i w k:Nat) (hw:w<ls.length) (hk:k<ls[w].length),(cellsOf s ls i)[total (ls.take w)+k]? = some ⟨s,(i+w:Nat),k,ls[w][k].aO,ls[w][k].U,ls[w][k].kind⟩
 | [],_,_,_,hw,_=>by simp at hw
 | l :: r,i,0,k,_,hk=>by
  simp only[List.take_zero,total,List.map_nil,List.sum_nil,Nat.zero_add,List.getElem_cons_zero,cellsOf] at hk ⊢;rw[List.getElem?_append_left (by rw[uw];exact hk),Zv s i l 0 k hk];simp
 | l :: r,i,w+1,k,hw,hk=>by
  simp only[List.take_succ_cons,FO,List.getElem_cons_succ,cellsOf] at hk ⊢;rw[List.getElem?_append_right (by rw[uw];omega),uw,show l.length+total (r.take w)+k - l.length=total (r.take w)+k from by omega,Mb s r (i+1) w k (by simpa using hw) hk,show i+1+w=i+(w+1) from by omega]
theorem Zz{m:Model}{k p:Nat}(hk:k<(insts m).length)(ar:p<m.procs.length)(ak:lN m (insts m)[k]=uF m.scalars m.procs[p]):∃h:dj m k<(bX m).length,(bX m)[dj m k].aO=0/\(bX m)[dj m k].U=m.procs[p].b8 - 1:=by
 have hw:k<(fq m).length:=by simpa[fq] using hk
 have e:(fq m)[k]=uF m.scalars m.procs[p]:=by simp[fq,ak]
 have af:0<(fq m)[k].length:=by rw[e,zX];omega
 have h1:=Mb 3 (fq m) 0 k 0 hw af;have I:=alA (m:=m) (c:=dj m k) (by unfold dj;omega);rw[show dj m k - (total (cO m)+total (dr m))=total ((fq m).take k)+0 from by unfold dj;omega,h1] at I;obtain⟨ab,aD⟩:=List.getElem?_eq_some_iff.1 I;refine⟨ab,?_,?_⟩
 .rw[aD];simp only[e];rfl
 .rw[aD];simp only[e];rfl
theorem Fits.loc{m:Model}{s:C_ Int}(h:Fits m s){k p:Nat}(hk:k<(insts m).length)(ar:p<m.procs.length)(ak:lN m (insts m)[k]=uF m.scalars m.procs[p]):∃d:Nat,s[dj m k]? = some (d:Int)/\(d:Int)<m.procs[p].b8:=by
 obtain⟨h1,I,ab⟩:=Zz hk ar ak;have an:dj m k<s.length:=by rw[h.len];exact h1
 have aD:=h.cell _ an h1;rw[I,ab] at aD;refine⟨s[dj m k].toNat,?_,by omega⟩;rw[List.getElem?_eq_getElem an,Int.toNat_of_nonneg aD.1]
theorem UD(m:Model)(s:C_ Int)(p l:Int)(k:Nat):rv m s p l (k+1)=rv m s p l k+if ((insts m)[k]?.map (·.proc))=some p/\s[dj m k]? = some l then 1 else 0:=by
 unfold rv;rw[List.range_succ,List.filter_append,List.length_append,List.filter_cons,List.filter_nil];by_cases h:((insts m)[k]?.map (·.proc))=some p/\s[dj m k]? = some l
 .rw[decide_eq_true h,if_pos rfl,if_pos h];rfl
 .rw[decide_eq_false h,if_neg (by simp),if_neg h];rfl
theorem vc(m:Model)(s:C_ Int)(p:Nat)(n:Int)(k:Nat):(iQ m s p n k).length=n.toNat:=by simp[iQ]
theorem Dc{m:Model}{s:C_ Int}{p:Nat}{n:Int}{k d:Nat}(h:d<n.toNat):(iQ m s p n k)[d]? = some ((rv m s p d k:Nat):Int):=by
 simp[iQ,h]
theorem UG(m:Model)(s:C_ Int)(p:Nat)(n:Int):iQ m s p n 0=List.replicate n.toNat 0:=by
 apply List.ext_getElem?;intro i;by_cases h:i<n.toNat
 .rw[Dc h];simp[rv,h]
 .rw[List.getElem?_eq_none (by rw[vc];omega),List.getElem?_eq_none (by simp;omega)]
theorem UE{m:Model}{s:C_ Int}{p:Nat}{n:Int}{k:Nat}(h:(insts m)[k]?.map (·.proc)≠some (p:Int)):iQ m s p n (k+1)=iQ m s p n k:=by
 unfold iQ;apply List.map_congr_left;intro l _;rw[UD,if_neg (fun e=>h e.1),Nat.add_zero]
theorem UF{m:Model}{s:C_ Int}{p:Nat}{n:Int}{k d:Nat}(h:(insts m)[k]?.map (·.proc)=some (p:Int))(an:s[dj m k]? = some (d:Int))(a6:d<n.toNat):iQ m s p n (k+1)=(iQ m s p n k).set d ((rv m s p d k:Nat)+1:Int):=by
 apply List.ext_getElem?;intro i;rw[List.getElem?_set];by_cases U:i<n.toNat
 .rw[Dc U,UD];by_cases N6:d=i
  .subst N6;rw[if_pos ⟨h,an⟩,if_pos rfl,if_pos (by rw[vc];exact a6)];rfl
  .rw[if_neg (fun e=>N6 (by have aI:=e.2;rw[an] at aI;have ba:=Option.some.inj aI;omega)),if_neg N6,Dc U,Nat.add_zero]
 .rw[List.getElem?_eq_none (by rw[vc];omega),if_neg (by omega),List.getElem?_eq_none (by rw[vc];omega)]
theorem GL(m:Model)(s:C_ Int)(p l:Int)(k:Nat):rv m s p l k<=k:=by
 unfold rv;refine Nat.le_trans (List.length_filter_le _ _) ?_;simp
theorem YS{m:Model}:∀(l:C_ dz) (i:Nat),l=m.procs.drop i->∀x∈jD m l i,∃(p:Nat) (h:p<m.procs.length),x.proc=p/\(m.procs[p].over≠0->1<=x.elem)
 | [],_,_,x,ag=>by simp[jD] at ag
 | p :: r,i,h,x,ag=>by
  have U:i<m.procs.length:=by
   apply Classical.byContradiction;intro ay;rw[List.drop_eq_nil_of_le (by omega)] at h;cases h
  rw[List.drop_eq_getElem_cons U] at h;injection h with h1 I
  simp only[jD,List.mem_append] at ag;rcases ag with (ag | ag) | ag
  .unfold jb at ag;split at ag
   .rename_i af;rw[List.mem_singleton] at ag;subst ag;exact⟨i,U,rfl,fun ay=>absurd (h1 ▸ af) ay⟩
   .cases ag
  .unfold jF at ag;obtain⟨k,_,rfl⟩:=List.mem_map.1 ag;exact⟨i,U,rfl,fun _=>by simp only;omega⟩
  .exact YS r (i+1) I x ag
structure fI(m:Model)(q p:Nat):Prop where
 au:q<(insts m).length
 ar:p<m.procs.length
 eq:(insts m)[q].proc=p
 elem:m.procs[p].over≠0->1<=(insts m)[q].elem
 fC:0<=(insts m)[q].elem/\(insts m)[q].elem<=4
theorem BY{m:Model}{q:Nat}(h:q<(insts m).length):∃p,fI m q p:=by
 obtain⟨p,ar,e,h1⟩:=YS m.procs 0 (by simp) _ (List.getElem_mem h);exact⟨p,h,ar,e,h1,(rW _ (List.getElem_mem h)).elem⟩
theorem fI.nth{m:Model}{q p:Nat}(h:fI m q p):o.nth m.procs ((insts m)[q]'(h.au)).proc=some (m.procs[p]'(h.ar)):=by
 rw[h.eq,ja (by omega) (by have:=h.ar;omega)];rfl
theorem fI.UP{m:Model}{q p:Nat}(h:fI m q p):lN m ((insts m)[q]'(h.au))=uF m.scalars (m.procs[p]'(h.ar)):=by
 unfold lN;rw[h.nth]
theorem fI.room{m:Model}{q p:Nat}(h:fI m q p):dj m q+(1+(m.procs[p]'(h.ar)).vars.length)<=dW m:=by
 have:=Pf h.au
 rw[h.UP,zX] at this;exact this
theorem Dz{m:Model}{q:Nat}(h:q<(insts m).length):Hz m q=((insts m)[q]'h).elem.toNat:=by
 unfold Hz;rw[List.getElem?_eq_getElem h]
theorem s7{m:Model}{v:Nat}(h:v<m.vars.length):qc m v=(cells m.vars[v] m.scalars).toNat:=by
 unfold qc;rw[List.getElem?_eq_getElem h]
theorem o6{m:Model}{c:Nat}(h:c<m.aw.length):gN m c=m.aw[c].cap.toNat:=by
 unfold gN;rw[List.getElem?_eq_getElem h]
theorem Rh{m:Model}(a1:eL m){v:Nat}(h:v<m.vars.length):gG m v+qc m v<=64:=by
 have:=tz h
 rw[s7 h]
 have:=nR m
 have:dW m<=64:=kt a1
 omega
theorem A3{m:Model}(a1:eL m){c:Nat}(h:c<m.aw.length):cq m c+(1+gN m c)<=64:=by
 have:=tL h
 rw[o6 h]
 have:=nR m
 have:dW m<=64:=kt a1
 omega
theorem EN{m:Model}(a1:eL m){q:Nat}(h:q<(insts m).length):dj m q+1<=64:=by
 obtain⟨p,ar⟩:=BY h
 have:=ar.room
 have:dW m<=64:=kt a1
 omega
theorem fI.KC{m:Model}(a1:eL m){q p:Nat}(h:fI m q p):dj m q+(1+(m.procs[p]'(h.ar)).vars.length)<=64:=by
 have:=h.room
 have:dW m<=64:=kt a1
 omega
structure fx(n:Nat)(l:List Int):Prop where
 aO:∀x∈l,0<=x/\x<80
 len:l.length<=n
theorem fx.row{a n k:Nat}(h:a+n<=80)(ay:n<=k):fx k (gr a n):=⟨fun x ag=>by have:=oN.1 ag;omega,by rw[aoU];exact ay⟩
theorem fx.nil(n:Nat):fx n []:=⟨fun x ag=>(by cases ag),Nat.zero_le _⟩
theorem fx.app{a b n:Nat}{l r:C_ Int}(h:fx a l)(k:fx b r)(ay:a+b<=n):fx n (l++r):=⟨fun x ag=>by
 rcases List.mem_append.1 ag with ag | ag
 .exact h.aO x ag
 .exact k.aO x ag,by rw[List.length_append];have:=h.len;have:=k.len;omega⟩
theorem fx.mono{a n:Nat}{l:C_ Int}(h:fx a l)(ay:a<=n):fx n l:=⟨h.aO,Nat.le_trans h.len ay⟩
theorem Y5{m:Model}(a1:eL m){q v:Nat}(au:q<(insts m).length)(aG:v<m.vars.length)(own:Bool):fx 64 (pq m q v own):=by
 have:=Rh a1 aG
 have aD:=(rW _ (List.getElem_mem au)).elem
 have:=Dz au
 unfold pq;cases own
 .exact fx.row (by omega) (by omega)
 .exact fx.row (by omega) (by omega)
theorem UC{m:Model}(a1:eL m)(p:Int):∀n,n<=(insts m).length->fx n (oy m p n)
 | 0,_=>fx.nil _
 | n+1,h=>by
  rw[Db (by omega)]
  have:=EN a1 (q:=n) (by omega)
  refine fx.app (UC a1 p n (by omega)) (b:=1) ?_ (Nat.le_refl _);split
  .exact fx.row (by omega) (Nat.le_refl _)
  .exact fx.nil _
theorem zG{m:Model}(a1:eL m):(insts m).length<=30:=by have:=uo m;have:=a1.procs;omega
theorem amw{m:Model}(a1:eL m){q p:Nat}(h:fI m q p){x:Node}(ag:AD (inner (m.procs[p]'(h.ar)) (ey m)) x)(own:Bool):fx 64 (gi m q own x):=by
 unfold gi;by_cases I:x.op=2
 .rw[if_pos I];obtain⟨_,v,aG,_⟩:=ag.var I;have fa:x.n.toNat<m.vars.length:=(List.getElem?_eq_some_iff.1 aG).1
  have:=tz fa
  have:=nR m
  have:dW m<=64:=kt a1
  exact fx.row (by omega) (by omega)
 rw[if_neg I];by_cases ab:x.op=3
 .rw[if_pos ab];exact Y5 a1 h.au (ag.item ab).2 own
 rw[if_neg ab];by_cases aD:x.op=4
 .rw[if_pos aD];have aY:x.n.toNat<(m.procs[p]'(h.ar)).vars.length:=(ag.loc aD).2
  have:=h.KC a1
  exact fx.row (by omega) (by omega)
 rw[if_neg aD];by_cases bx:x.op=6
 .rw[if_pos bx]
  have:=A3 a1 (ag.len bx).2
  exact fx.row (by omega) (by omega)
 rw[if_neg bx];by_cases b1:x.op=7
 .rw[if_pos b1];exact(UC a1 _ _ (Nat.le_refl _)).mono (by have:=zG a1;omega)
 .rw[if_neg b1];exact fx.nil _
theorem V4{m:Model}(a1:eL m){q p:Nat}(h:fI m q p){e:C_ Node}(he:sg (inner (m.procs[p]'(h.ar)) (ey m)) e):∀n,n<=e.length->fx (64*n) (rE m q e n)
 | 0,_=>fx.nil _
 | n+1,ay=>by
  rw[V3 (by omega)];exact fx.app (V4 a1 h he n (by omega)) (amw a1 h (he.node n (by omega)).1 _) (by omega)
theorem MK{m:Model}(a1:eL m){q p:Nat}(h:fI m q p){e:C_ Node}(he:sg (inner (m.procs[p]'(h.ar)) (ey m)) e){n:Nat}(ay:n<=e.length):fx 1536 (rE m q e n) :=
 (V4 a1 h he n ay).mono (by have:=he.len;omega)
theorem Md{m:Model}(a1:eL m){c:Nat}(h:c<m.aw.length):fx 64 (xj m c):=by
 have:=A3 a1 h
 exact fx.row (by omega) (by omega)
theorem ac4{m:Model}(a1:eL m){q p:Nat}(h:fI m q p){a:Act}(aV:nD (inner (m.procs[p]'(h.ar)) (ey m)) a):fx 3072 (u9 m q a):=by
 unfold u9;by_cases aY:a.kind=5
 .rw[if_pos aY];exact(Md a1 (aV.chan (.inr aY)).2).mono (by omega)
 .rw[if_neg aY];refine fx.app (a:=1536) ?_ (MK a1 h (aV.val aY) (Nat.le_refl _)) (by omega);by_cases I:a.kind=2
  .rw[if_pos I];exact MK a1 h (aV.item I).2.2 (Nat.le_refl _)
  rw[if_neg I];by_cases aD:a.kind=4
  .rw[if_pos aD]
   have:=A3 a1 (aV.chan (.inl aD)).2
   exact fx.row (by omega) (by omega)
  .rw[if_neg aD];exact fx.nil _
theorem ac5{m:Model}(a1:eL m){q p:Nat}(h:fI m q p){a:Act}(aV:nD (inner (m.procs[p]'(h.ar)) (ey m)) a):fx 80 (nP m q a):=by
 have mz:=h.KC a1;unfold nP;by_cases h1:a.kind=1
 .rw[if_pos h1];obtain⟨_,v,aG,_⟩:=aV.set h1;have fa:a.to.toNat<m.vars.length:=(List.getElem?_eq_some_iff.1 aG).1
  have:=Rh a1 fa
  exact fx.row (by omega) (by omega)
 rw[if_neg h1];by_cases I:a.kind=2
 .rw[if_pos I];exact(Y5 a1 h.au (aV.item I).2.1 _).mono (by omega)
 rw[if_neg I];by_cases ab:a.kind=3
 .rw[if_pos ab];have aY:a.to.toNat<(m.procs[p]'(h.ar)).vars.length:=(aV.loc ab).2;exact fx.row (by omega) (by omega)
 rw[if_neg ab];by_cases aD:a.kind=4
 .rw[if_pos aD];exact(Md a1 (aV.chan (.inl aD)).2).mono (by omega)
 rw[if_neg aD];by_cases aY:a.kind=5
 .rw[if_pos aY];have bx:a.loc.toNat<(m.procs[p]'(h.ar)).vars.length:=(aV.recv aY).2;exact fx.app (Md a1 (aV.chan (.inr aY)).2) (fx.row (k:=1) (by omega) (by omega)) (by omega)
 .rw[if_neg aY];exact fx.nil _
theorem ahg{m:Model}(a1:eL m){q p:Nat}(h:fI m q p){c:dI}(ah:wR (inner (m.procs[p]'(h.ar)) (ey m)) c):fx 1537 (H5 m q c):=by
 have:=EN a1 h.au
 exact fx.app (fx.row (k:=1) (by omega) (by omega)) (MK a1 h ah.guard (Nat.le_refl _)) (by omega)
theorem aaQ{m:Model}(a1:eL m){q p:Nat}(h:fI m q p){c:dI}(ah:wR (inner (m.procs[p]'(h.ar)) (ey m)) c):∀n,n<=c.bY.length->fx (1537+3072*n) (q4 m q c n)
 | 0,_=>by
  unfold q4;simpa using ahg a1 h ah
 | n+1,ay=>by
  rw[aaP (by omega)];exact fx.app (aaQ a1 h ah n (by omega)) (ac4 a1 h (ah.act n (by omega))) (by omega)
theorem acm{m:Model}(a1:eL m){q p:Nat}(h:fI m q p){c:dI}(ah:wR (inner (m.procs[p]'(h.ar)) (ey m)) c):∀n,n<=c.bY.length->fx (1+80*n) (nB m q c n)
 | 0,_=>by
  have:=EN a1 h.au
  unfold nB;simpa using fx.row (a:=dj m q) (n:=1) (k:=1) (by omega) (by omega)
 | n+1,ay=>by
  rw[ack (by omega)];exact fx.app (acm a1 h ah n (by omega)) (ac5 a1 h (ah.act n (by omega))) (by omega)
theorem apr{a:Act}(h:a.index.length=1):r8 a=decide ((a.index[0]'(by omega)).op=5):=by
 obtain⟨x,ag⟩:=List.length_eq_one_iff.1 h;unfold r8;simp[ag]
theorem apq{a:Act}(h:¬a.index.length=1):r8 a=false:=by
 unfold r8;split
 .rename_i x ag;rw[ag] at h;exact absurd rfl h
 .rfl
theorem aaz(L:C_ Int)(a n:Nat):L++gr a (n+1)=L++gr a n++[((a+n:Nat):Int)]:=by rw[aoV,List.append_assoc]
end o
namespace Go.Proofs.R
open Go Go.RowKit bb
structure oZ(w:World)(b:Nat)(m:o.Model)(q:Nat):Prop where
 ex:∃cs ys bM,w.heap[b]? = some (.cells (cs++ys++[bM,.int .i64 q]).toArray T.kD)/\o.dV w cs m/\o.jN w ys (o.layout m)/\ke w bM (o.insts m)
theorem oZ.ext{w w':A_}{b q:Nat}{m:o.Model}(he:Ext w w')(h:oZ w b m q):oZ w' b m q :=
 let ⟨xs,cs,bM,af,h1,I,ab⟩:=h.ex; ⟨xs,cs,bM,he.obj af,h1.ext he,I.ext he,ab.ext Flat.ext he⟩
theorem oZ.form{w:A_}{b q:Nat}{m:o.Model}(h:oZ w b m q):∃cd bw bO c1 bV c2 b2 br cj bF ff d0 dZ d1 eK d2 e5 d3 fu d4 cx ci,
  w.heap[b]? = some (.cells #[.slice ff m.scalars.length d0,.slice dZ m.vars.length d1,.slice eK m.aw.length d2,.slice e5 m.procs.length d3,.slice fu m.props.length d4,
   .slice cd (o.layout m).vars.length bw,.slice bO (o.layout m).aw.length c1,.slice bV (o.layout m).insts.length c2,.int .i64 (o.layout m).cells,.slice b2 (o.layout m).aO.length br,.slice cj (o.layout m).U.length bF,.slice cx (o.insts m).length ci,.int .i64 q] T.kD) /\
  bh 1 (Flat cR) w (.slice cd (o.layout m).vars.length bw) (o.layout m).vars/\bh 1 (Flat cR) w (.slice bO (o.layout m).aw.length c1) (o.layout m).aw/\bh 1 (Flat cR) w (.slice bV (o.layout m).insts.length c2) (o.layout m).insts /\
  o.h2 w (.slice ff m.scalars.length d0) m.scalars/\o.hP w (.slice dZ m.vars.length d1) m.vars/\o.mS w (.slice eK m.aw.length d2) m.aw/\o.qp w (.slice e5 m.procs.length d3) m.procs /\
  ke w (.slice cx (o.insts m).length ci) (o.insts m):=by
 obtain⟨cs,xs,bM,ak,a1,cI,a8⟩:=h.ex;obtain⟨cd,bw,bO,c1,bV,c2,b2,br,cj,bF,rfl,eF,eb,dG,fg,gq⟩:=cI.form;obtain⟨ff,d0,dZ,d1,eK,d2,e5,d3,fu,d4,rfl,af,h1,I,ab,aD,_⟩:=a1.form;obtain⟨cx,ci,rfl,_⟩:=a8.form;exact⟨cd,bw,bO,c1,bV,c2,b2,br,cj,bF,ff,d0,dZ,d1,eK,d2,e5,d3,fu,d4,cx,ci,ak,eF,eb,dG,af,h1,I,ab,a8⟩
theorem tp(b:Nat)(L:C_ Int)(a n:Nat)(x y:Int)(w:A_)(h:fi w b L)(ag:x=a)(bS:y=n)(hm:a+n<=1000000000) :
  a7 Tryz.prog F.f #[.map (some b),.int .i64 x,.int .i64 y] w fun _ w'=>fi w' b (L++o.gr a n)/\Mod (fun i=>i=b) w w':=by
 subst ag bS;refine bn E.f ?_;refine aa ?_;refine L_ 8 n [0,1,7] (fun _:Unit=>[]) () (fun k _ W=>Mod (fun i=>i=b) w W/\fi W b (L++o.gr a k)) bc bc ⟨Mod.refl _ _,by simpa[o.aa2] using h⟩ ?_;rintro k _ S w1 hk ⟨rN,fP⟩;refine aa ?_;apply I_<;>intro g1
 .refine aa ?_;refine AC7 fP fun z=>?_;refine aa ?_;refine _k ?_;refine aa ?_;refine AC8 fP (by omega) fun aH po eE=>?_;refine aa ?_;refine⟨by omega,aU,(),trivial,rN.trans (po.mod rfl),?_⟩;rw[o.aaz];exact eE
 .have kq:k=n:=by omega
  subst kq;refine aa ?_;exact⟨fP,rN⟩
theorem En(b q:Nat)(m:o.Model)(w:A_)(h:oZ w b m q)(au:q<(o.insts m).length) :
  a7 Tryz.prog F.t #[.pointer (some ⟨b,0,none⟩)] w fun v w'=>v = .int .i64 (o.dj m q)/\Ext w w':=by
 obtain⟨cd,bw,bO,c1,bV,c2,b2,br,cj,bF,ff,d0,dZ,d1,eK,d2,e5,d3,fu,d4,cx,ci,ak,eF,eb,dG,af,h1,I,ab,a8⟩:=h.form;obtain⟨U,he⟩:=o.rV au;obtain⟨a2,rfl⟩:=dG.addr;refine bn E.t ?_;refine aa ?_;intro w1 al;refine aa ?_;exact⟨by rw[he],al⟩
theorem Ri(b cK q i:Nat)(L:C_ Int)(m:o.Model)(w0 w:A_)(h:oZ w0 b m q)(he:Ext w0 w)(l5:w0.heap.size<=cK)(an:fi w cK L)(a1:o.eL m)(U:i<m.aw.length) :
  a7 Tryz.prog F.h3 #[.pointer (some ⟨b,0,none⟩),.map (some cK),.int .i64 i] w fun _ w'=>fi w' cK (L++o.xj m i)/\Mod (fun k=>k=cK) w w':=by
 obtain⟨cd,bw,bO,c1,bV,c2,b2,br,cj,bF,ff,d0,dZ,d1,eK,d2,e5,d3,fu,d4,cx,ci,ak,eF,eb,dG,af,h1,I,ab,a8⟩:=(h.ext he).form;obtain⟨kp,fl⟩:=o.vh U;have rT:=o.A3 a1 U;have eQ:=o.o6 U;have h7:=(a1.chan _ (List.getElem_mem U)).cap;have gU:=a1.gU;obtain⟨df,rfl⟩:=eb.addr;obtain⟨a2,rfl⟩:=I.addr;have eo:=(I.at i U).cells;refine bn E.h3 ?_;refine aa ?_;intro w1 al;refine aa ?_;refine J_ (tp cK L (o.cq m i) (1+o.gN m i) _ _ w1 (an.ext al) (by rw[fl]) (by omega) (by omega)) ?_;rintro _ aH ⟨eE,fA⟩;refine aa ?_;exact⟨eE,al.mod.trans fA⟩
theorem FT(b cK q i:Nat)(item own:Bool)(L:C_ Int)(m:o.Model)(w0 w:A_)(h:oZ w0 b m q)(he:Ext w0 w)(l5:w0.heap.size<=cK)(an:fi w cK L)(a1:o.eL m)(au:q<(o.insts m).length)(U:i<m.vars.length)
  (aM:item=true->own=true->1<=(o.insts m)[q].elem) :
  a7 Tryz.prog F.u #[.pointer (some ⟨b,0,none⟩),.map (some cK),.int .i64 i,.bool item,.bool own] w fun _ w'=>fi w' cK (L++o.pq m q i (item&&own))/\Mod (fun k=>k=cK) w w':=by
 obtain⟨cd,bw,bO,c1,bV,c2,b2,br,cj,bF,ff,d0,dZ,d1,eK,d2,e5,d3,fu,d4,cx,ci,ak,eF,eb,dG,af,h1,I,ab,a8⟩:=(h.ext he).form;obtain⟨fp,iG⟩:=o.Ai U;have rT:=o.Rh a1 U;have Ev:=o.s7 U;have ue:=(o.rW _ (List.getElem_mem au)).elem;have fm:=o.Dz au;have dR:=o.sH m.vars[i] m.scalars;obtain⟨a0,rfl⟩:=eF.addr;obtain⟨df,rfl⟩:=h1.addr;obtain⟨iP,rfl⟩:=a8.addr;have eo:=(h1.at i U).cells;cases item<;>cases own;rotate_left 3
 .have mC:=aM rfl rfl;refine bn E.u ?_;refine aa ?_;intro w1 al;refine aa ?_;refine J_ (tp cK L (o.gG m i+o.Hz m q - 1) 1 _ _ w1 (an.ext al) (by rw[iG];omega) rfl (by omega)) ?_;rintro _ aH ⟨eE,fA⟩;refine aa ?_;exact⟨eE,al.mod.trans fA⟩
 all_goals
  clear aM;refine bn E.u ?_;refine aa ?_;intro w1 al;refine aa ?_;refine J_ (A7 m.vars[i] _ m.scalars w1 (af.ext al)) ?_;rintro _ aH ⟨rfl,ao⟩;refine aa ?_;refine J_ (tp cK L (o.gG m i) (o.qc m i) _ _ aH ((an.ext al).ext ao) (by rw[iG]) (by omega) (by omega)) ?_;rintro _ aP ⟨gE,iW⟩;refine aa ?_;exact⟨gE,(al.mod.trans ao.mod).trans iW⟩
end Go.Proofs.R
end