/- Parts. -/
import Derived.Test.YtakmdjclehkglaaGreatDoorQauf
set_option linter.all false
set_option maxRecDepth 100000
set_option maxHeartbeats 16000000
section
namespace o
def cM(q p i:Int)(len:Nat):Nat:=if q<p then (if q+1<p then len else min len i.toNat) else 0
def hZ(p i:Int)(len:Nat):Nat:=if 4<p then min len i.toNat else 0
def va(m:Model)(p i:Int):C_ ByteArray :=
 m.scalars.map (·.name)++(m.vars.take (cM 1 p i m.vars.length)).map (·.name)++(m.aw.take (cM 2 p i m.aw.length)).map (·.name)++(m.procs.take (cM 3 p i m.procs.length)).map (·.name)++(m.props.take (hZ p i m.props.length)).map (·.name)
end o
namespace Go.Proofs.R
open Go Go.RowKit bb
theorem C9{P:D_}{v:lB}{b5:C_ ByteArray}{x:ByteArray}{b c base:Nat}{w:A_}{cW:B_->A_->Prop}{ty:F_}{t}(h:AE base w v b5)(ah:w.heap[b]? = some (.cells #[.string x] T.ad))(hm:b5.length+1<=8796093022208)(lG:base<=w.heap.size)
  (hk:∀(b9:lB) w',AE base w' b9 (b5++[x])->w.grownBy w' (KI v).ownBlock->cW (.slice b9.1 b9.2.1 b9.2.2) w'):mR P ty T.ad 1 16 (.slice v.1 v.2.1 v.2.2) (.slice (some ⟨b,0,none⟩) 1 c) w cW t:=by
 have r6:(b5.length+1)*16<=140737488355328:=by omega
 have uG:b5.length+1<=maxLen:=by unfold maxLen;omega
 refine _U (b:=16) (s:=KI v) (ys:=[x]) h (fun _=>rfl) (hA ah) rfl afz r6 uG lG fun b9 w' aM aK=>?_;obtain⟨aQ,cap,rfl,_⟩:=aM.form;exact hk (aQ,_,cap) w' aM aK
theorem C6(cs:C_ B_)(m:o.Model)(p i:Int)(w:A_)(h:o.dV w cs m)(ar:2<=p)(U:0<=i)(aF:m.scalars.length+o.cM 1 p i m.vars.length+o.cM 2 p i m.aw.length+o.cM 3 p i m.procs.length+o.hZ p i m.props.length<=8000000000000) :
  a7 Tryz.prog F.wj #[.agg cs.toArray,.int .i64 p,.int .i64 i] w fun u w'=>(∃v:lB,u = .slice v.1 v.2.1 v.2.2/\AE w.heap.size w' v (o.va m p i))/\Ext w w':=by
 obtain⟨cd,bw,bO,c1,bV,c2,b2,br,cj,bF,rfl,af,h1,I,ab,aD,eU,ek,ev,ef,ew⟩:=h.form;refine bn E.wj ?_;simp -dsimp only[cB];refine eh ?_;intro w1 bo cT al ai;have q8:j4 w w1 bo _ (none,0,0) []:=⟨al,ai,aW.nil _ _ _ _ _⟩;clear ai;refine eh ?_;simp -dsimp only[cB];refine eh ?_;refine S_ [1,2,3] (fun v:lB=>[(7,.slice v.1 v.2.1 v.2.2)]) (fun v w'=>j4 w w' bo [.slice cd m.scalars.length bw,.slice bO m.vars.length c1,.slice bV m.aw.length c2,.slice b2 m.procs.length br,.slice cj m.props.length bF] v (([]:C_ ByteArray)++(m.scalars.map (·.name)))) ?_ ?_
 .have fV:m.scalars.length<=m.scalars.length:=by exact Nat.le_refl _
  have ej:=q8.ext;have f0:=q8.h1;refine J ?_;refine L_ 8 (m.scalars.length) [1,2,3] (fun v:lB=>[(7,.slice v.1 v.2.1 v.2.2)]) ((none,0,0):lB) (fun k v w'=>j4 w w' bo [.slice cd m.scalars.length bw,.slice bO m.vars.length c1,.slice bV m.aw.length c2,.slice b2 m.procs.length br,.slice cj m.props.length bF] v (([]:C_ ByteArray)++(m.scalars.take k).map (·.name))) bc bc (q8.jc (by simp)) ?_;clear ej f0;rintro k lR S qg hk kx;have pQ:=kx.ext;have HN:=kx.h1;have fin:k=m.scalars.length->j4 w qg bo [.slice cd m.scalars.length bw,.slice bO m.vars.length c1,.slice bV m.aw.length c2,.slice b2 m.procs.length br,.slice cj m.props.length bF] lR (([]:C_ ByteArray)++(m.scalars.map (·.name))):=fun e=>kx.jc (by rw[e];simp);refine S_ [1,2,3,7,8] (fun _:Unit=>[]) (fun _ w'=>w'=qg/\k<m.scalars.length) ?_ ?_
  .refine J ?_;apply I_<;>intro g1
   .refine J ?_;exact⟨(),trivial,aU,by omega⟩
   .refine J ?_;exact⟨lR,bc,fin (by omega)⟩
  rintro _ kB _ ⟨rfl,vM⟩;have aZ:k<m.scalars.length:=by omega
  obtain⟨a,rfl⟩:=af.addr;have eo:=((af.at k aZ).cells).ext pQ;refine J ?_;intro Ak GN Ik qL ua;have mh:=kx.then qL;have z:=mh.ext.size;refine J ?_;refine C9 mh.own ua (by simp only[List.length_append,List.length_map,List.length_nil,List.length_cons,List.length_take];omega) z fun wK Cz vP vK=>?_;have wG:=(mh.grown vK vP).jc (Cu (fun x:o.Scalar=>x.name) _ _ _ aZ);refine J ?_;exact⟨vM,aU,wK,bc,wG⟩
 clear q8;rintro v1 tF aH st1;have j0:=st1.ext;have f1:=st1.h1;refine S_ [1,2,3] (fun v:lB=>[(7,.slice v.1 v.2.1 v.2.2)]) (fun v w'=>j4 w w' bo [.slice cd m.scalars.length bw,.slice bO m.vars.length c1,.slice bV m.aw.length c2,.slice b2 m.procs.length br,.slice cj m.props.length bF] v (([]++(m.scalars.map (·.name)))++((m.vars.take (o.cM 1 p i m.vars.length)).map (·.name)))) ?_ ?_
 .have fV:o.cM 1 p i m.vars.length<=m.vars.length:=by unfold o.cM; (repeat' split)<;>omega
  have ej:=st1.ext;have f0:=st1.h1;refine J ?_;refine L_ 9 (o.cM 1 p i m.vars.length) [1,2,3] (fun v:lB=>[(7,.slice v.1 v.2.1 v.2.2)]) v1 (fun k v w'=>j4 w w' bo [.slice cd m.scalars.length bw,.slice bO m.vars.length c1,.slice bV m.aw.length c2,.slice b2 m.procs.length br,.slice cj m.props.length bF] v (([]++(m.scalars.map (·.name)))++(m.vars.take k).map (·.name))) bc bc (st1.jc (by simp)) ?_;clear ej f0;rintro k lR S qg hk kx;have pQ:=kx.ext;have HN:=kx.h1;have fin:k=o.cM 1 p i m.vars.length->j4 w qg bo [.slice cd m.scalars.length bw,.slice bO m.vars.length c1,.slice bV m.aw.length c2,.slice b2 m.procs.length br,.slice cj m.props.length bF] lR (([]++(m.scalars.map (·.name)))++((m.vars.take (o.cM 1 p i m.vars.length)).map (·.name))):=fun e=>kx.jc (by rw[e]);refine S_ [1,2,3,7,9] (fun _:Unit=>[]) (fun _ w'=>w'=qg/\k<o.cM 1 p i m.vars.length) ?_ ?_
  .refine J ?_;apply I_<;>intro g1
   .refine J ?_;apply I_<;>intro g3
    .refine J ?_;exact⟨(),trivial,aU,by unfold o.cM at fV hk ⊢; (repeat' split at hk) <;> (repeat' split)<;>omega⟩
    .refine J ?_;apply I_<;>intro g4
     .refine J ?_;exact⟨(),trivial,aU,by unfold o.cM at fV hk ⊢; (repeat' split at hk) <;> (repeat' split)<;>omega⟩
     .refine J ?_;exact⟨lR,bc,fin (by unfold o.cM at fV hk ⊢; (repeat' split at hk) <;> (repeat' split)<;>omega)⟩
   .refine J ?_;exact⟨lR,bc,fin (by unfold o.cM at fV hk ⊢; (repeat' split at hk) <;> (repeat' split)<;>omega)⟩
  rintro _ kB _ ⟨rfl,vM⟩;have aZ:k<m.vars.length:=by omega
  obtain⟨a,rfl⟩:=h1.addr;have eo:=((h1.at k aZ).cells).ext pQ;refine J ?_;intro Ak GN Ik qL ua;have mh:=kx.then qL;have z:=mh.ext.size;refine J ?_;refine C9 mh.own ua (by simp only[List.length_append,List.length_map,List.length_nil,List.length_cons,List.length_take];omega) z fun wK Cz vP vK=>?_;have wG:=(mh.grown vK vP).jc (Cu (fun x:o.Var=>x.name) _ _ _ aZ);refine J ?_;exact⟨vM,aU,wK,bc,wG⟩
 clear st1;rintro v2 kB aP st2;have kX:=st2.ext;have f2:=st2.h1;refine S_ [1,2,3] (fun v:lB=>[(7,.slice v.1 v.2.1 v.2.2)]) (fun v w'=>j4 w w' bo [.slice cd m.scalars.length bw,.slice bO m.vars.length c1,.slice bV m.aw.length c2,.slice b2 m.procs.length br,.slice cj m.props.length bF] v ((([]++(m.scalars.map (·.name)))++((m.vars.take (o.cM 1 p i m.vars.length)).map (·.name)))++((m.aw.take (o.cM 2 p i m.aw.length)).map (·.name)))) ?_ ?_
 .have fV:o.cM 2 p i m.aw.length<=m.aw.length:=by unfold o.cM; (repeat' split)<;>omega
  have ej:=st2.ext;have f0:=st2.h1;refine J ?_;refine L_ 10 (o.cM 2 p i m.aw.length) [1,2,3] (fun v:lB=>[(7,.slice v.1 v.2.1 v.2.2)]) v2 (fun k v w'=>j4 w w' bo [.slice cd m.scalars.length bw,.slice bO m.vars.length c1,.slice bV m.aw.length c2,.slice b2 m.procs.length br,.slice cj m.props.length bF] v ((([]++(m.scalars.map (·.name)))++((m.vars.take (o.cM 1 p i m.vars.length)).map (·.name)))++(m.aw.take k).map (·.name))) bc bc (st2.jc (by simp)) ?_;clear ej f0;rintro k lR S qg hk kx;have pQ:=kx.ext;have HN:=kx.h1;have fin:k=o.cM 2 p i m.aw.length->j4 w qg bo [.slice cd m.scalars.length bw,.slice bO m.vars.length c1,.slice bV m.aw.length c2,.slice b2 m.procs.length br,.slice cj m.props.length bF] lR ((([]++(m.scalars.map (·.name)))++((m.vars.take (o.cM 1 p i m.vars.length)).map (·.name)))++((m.aw.take (o.cM 2 p i m.aw.length)).map (·.name))):=fun e=>kx.jc (by rw[e]);refine S_ [1,2,3,7,10] (fun _:Unit=>[]) (fun _ w'=>w'=qg/\k<o.cM 2 p i m.aw.length) ?_ ?_
  .refine J ?_;apply I_<;>intro g1
   .refine J ?_;apply I_<;>intro g2
    .refine J ?_;apply I_<;>intro g3
     .refine J ?_;exact⟨(),trivial,aU,by unfold o.cM at fV hk ⊢; (repeat' split at hk) <;> (repeat' split)<;>omega⟩
     .refine J ?_;apply I_<;>intro g4
      .refine J ?_;exact⟨(),trivial,aU,by unfold o.cM at fV hk ⊢; (repeat' split at hk) <;> (repeat' split)<;>omega⟩
      .refine J ?_;exact⟨lR,bc,fin (by unfold o.cM at fV hk ⊢; (repeat' split at hk) <;> (repeat' split)<;>omega)⟩
    .refine J ?_;exact⟨lR,bc,fin (by unfold o.cM at fV hk ⊢; (repeat' split at hk) <;> (repeat' split)<;>omega)⟩
   .refine J ?_;exact⟨lR,bc,fin (by unfold o.cM at fV hk ⊢; (repeat' split at hk) <;> (repeat' split)<;>omega)⟩
  rintro _ kB _ ⟨rfl,vM⟩;have aZ:k<m.aw.length:=by omega
  obtain⟨a,rfl⟩:=I.addr;have eo:=((I.at k aZ).cells).ext pQ;refine J ?_;intro Ak GN Ik qL ua;have mh:=kx.then qL;have z:=mh.ext.size;refine J ?_;refine C9 mh.own ua (by simp only[List.length_append,List.length_map,List.length_nil,List.length_cons,List.length_take];omega) z fun wK Cz vP vK=>?_;have wG:=(mh.grown vK vP).jc (Cu (fun x:o.dv=>x.name) _ _ _ aZ);refine J ?_;exact⟨vM,aU,wK,bc,wG⟩
 clear st2;rintro v3 GA aR lQ;have pB:=lQ.ext;have f3:=lQ.h1;refine S_ [1,2,3] (fun v:lB=>[(7,.slice v.1 v.2.1 v.2.2)]) (fun v w'=>j4 w w' bo [.slice cd m.scalars.length bw,.slice bO m.vars.length c1,.slice bV m.aw.length c2,.slice b2 m.procs.length br,.slice cj m.props.length bF] v (((([]++(m.scalars.map (·.name)))++((m.vars.take (o.cM 1 p i m.vars.length)).map (·.name)))++((m.aw.take (o.cM 2 p i m.aw.length)).map (·.name)))++((m.procs.take (o.cM 3 p i m.procs.length)).map (·.name)))) ?_ ?_
 .have fV:o.cM 3 p i m.procs.length<=m.procs.length:=by unfold o.cM; (repeat' split)<;>omega
  have ej:=lQ.ext;have f0:=lQ.h1;refine J ?_;refine L_ 11 (o.cM 3 p i m.procs.length) [1,2,3] (fun v:lB=>[(7,.slice v.1 v.2.1 v.2.2)]) v3 (fun k v w'=>j4 w w' bo [.slice cd m.scalars.length bw,.slice bO m.vars.length c1,.slice bV m.aw.length c2,.slice b2 m.procs.length br,.slice cj m.props.length bF] v (((([]++(m.scalars.map (·.name)))++((m.vars.take (o.cM 1 p i m.vars.length)).map (·.name)))++((m.aw.take (o.cM 2 p i m.aw.length)).map (·.name)))++(m.procs.take k).map (·.name))) bc bc (lQ.jc (by simp)) ?_;clear ej f0;rintro k lR S qg hk kx;have pQ:=kx.ext;have HN:=kx.h1;have fin:k=o.cM 3 p i m.procs.length->j4 w qg bo [.slice cd m.scalars.length bw,.slice bO m.vars.length c1,.slice bV m.aw.length c2,.slice b2 m.procs.length br,.slice cj m.props.length bF] lR (((([]++(m.scalars.map (·.name)))++((m.vars.take (o.cM 1 p i m.vars.length)).map (·.name)))++((m.aw.take (o.cM 2 p i m.aw.length)).map (·.name)))++((m.procs.take (o.cM 3 p i m.procs.length)).map (·.name))):=fun e=>kx.jc (by rw[e]);refine S_ [1,2,3,7,11] (fun _:Unit=>[]) (fun _ w'=>w'=qg/\k<o.cM 3 p i m.procs.length) ?_ ?_
  .refine J ?_;apply I_<;>intro g1
   .refine J ?_;apply I_<;>intro g2
    .refine J ?_;apply I_<;>intro g3
     .refine J ?_;exact⟨(),trivial,aU,by unfold o.cM at fV hk ⊢; (repeat' split at hk) <;> (repeat' split)<;>omega⟩
     .refine J ?_;apply I_<;>intro g4
      .refine J ?_;exact⟨(),trivial,aU,by unfold o.cM at fV hk ⊢; (repeat' split at hk) <;> (repeat' split)<;>omega⟩
      .refine J ?_;exact⟨lR,bc,fin (by unfold o.cM at fV hk ⊢; (repeat' split at hk) <;> (repeat' split)<;>omega)⟩
    .refine J ?_;exact⟨lR,bc,fin (by unfold o.cM at fV hk ⊢; (repeat' split at hk) <;> (repeat' split)<;>omega)⟩
   .refine J ?_;exact⟨lR,bc,fin (by unfold o.cM at fV hk ⊢; (repeat' split at hk) <;> (repeat' split)<;>omega)⟩
  rintro _ kB _ ⟨rfl,vM⟩;have aZ:k<m.procs.length:=by omega
  obtain⟨a,rfl⟩:=ab.addr;obtain⟨_,b7,ec,eo,e2,dD⟩:=ab.at k aZ;obtain⟨e4,fL,rfl,fH⟩:=e2.form;obtain⟨ob,k5,rfl,lc⟩:=dD.form;replace eo:=eo.ext pQ;refine J ?_;intro Ak GN Ik qL ua;have mh:=kx.then qL;have z:=mh.ext.size;refine J ?_;refine C9 mh.own ua (by simp only[List.length_append,List.length_map,List.length_nil,List.length_cons,List.length_take];omega) z fun wK Cz vP vK=>?_;have wG:=(mh.grown vK vP).jc (Cu (fun x:o.dz=>x.name) _ _ _ aZ);refine J ?_;exact⟨vM,aU,wK,bc,wG⟩
 clear lQ;rintro v4 pI bq kW;have oP:=kW.ext;have f4:=kW.h1;refine S_ [1,2,3] (fun v:lB=>[(7,.slice v.1 v.2.1 v.2.2)]) (fun v w'=>j4 w w' bo [.slice cd m.scalars.length bw,.slice bO m.vars.length c1,.slice bV m.aw.length c2,.slice b2 m.procs.length br,.slice cj m.props.length bF] v ((((([]++(m.scalars.map (·.name)))++((m.vars.take (o.cM 1 p i m.vars.length)).map (·.name)))++((m.aw.take (o.cM 2 p i m.aw.length)).map (·.name)))++((m.procs.take (o.cM 3 p i m.procs.length)).map (·.name)))++((m.props.take (o.hZ p i m.props.length)).map (·.name)))) ?_ ?_
 .have fV:o.hZ p i m.props.length<=m.props.length:=by unfold o.hZ; (repeat' split)<;>omega
  have ej:=kW.ext;have f0:=kW.h1;refine J ?_;refine L_ 12 (o.hZ p i m.props.length) [1,2,3] (fun v:lB=>[(7,.slice v.1 v.2.1 v.2.2)]) v4 (fun k v w'=>j4 w w' bo [.slice cd m.scalars.length bw,.slice bO m.vars.length c1,.slice bV m.aw.length c2,.slice b2 m.procs.length br,.slice cj m.props.length bF] v ((((([]++(m.scalars.map (·.name)))++((m.vars.take (o.cM 1 p i m.vars.length)).map (·.name)))++((m.aw.take (o.cM 2 p i m.aw.length)).map (·.name)))++((m.procs.take (o.cM 3 p i m.procs.length)).map (·.name)))++(m.props.take k).map (·.name))) bc bc (kW.jc (by simp)) ?_;clear ej f0;rintro k lR S qg hk kx;have pQ:=kx.ext;have HN:=kx.h1;have fin:k=o.hZ p i m.props.length->j4 w qg bo [.slice cd m.scalars.length bw,.slice bO m.vars.length c1,.slice bV m.aw.length c2,.slice b2 m.procs.length br,.slice cj m.props.length bF] lR ((((([]++(m.scalars.map (·.name)))++((m.vars.take (o.cM 1 p i m.vars.length)).map (·.name)))++((m.aw.take (o.cM 2 p i m.aw.length)).map (·.name)))++((m.procs.take (o.cM 3 p i m.procs.length)).map (·.name)))++((m.props.take (o.hZ p i m.props.length)).map (·.name))):=fun e=>kx.jc (by rw[e]);refine S_ [1,2,3,7,12] (fun _:Unit=>[]) (fun _ w'=>w'=qg/\k<o.hZ p i m.props.length) ?_ ?_
  .refine J ?_;apply I_<;>intro g1
   .refine J ?_;apply I_<;>intro g2
    .refine J ?_;apply I_<;>intro g4
     .refine J ?_;exact⟨(),trivial,aU,by unfold o.hZ at fV hk ⊢; (repeat' split at hk) <;> (repeat' split)<;>omega⟩
     .refine J ?_;exact⟨lR,bc,fin (by unfold o.hZ at fV hk ⊢; (repeat' split at hk) <;> (repeat' split)<;>omega)⟩
    .refine J ?_;exact⟨lR,bc,fin (by unfold o.hZ at fV hk ⊢; (repeat' split at hk) <;> (repeat' split)<;>omega)⟩
   .refine J ?_;exact⟨lR,bc,fin (by unfold o.hZ at fV hk ⊢; (repeat' split at hk) <;> (repeat' split)<;>omega)⟩
  rintro _ kB _ ⟨rfl,vM⟩;have aZ:k<m.props.length:=by omega
  obtain⟨a,rfl⟩:=aD.addr;obtain⟨_,gI,eo,hh⟩:=aD.at k aZ;obtain⟨Km,ce,rfl,le⟩:=hh.form;replace eo:=eo.ext pQ;refine J ?_;intro Ak GN Ik qL ua;have mh:=kx.then qL;have z:=mh.ext.size;refine J ?_;refine C9 mh.own ua (by simp only[List.length_append,List.length_map,List.length_nil,List.length_cons,List.length_take];omega) z fun wK Cz vP vK=>?_;have wG:=(mh.grown vK vP).jc (Cu (fun x:o.k0=>x.name) _ _ _ aZ);refine J ?_;exact⟨vM,aU,wK,bc,wG⟩
 clear kW;rintro v5 rp bB ie;have K9:=ie.ext;have f5:=ie.h1;refine J ?_;refine⟨⟨v5,aU,?_⟩,K9⟩
 have:=ie.own
 simp only[List.nil_append] at this;exact this
theorem D1(v:lB)(l:C_ ByteArray)(x:ByteArray)(base:Nat)(w:A_)(h:AE base w v l) :
  a7 Tryz.prog F.wk #[.slice v.1 v.2.1 v.2.2,.string x] w fun u w'=>u = .bool (decide (x∈l))/\w'=w:=by
 have an:bh 1 (Flat encS) w (.slice v.1 v.2.1 v.2.2) l:=aW.jH (enc:=encS) (fun _=>rfl) h;obtain⟨v0,v1,v2⟩:=v;obtain⟨bt,aI,ba⟩:=bh.len an;have VL:=ba;unfold maxLen at VL;dsimp only at bt aI VL an;subst bt;refine bn E.wk ?_;refine J ?_;refine L_ 5 l.length [0,1] (fun _:Unit=>[]) () (fun k _ w'=>w'=w/\∀j (aE:j<l.length),j<k->¬l[j]=x) bc bc ⟨rfl,fun j _ h=>absurd h (Nat.not_lt_zero _)⟩ ?_;rintro k _ S _ hk ⟨rfl,bA⟩;refine J ?_;apply I_<;>intro g1
 .have aZ:k<l.length:=by omega
  obtain⟨a,rfl⟩:=an.addr;refine J ?_;apply I_<;>intro g2
  .have hm:x∈l:=by rw[<-g2];exact List.getElem_mem _
   refine J ?_;exact⟨by rw[decide_eq_true hm],aU⟩
  .refine J ?_;exact⟨aZ,aU,(),trivial,aU,fun j aE gV=>by
    by_cases e:j=k
    .subst e;exact g2
    .exact bA j aE (by omega)⟩
 .have hm:¬x∈l:=fun ag=>by
   obtain⟨j,aE,e⟩:=List.mem_iff_getElem.1 ag;exact bA j aE (by omega) e
  refine J ?_;exact⟨by rw[decide_eq_false hm],aU⟩
end Go.Proofs.R
end
section
namespace Go.Proofs.R
open Go Go.RowKit bb
theorem ZE(n:Int)(w:A_):a7 Tryz.prog F.Dm #[.int .i32 n] w fun v w'=>v = .bool (o.letter n)/\w'=w:=by
 refine bn E.Dm ?_
 (repeat' first
  | (refine I_ (fun _=>?_) (fun _=>?_)<;>try (exfalso;omega))
  | (refine N_ (fun _=>?_) (fun _=>?_))
  | (refine Q_ (by omega) ?_)
  | (refine M_ (by assumption) ?_)
  | (refine _Z (by omega) ?_)
  | simp -dsimp only[c0,cB,Nat.reduceAdd,Nat.reduceEqDiff,reduceIte,reduceCtorEq,dd])
 all_goals (refine⟨?_,by first | rfl | trivial⟩;congr 1;rw[Bool.eq_iff_iff];simp[o.letter];omega)
theorem afe(n:Int)(w:A_):a7 Tryz.prog F.jh #[.int .i32 n] w fun v w'=>v = .bool (o.digit n)/\w'=w:=by
 refine bn E.jh ?_
 (repeat' first
  | (refine I_ (fun _=>?_) (fun _=>?_)<;>try (exfalso;omega))
  | (refine N_ (fun _=>?_) (fun _=>?_))
  | (refine Q_ (by omega) ?_)
  | (refine M_ (by assumption) ?_)
  | (refine _Z (by omega) ?_)
  | simp -dsimp only[c0,cB,Nat.reduceAdd,Nat.reduceEqDiff,reduceIte,reduceCtorEq,dd])
 all_goals (refine⟨?_,by first | rfl | trivial⟩;congr 1;rw[Bool.eq_iff_iff];simp[o.digit];omega)
theorem anv(n:Int)(w:A_):a7 Tryz.prog F.sx #[.int .i32 n] w fun v w'=>v = .bool (o.part n)/\w'=w:=by
 refine bn E.sx ?_;refine aN ?_;refine J_ (ZE n w) ?_;rintro _ _ ⟨rfl,rfl⟩;refine aN ?_;refine N_ (fun h1=>?_) (fun h1=>?_)
 .refine aN ?_;refine⟨?_,by first | rfl | trivial⟩;congr 1;simp[o.part,h1]
 .refine aN ?_;refine J_ (afe n _) ?_;rintro _ _ ⟨rfl,rfl⟩;refine aN ?_;refine N_ (fun I=>?_) (fun I=>?_)
  .refine aN ?_;refine⟨?_,by first | rfl | trivial⟩;congr 1;simp[o.part,I]
  .refine aN ?_;refine⟨?_,by first | rfl | trivial⟩;congr 1;simp[o.part,h1,I]
def Y8(w:A_)(b:Nat):Nat:=match w.heap[b]? with | some (.stringIter s pos)=>s.size - pos | _=>0
theorem alZ(s:ByteArray)(p:Int->Bool)(ar:∀r,128<=r->p r=false)(f:E_)(ax:okF Tryz.prog f=true)(w:A_)
  (ah:∀(r:Int) (w':A_),Ext w w'->a7 Tryz.prog f #[.int .i32 r] w' fun v bK=>v = .bool (p r)/\Ext w' bK) :
  a7 Tryz.prog F.mY #[.string s,.func (.func f) #[] #[]] w fun v w'=>v = .int .i64 (o.run p s)/\Ext w w':=by
 refine bn E.mY ?_;refine aN ?_;refine AA8 fun w1 b ak al ai6=>?_;refine aN ?_;refine Z_ (fun S w' => ∃pos,pos<=s.size/\(∀j (aE:j<s.size),j<pos->p s[j].toNat=true)/\w'.heap[b]? = some (.stringIter s pos)/\Ext w w')
  (fun _ w'=>Y8 w' b) ⟨0,Nat.zero_le _,fun _ _ h=>absurd h (Nat.not_lt_zero _),ai6,al⟩ ?_
 rintro S w' bZ ⟨pos,Yn,dA,p1,he⟩;have af:=bZ 0 rfl;have h1:=bZ 1 rfl;have dC:=bZ 8 rfl;simp only[bL,Nat.reduceAdd,Nat.reduceEqDiff,reduceIte,jT,nf] at af h1 dC;clear bZ;refine cg (i_ af (i_ h1 dC)) ?_;refine AA6 p1 (fun ch=>?_) (fun N3=>?_)
 .have a6:=o.ae7 ar s pos ch;have an:(fr w' b (.stringIter s (pos+(Utf8.decode s pos).2))).heap[b]? = some (.stringIter s (pos+(Utf8.decode s pos).2)):=Cp (cy p1);have ao:Ext w (fr w' b (.stringIter s (pos+(Utf8.decode s pos).2))):=he.fr ak _;generalize fr w' b (.stringIter s (pos+(Utf8.decode s pos).2))=aH at an ao;refine cg (i_ af (i_ h1 dC)) ?_;refine U_ (first:=[]) (cap:=[]) ax (ah _ _ ao) ?_;rintro _ aP ⟨rfl,aj⟩;refine cg (i_ af (i_ h1 dC)) ?_;refine N_ (fun ak=>?_) (fun ak=>?_)
  .refine aN ?_;rw[a6.1] at ak;have hw:=a6.2 ak;rw[hw] at an;refine⟨⟨pos+1,by omega,fun j aE asJ=>?_,aj.obj an,ao.trans aj⟩,?_⟩
   .by_cases h:j<pos
    .exact dA j aE h
    .have:j=pos:=by omega
     subst this;exact ak
   .simp only[Y8,aj.obj an,p1];omega
  .refine aN ?_;rw[a6.1] at ak;refine⟨?_,ao.trans aj⟩;rw[o.abf p s pos ch (fun j aE=>dA j (by omega) aE) ak]
 .refine cg (i_ af (i_ h1 dC)) ?_;refine⟨?_,he⟩;rw[o.aa7 p s (fun j aE=>dA j aE (by omega))]
def gB(w:A_):Prop:=e0 w ⟨G.alM,0,none⟩ (o.qZ.map Value.string)
theorem gB.ext{w w':A_}(he:Ext w w')(h:gB w):gB w':=e0.ext he h
theorem Kf(s:ByteArray)(w:A_)(aM:gB w)(an:s.size<=9223372036854775807) :
  a7 Tryz.prog F.Hc #[.string s] w fun v w'=>v = .bool (o.isName s)/\Ext w w':=by
 refine bn E.Hc ?_;refine aN ?_;refine I_ (fun af=>?_) (fun af=>?_)
 .refine aN ?_;refine⟨?_,Ext.refl w⟩;subst af;rfl
 have bA:s.size≠0:=fun h=>af (by
  cases s with | mk d =>
  have:d=#[]:=by simpa[ByteArray.size] using h
  rw[this])
 refine aN ?_;refine I_ (fun h1=>?_) (fun h1=>?_)
 .refine aN ?_;refine⟨?_,Ext.refl w⟩
  have:¬s.size<=16:=by omega
  simp[o.isName,this]
 have sP:s.size<=16:=by omega
 refine aN ?_;refine _a (s.get! 0) (by decide) (o.get?_eq s 0 (by omega)) ?_;refine aN ?_;have ak:(s.get! 0).toNat<256:=UInt8.toNat_lt _;refine _2 (IntWalk.i32_in _ (by omega)) ?_;refine aN ?_;refine J_ (ZE _ w) ?_;rintro _ _ ⟨rfl,rfl⟩;refine aN ?_;refine N_ (fun I=>?_) (fun I=>?_);rotate_left
 .refine aN ?_;refine⟨?_,Ext.refl _⟩;have MY:o.letter (o.sF s 0:Nat)=false:=I;simp[o.isName,MY]
 refine aN ?_;refine J_ (alZ s o.part o.anu F.sx (by kernel_rfl) _ fun r w' _=>(anv r w').mono fun v bK ⟨ab,aD⟩=>⟨ab,aD ▸ Ext.refl _⟩) ?_;rintro _ aH ⟨rfl,he⟩;refine aN ?_;refine I_ (fun ab=>?_) (fun ab=>?_)
 .refine aN ?_;refine⟨?_,he⟩;have zd:¬o.run o.part s=s.size:=by omega
  simp[o.isName,zd]
 have zd:o.run o.part s=s.size:=by have:=o.ao2 o.part s;omega
 have MY:o.letter (o.sF s 0:Nat)=true:=I;have Yg:o.isName s = !decide (s∈o.qZ):=by simp[o.isName,zd,MY,sP,bA]
 refine aN ?_;refine _B (aM.ext he) rfl ?_;refine aN ?_;refine Z_ (fun S w' => ∃i:Nat,i<=4/\S 27 = .int .i64 i/\(∀j (aE:j<o.qZ.length),j<i->o.qZ[j]≠s)/\Ext aH w')
  (fun S _=>(4 - intOf (S 27)).toNat) ⟨0,by omega,by refine aN ?_;rfl,fun _ _ h=>absurd h (Nat.not_lt_zero _),Ext.refl _⟩ ?_
 rintro S w' bZ ⟨i,U,oB,dA,ao⟩;have af:=bZ 0 rfl;have l3:=bZ 26 rfl;simp only[bL,Nat.reduceAdd,Nat.reduceEqDiff,reduceIte,jT,nf] at af l3;clear bZ;refine cg (i_ af (i_ l3 oB)) ?_;refine I_ (fun aD=>?_) (fun aD=>?_)
 .refine cg (i_ af (i_ l3 oB)) ?_;have ai2:i<o.qZ.length:=by simp[o.qZ];omega
  refine AA4 (.string o.qZ[i]) (by omega) (by simp[List.getElem?_map,ai2]) ?_;refine cg (i_ af (i_ l3 oB)) ?_;refine I_ (fun aY=>?_) (fun aY=>?_)
  .refine aN ?_;refine⟨?_,he.trans ao⟩;rw[Yg]
   have:s∈o.qZ:=aY ▸ List.getElem_mem _
   simp[this]
  .refine cg (i_ af (i_ l3 oB)) ?_;refine Q_ (by omega) ?_;refine cg (i_ af (i_ l3 oB)) ?_;refine⟨⟨i+1,by omega,rfl,fun j aE hF=>?_,ao⟩,by simp[intOf];omega⟩;by_cases h:j<i
   .exact dA j aE h
   .have:j=i:=by omega
    subst this;exact aY
 .refine cg (i_ af (i_ l3 oB)) ?_;refine⟨?_,he.trans ao⟩;rw[Yg]
  have:s∉o.qZ:=fun hm=>by
   obtain⟨j,aE,he⟩:=List.mem_iff_getElem.1 hm;exact dA j aE (by have:o.qZ.length=4:=rfl;omega) he
  simp[this]
end Go.Proofs.R
end
section
namespace Go.Proofs.R
open Go Go.RowKit bb
theorem ZZ(aO U:Int)(w:A_):a7 Tryz.prog F.Hr #[.int .i64 aO,.int .i64 U] w fun v w'=>v = .bool (o.narrow aO U)/\w'=w:=by
 refine bn E.Hr ?_
 (repeat' first
  | (refine I_ (fun _=>?_) (fun _=>?_)<;>try (exfalso;omega))
  | (refine N_ (fun _=>?_) (fun _=>?_))
  | (refine Q_ (by omega) ?_)
  | (refine M_ (by assumption) ?_)
  | (refine _Z (by omega) ?_)
  | simp -dsimp only[c0,cB,Nat.reduceAdd,Nat.reduceEqDiff,reduceIte,reduceCtorEq,dd])
 all_goals (refine⟨?_,by first | rfl | trivial⟩;congr 1;rw[Bool.eq_iff_iff];simp[o.narrow];omega)
theorem abq{k:Int}{l:C_ o.Scalar}(h1:1<=k)(I:k<=l.length):o.size k l=if 1<=(l[k.toNat - 1]'(by omega)).size/\(l[k.toNat - 1]'(by omega)).size<=4 then (l[k.toNat - 1]'(by omega)).size else 0:=by
 have e:(k - 1).toNat=k.toNat - 1:=by omega
 have ch:k.toNat - 1<l.length:=by omega
 simp only[o.size,e,List.getElem?_eq_getElem ch,h1,true_and]
theorem KG{k:Int}{l:C_ o.Scalar}(h:k<1\/l.length<k):o.size k l=0:=by
 unfold o.size;split
 .rename_i x ag;rw[if_neg];rintro⟨h1,_⟩
  have:=(List.getElem?_eq_some_iff.1 ag).1
  omega
 .rfl
theorem QL(k:Int)(v:B_)(l:C_ o.Scalar)(w:A_)(aF:o.h2 w v l) :
  a7 Tryz.prog F.pQ #[.int .i64 k,v] w fun v w'=>v = .tuple #[.int .i64 (o.size k l),.bool (decide (o.size k l≠0))]/\w'=w:=by
 obtain⟨aQ,cap,rfl,hlen⟩:=aF.form;refine bn E.pQ ?_;refine aN ?_;refine I_ (fun h1=>?_) (fun h1=>?_)
 .refine aN ?_;rw[KG (.inl h1)];exact⟨rfl,trivial⟩
 refine aN ?_;refine I_ (fun I=>?_) (fun I=>?_)
 .refine aN ?_;rw[KG (.inr I)];exact⟨rfl,trivial⟩
 refine aN ?_;refine Q_ (by omega) ?_;refine aN ?_;obtain⟨a,rfl⟩:=aF.addr;have ah:=(aF.at (k.toNat - 1) (by omega)).cells 1 _ rfl;refine K_ (k.toNat - 1) (by omega) (by omega) ?_;refine aN ?_;refine M_ ah ?_;rw[abq (by omega) (by omega)];generalize l[k.toNat - 1].size=z at ah;refine aN ?_;refine I_ (fun ab=>?_) (fun ab=>?_)
 .refine aN ?_;rw[if_neg (by omega)];exact⟨rfl,trivial⟩
 refine aN ?_;refine Q_ (by omega) ?_;refine aN ?_;refine K_ (k.toNat - 1) (by omega) (by omega) ?_;refine aN ?_;refine M_ ah ?_;refine aN ?_;refine I_ (fun aD=>?_) (fun aD=>?_)
 .refine aN ?_;rw[if_neg (by omega)];exact⟨rfl,trivial⟩
 refine aN ?_;refine Q_ (by omega) ?_;refine aN ?_;refine K_ (k.toNat - 1) (by omega) (by omega) ?_;refine aN ?_;refine M_ ah ?_;refine aN ?_;rw[if_pos (by omega)];refine⟨?_,by trivial⟩
 have:z≠0:=by omega
 simp[this]
theorem Q6(k:Int)(v:B_)(l:C_ o.Scalar)(w:A_)(aF:o.h2 w v l) :
  a7 Tryz.prog F.d9 #[.int .i64 k,v] w fun v w'=>v = .bool (o.there k l)/\w'=w:=by
 refine bn E.d9 ?_;refine aN ?_;refine J_ (QL k v l w aF) ?_;rintro _ _ ⟨rfl,rfl⟩;refine aN ?_;refine I_ (fun h1=>?_) (fun h1=>?_)
 .refine aN ?_;refine⟨?_,by trivial⟩;simp[o.there,h1]
 .refine aN ?_;refine⟨?_,by trivial⟩;simp[o.there,h1]
def seen(l:C_ ByteArray):C_ (ByteArray×B_):=l.map fun x=>(x,.bool true)
theorem apk(l:C_ ByteArray)(x:ByteArray):((seen l).find? (fun p=>decide (x=p.1))).map (·.2)=if x∈l then some (.bool true) else none:=by
 induction l with
 | nil=>rfl
 | cons y l eS =>
  simp only[seen,List.map_cons,List.find?_cons,List.mem_cons];by_cases h:x=y
  .simp[h]
  .simp only[h,decide_false,false_or];exact eS
set_option maxHeartbeats 2000000 in
theorem PN(n fC:Int)(ay:0<=n/\n<=9223372036854775807)(fR:Nat->ByteArray)(mo:Nat->Int)(f1 f2:E_)(c1 c2:C_ B_)(IE:okF Tryz.prog f1=true)(l6:okF Tryz.prog f2=true)(w:A_)(aM:gB w)
  (fN:∀i:Nat,i<n->o.jo (fR i))
  (cC:∀(i:Nat) (w':A_),i<n->Ext w w'->a7 Tryz.prog f1 (.int .i64 i :: c1).toArray w' fun v bK=>v = .string (fR i)/\Ext w' bK)
  (cS:∀(i:Nat) (w':A_),i<n->Ext w w'->a7 Tryz.prog f2 (.int .i64 i :: c2).toArray w' fun v bK=>v = .int .i64 (mo i)/\Ext w' bK) :
  a7 Tryz.prog F.bi #[.int .i64 n,.int .i64 fC,.func (.func f1) #[] c1.toArray,.func (.func f2) #[] c2.toArray] w
   fun v w'=>v = .tuple #[.int .i64 (o.first n.toNat (o.err fC fR mo)).1,.int .i64 (o.first n.toNat (o.err fC fR mo)).2]/\Ext w w':=by
 refine bn E.bi ?_;refine aN ?_;refine _g fun w1 b ak al rN=>?_;refine aN ?_;refine Z_ (fun S w' => ∃i:Nat,i<=n/\S 16 = .int .i64 i/\(∀j,j<i->o.err fC fR mo j=0)/\Ext w w' /\
   ∃es c,w'.heap[b]? = some (.map es c)/\iw Value.string es.toList (seen ((List.range i).map fR)))
  (fun S _=>(n - intOf (S 16)).toNat) ⟨0,by omega,by refine aN ?_;rfl,fun _ h=>absurd h (Nat.not_lt_zero _),al,_,_,rN,rfl⟩ ?_
 rintro S aH bZ ⟨i,U,nU,bA,he,es,c,hm,lK⟩;have af:=bZ 0 rfl;have h1:=bZ 1 rfl;have I:=bZ 2 rfl;have ab:=bZ 3 rfl;have kl:=bZ 10 rfl;have nh:=bZ 15 rfl;simp only[bL,Nat.reduceAdd,Nat.reduceEqDiff,reduceIte,jT,nf] at af h1 I ab kl nh;clear bZ;refine cg (i_ af (i_ h1 (i_ I (i_ ab (i_ kl (i_ nh nU)))))) ?_;refine I_ (fun ch=>?_) (fun N3=>?_);rotate_left
 .refine aN ?_;refine⟨?_,he⟩;rw[o.pa fun j aE=>bA j (by omega)]
 have stop:∀e:Int,o.err fC fR mo i=e->e≠0->o.first n.toNat (o.err fC fR mo)=((i:Int),e):=fun e h cw=>by
  rw[o.ji (by omega) bA (by rw[h];exact cw),h]
 refine cg (i_ af (i_ h1 (i_ I (i_ ab (i_ kl (i_ nh nU)))))) ?_;refine U_ (first:=[]) IE (cC i aH ch he) ?_;rintro _ aP ⟨rfl,aj⟩;refine cg (i_ af (i_ h1 (i_ I (i_ ab (i_ kl (i_ nh nU)))))) ?_;refine I_ (fun aV=>?_) (fun aV=>?_)
 .refine cg (i_ af (i_ h1 (i_ I (i_ ab (i_ kl (i_ nh nU)))))) ?_;refine I_ (fun h=>absurd h (by decide)) (fun _=>?_);refine aN ?_;rw[stop 11 (by simp[o.err,aV]) (by decide)];exact⟨rfl,he.trans aj⟩
 refine cg (i_ af (i_ h1 (i_ I (i_ ab (i_ kl (i_ nh nU)))))) ?_;refine J_ (Kf (fR i) aP (aM.ext (he.trans aj)) (fN i ch)) ?_;rintro _ aR ⟨rfl,aA⟩;refine cg (i_ af (i_ h1 (i_ I (i_ ab (i_ kl (i_ nh nU)))))) ?_;refine N_ (fun BP=>?_) (fun BP=>?_);rotate_left
 .refine cg (i_ af (i_ h1 (i_ I (i_ ab (i_ kl (i_ nh nU)))))) ?_;refine I_ (fun h=>absurd h (by decide)) (fun _=>?_);refine aN ?_;rw[stop 6 (by simp[o.err,aV,BP]) (by decide)];exact⟨rfl,(he.trans aj).trans aA⟩
 refine cg (i_ af (i_ h1 (i_ I (i_ ab (i_ kl (i_ nh nU)))))) ?_;have jB:aR.heap[b]? = some (.map es c):=aA.obj (aj.obj hm);obtain⟨r,mE,jV⟩:=y8 KE (fR i) es.toList _ 0 lK;rw[apk] at jV;refine _l (.inr ⟨b,c,rfl,jB⟩) mE ?_;have xT:fR i∈(List.range i).map fR↔∃j,j<i/\fR j=fR i:=by simp
 by_cases e9:∃j,j<i/\fR j=fR i
 .rw[if_pos (xT.2 e9)] at jV;have aG:mK (.bool false) false r = .bool true:=by simp[mK,jV]
  rw[aG];refine cg (i_ af (i_ h1 (i_ I (i_ ab (i_ kl (i_ nh nU)))))) ?_;refine I_ (fun h=>absurd h (by decide)) (fun _=>?_);refine aN ?_;rw[stop 7 (by simp[o.err,aV,BP,e9]) (by decide)];exact⟨rfl,(he.trans aj).trans aA⟩
 rw[if_neg (fun h=>e9 (xT.1 h))] at jV;have BR:r=none:=by cases r<;>simp at jV ⊢
 subst BR;have aG:mK (.bool false) false none = .bool false:=rfl;rw[aG];refine cg (i_ af (i_ h1 (i_ I (i_ ab (i_ kl (i_ nh nU)))))) ?_;refine U_ (first:=[]) l6 (cS i aR ch ((he.trans aj).trans aA)) ?_;rintro _ bq ⟨rfl,aJ⟩;have hq:o.err fC fR mo i=mo i:=by simp[o.err,aV,BP,e9]
 refine cg (i_ af (i_ h1 (i_ I (i_ ab (i_ kl (i_ nh nU)))))) ?_;refine I_ (fun h=>?_) (fun h=>?_);rotate_left
 .refine aN ?_;rw[stop (mo i) hq h];exact⟨rfl,((he.trans aj).trans aA).trans aJ⟩
 refine cg (i_ af (i_ h1 (i_ I (i_ ab (i_ kl (i_ nh nU)))))) ?_;have lh:=aJ.obj jB;refine _r lh mE ?_;have an:(fr bq b (rZ es c (.string (fR i)) (.bool true) none)).heap[b]? = some (rZ es c (.string (fR i)) (.bool true) none):=Cp (cy lh);have aT:Ext w (fr bq b (rZ es c (.string (fR i)) (.bool true) none)):=(((he.trans aj).trans aA).trans aJ).fr ak _;generalize fr bq b (rZ es c (.string (fR i)) (.bool true) none)=bB at an aT;refine cg (i_ af (i_ h1 (i_ I (i_ ab (i_ kl (i_ nh nU)))))) ?_;refine Q_ (by omega) ?_;refine cg (i_ af (i_ h1 (i_ I (i_ ab (i_ kl (i_ nh nU)))))) ?_;refine⟨⟨i+1,by omega,rfl,fun j aE=>?_,aT,_,_,an,?_⟩,by simp[intOf];omega⟩
 .by_cases bd:j<i
  .exact bA j bd
  .have:j=i:=by omega
   subst this;rw[hq,h]
 .have:=iw.push lK (fR i) (.bool true) c
  simpa[seen,List.range_succ] using this
end Go.Proofs.R
end
section
namespace Go.Proofs.R
open Go Go.RowKit bb
theorem r2{α:Type}(f:α->ByteArray)(l:C_ α)(i:Nat)(h:i<l.length):o.nameAt f l i=f l[i]:=by simp[o.nameAt,h]
theorem apc(i:Nat)(b:Nat)(v:B_)(l:C_ o.Scalar)(w:A_)(aF:o.h2 w v l)(ak:w.cell? ⟨b,0,none⟩=some v)(U:i<l.length) :
  a7 Tryz.prog F.AY #[.int .i64 i,.pointer (some ⟨b,0,none⟩)] w fun v w'=>v = .string (o.nameAt (·.name) l i)/\Ext w w':=by
 obtain⟨aQ,cap,rfl,hlen⟩:=aF.form;refine bn E.AY ?_;refine aN ?_;refine M_ ak ?_;refine aN ?_;obtain⟨a,rfl⟩:=aF.addr;have ah:=(aF.at i U).cells 0 _ rfl;refine K_ i rfl U ?_;refine aN ?_;refine M_ ah ?_;refine aN ?_;rw[r2 _ _ _ U];exact⟨rfl,Ext.refl w⟩
theorem apd(i:Nat)(b:Nat)(v:B_)(l:C_ o.Scalar)(w:A_)(aF:o.h2 w v l)(ak:w.cell? ⟨b,0,none⟩=some v)(U:i<l.length) :
  a7 Tryz.prog F.Di #[.int .i64 i,.pointer (some ⟨b,0,none⟩)] w fun v w'=>v = .int .i64 (o.uI l i)/\Ext w w':=by
 obtain⟨aQ,cap,rfl,hlen⟩:=aF.form;refine bn E.Di ?_;refine aN ?_;refine M_ ak ?_;refine aN ?_;obtain⟨a,rfl⟩:=aF.addr;have ah:=(aF.at i U).cells 1 _ rfl;have aL:o.uI l i=if 1<=l[i].size/\l[i].size<=4 then 0 else 10:=by simp[o.uI,U]
 rw[aL];generalize l[i].size=z at ah;refine K_ i rfl U ?_;refine aN ?_;refine M_ ah ?_;refine aN ?_;refine I_ (fun h1=>?_) (fun h1=>?_)
 .refine aN ?_;rw[if_neg (by omega)];exact⟨rfl,Ext.refl w⟩
 refine aN ?_;refine M_ ak ?_;refine aN ?_;refine K_ i rfl U ?_;refine aN ?_;refine M_ ah ?_;refine aN ?_;refine I_ (fun h1=>?_) (fun h1=>?_)
 .refine aN ?_;rw[if_neg (by omega)];exact⟨rfl,Ext.refl w⟩
 .refine aN ?_;rw[if_pos (by omega)];exact⟨rfl,Ext.refl w⟩
theorem ape(v:B_)(l:C_ o.Scalar)(w:A_)(aM:gB w)(aF:o.h2 w v l) :
  a7 Tryz.prog F.G8 #[v] w fun v w'=>v = .tuple #[.int .i64 (o.scalars l).1,.int .i64 (o.scalars l).2]/\Ext w w':=by
 obtain⟨aQ,cap,rfl,hlen⟩:=aF.form;refine bn E.G8 ?_;refine aN ?_;refine O_ fun w1 b ak al ai=>?_;have ph:=bh.ext o.jO.ext al aF;have cT:w1.cell? ⟨b,0,none⟩=some (.slice aQ l.length cap):=A6 ai rfl;refine aN ?_;refine M_ cT ?_;refine aN ?_;refine J_ (PN l.length 2 (by omega) (o.nameAt (·.name) l) (o.uI l) F.AY F.Di [_] [_] (by kernel_rfl) (by kernel_rfl) w1 (aM.ext al)
  (fun i U=>by rw[r2 _ _ _ (by omega)];obtain⟨a,rfl⟩:=aF.addr;exact(aF.at i (by omega)).ok)
  (fun i w' U he=>apc i b _ l w' (bh.ext o.jO.ext he ph) (he.cell cT) (by omega))
  (fun i w' U he=>apd i b _ l w' (bh.ext o.jO.ext he ph) (he.cell cT) (by omega))) ?_
 rintro _ aH ⟨rfl,ao⟩;refine aN ?_;exact⟨rfl,al.trans ao⟩
theorem GO(x:o.Var)(v:B_)(l:C_ o.Scalar)(w:A_)(aF:o.h2 w v l) :
  a7 Tryz.prog F.iT #[.agg x.enc.toArray,v] w fun v w'=>v = .tuple #[.int .i64 (o.bounds x l).1,.int .i64 (o.bounds x l).2]/\Ext w w':=by
 obtain⟨aQ,cap,rfl,hlen⟩:=aF.form;refine bn E.iT ?_;refine aN ?_;refine O_ fun w1 b ak al ai=>?_;have c1:w1.cell? (Addr.add ⟨b,0,none⟩ 1)=some (.int .i64 x.scalar):=fQ ai rfl;have br:w1.cell? (Addr.add ⟨b,0,none⟩ 3)=some (.int .i64 x.aO):=fQ ai rfl;have bF:w1.cell? (Addr.add ⟨b,0,none⟩ 4)=some (.int .i64 x.U):=fQ ai rfl;refine aN ?_;refine M_ c1 ?_;refine aN ?_;refine I_ (fun h1=>?_) (fun h1=>?_)
 .refine aN ?_;refine M_ br ?_;refine aN ?_;refine M_ bF ?_;refine aN ?_;intro aH ao;simp only[o.bounds,h1,if_true];exact⟨trivial,al.trans ao⟩
 .refine aN ?_;refine M_ c1 ?_;refine aN ?_;refine J_ (QL x.scalar _ l w1 (bh.ext o.jO.ext al aF)) ?_;rintro _ _ ⟨rfl,rfl⟩;refine aN ?_;simp only[o.bounds,h1,if_false];exact⟨trivial,al⟩
theorem A7(x:o.Var)(v:B_)(l:C_ o.Scalar)(w:A_)(aF:o.h2 w v l) :
  a7 Tryz.prog F.pM #[.agg x.enc.toArray,v] w fun v w'=>v = .int .i64 (o.cells x l)/\Ext w w':=by
 obtain⟨aQ,cap,rfl,hlen⟩:=aF.form;refine bn E.pM ?_;refine aN ?_;refine O_ fun w1 b ak al ai=>?_;have c2:w1.cell? (Addr.add ⟨b,0,none⟩ 2)=some (.int .i64 x.over):=fQ ai rfl;refine aN ?_;refine M_ c2 ?_;refine aN ?_;refine I_ (fun h1=>?_) (fun h1=>?_)
 .refine aN ?_;simp only[o.cells,h1,if_true];exact⟨trivial,al⟩
 .refine aN ?_;refine M_ c2 ?_;refine aN ?_;refine J_ (QL x.over _ l w1 (bh.ext o.jO.ext al aF)) ?_;rintro _ _ ⟨rfl,rfl⟩;refine aN ?_;simp only[o.cells,h1,if_false];exact⟨trivial,al⟩
theorem aqJ(i:Nat)(b:Nat)(v:B_)(l:C_ o.Var)(w:A_)(aF:o.hP w v l)(ak:w.cell? ⟨b,0,none⟩=some v)(U:i<l.length) :
  a7 Tryz.prog F.mX #[.int .i64 i,.pointer (some ⟨b,0,none⟩)] w fun v w'=>v = .string (o.nameAt (·.name) l i)/\Ext w w':=by
 obtain⟨aQ,cap,rfl,hlen⟩:=aF.form;refine bn E.mX ?_;refine aN ?_;refine M_ ak ?_;refine aN ?_;obtain⟨a,rfl⟩:=aF.addr;have ah:=(aF.at i U).cells 0 _ rfl;refine K_ i rfl U ?_;refine aN ?_;refine M_ ah ?_;refine aN ?_;rw[r2 _ _ _ U];exact⟨rfl,Ext.refl w⟩
theorem aqK(i:Nat)(b bR:Nat)(v v2:B_)(l:C_ o.Var)(s:C_ o.Scalar)(w:A_)(aF:o.hP w v l)(an:o.h2 w v2 s)(ak:w.cell? ⟨b,0,none⟩=some v)(dt:w.cell? ⟨bR,0,none⟩=some v2)
  (U:i<l.length):a7 Tryz.prog F.ru #[.int .i64 i,.pointer (some ⟨b,0,none⟩),.pointer (some ⟨bR,0,none⟩)] w fun v w'=>v = .int .i64 (o.py l s i)/\Ext w w':=by
 obtain⟨aQ,cap,rfl,hlen⟩:=aF.form;obtain⟨zW,A5,rfl,IN⟩:=an.form;refine bn E.ru ?_;refine aN ?_;refine M_ ak ?_;refine aN ?_;obtain⟨a,rfl⟩:=aF.addr;have ah:=(aF.at i U).cells;have aL:o.py l s i=if o.there l[i].scalar s=false\/o.there l[i].over s=false then 8
  else if (l[i].scalar=0/\o.narrow l[i].aO l[i].U=false)\/l[i].init<(o.bounds l[i] s).1\/l[i].init > (o.bounds l[i] s).2 then 10 else 0:=by simp[o.py,U]
 rw[aL];clear aL;generalize l[i]=x at ah;refine K_ i rfl U ?_;refine aN ?_;refine _B ah rfl ?_;refine aN ?_;refine O_ fun w1 q au al ai=>?_;refine aN ?_;refine T_ ai rfl rfl (by simp[o.Var.enc,Value.oneCell']) fun aH hw av=>?_;have ao:Ext w aH:=hw.ext al au;clear hw ai al w1;have c1:aH.cell? (Addr.add ⟨q,0,none⟩ 1)=some (.int .i64 x.scalar):=fQ av rfl;have c2:aH.cell? (Addr.add ⟨q,0,none⟩ 2)=some (.int .i64 x.over):=fQ av rfl;have yW:aH.cell? (Addr.add ⟨q,0,none⟩ 5)=some (.int .i64 x.init):=fQ av rfl;have d2:=ao.cell dt;have eE:=bh.ext o.jO.ext ao an;refine aN ?_;refine M_ c1 ?_;refine aN ?_;refine M_ d2 ?_;refine aN ?_;refine J_ (Q6 x.scalar _ s aH eE) ?_;rintro _ _ ⟨rfl,rfl⟩;refine aN ?_;refine N_ (fun h1=>?_) (fun h1=>?_);rotate_left
 .refine aN ?_;simp only[h1,true_or,if_true];exact⟨trivial,ao⟩
 refine aN ?_;refine M_ c2 ?_;refine aN ?_;refine M_ d2 ?_;refine aN ?_;refine J_ (Q6 x.over _ s _ eE) ?_;rintro _ _ ⟨rfl,rfl⟩;refine aN ?_;refine N_ (fun I=>?_) (fun I=>?_);rotate_left
 .refine aN ?_;simp only[I,or_true,if_true];exact⟨trivial,ao⟩
 refine aN ?_;refine _B (hA av) rfl ?_;refine aN ?_;refine M_ d2 ?_;refine aN ?_;refine J_ (GO x _ s _ eE) ?_;rintro _ aP ⟨rfl,aj⟩;rename_i aub;have bt:=aj.cell c1;have bU:=aj.cell yW;have he:=ao.trans aj;refine aN ?_;refine M_ bt ?_;have dh:¬(o.there x.scalar s=false\/o.there x.over s=false):=by simp[h1,I]
 refine aN ?_;refine I_ (fun ab=>?_) (fun ab=>?_)
 .refine aN ?_;have tZ:o.bounds x s=(x.aO,x.U):=by simp[o.bounds,ab]
  rw[tZ];refine J_ (ZZ x.aO x.U aP) ?_;rintro _ _ ⟨rfl,rfl⟩;refine aN ?_;refine N_ (fun aD=>?_) (fun aD=>?_);rotate_left
  .refine aN ?_;rw[if_neg dh,if_pos (.inl ⟨ab,aD⟩)];exact⟨rfl,he⟩
  refine aN ?_;refine M_ bU ?_;refine aN ?_;refine I_ (fun aY=>?_) (fun aY=>?_)
  .refine aN ?_;rw[if_neg dh,if_pos (.inr (.inl aY))];exact⟨rfl,he⟩
  refine aN ?_;refine M_ bU ?_;refine aN ?_;refine I_ (fun bx=>?_) (fun bx=>?_)
  .refine aN ?_;rw[if_neg dh,if_pos (.inr (.inr bx))];exact⟨rfl,he⟩
  .refine aN ?_;rw[if_neg dh,if_neg (by rw[aD];simp;omega)];exact⟨rfl,he⟩
 .refine aN ?_;refine M_ bU ?_;refine aN ?_;refine I_ (fun aY=>?_) (fun aY=>?_)
  .refine aN ?_;rw[if_neg dh,if_pos (.inr (.inl aY))];exact⟨rfl,he⟩
  refine aN ?_;refine M_ bU ?_;refine aN ?_;refine I_ (fun bx=>?_) (fun bx=>?_)
  .refine aN ?_;rw[if_neg dh,if_pos (.inr (.inr bx))];exact⟨rfl,he⟩
  .refine aN ?_;rw[if_neg dh,if_neg (by simp[ab];omega)];exact⟨rfl,he⟩
theorem ab4(v v2:B_)(l:C_ o.Var)(s:C_ o.Scalar)(fC:Int)(w:A_)(aM:gB w)(aF:o.hP w v l)(an:o.h2 w v2 s) :
  a7 Tryz.prog F.G9 #[v,v2,.int .i64 fC] w fun v w'=>v = .tuple #[.int .i64 (o.vars l s fC).1,.int .i64 (o.vars l s fC).2]/\Ext w w':=by
 obtain⟨aQ,cap,rfl,hlen⟩:=aF.form;obtain⟨zW,A5,rfl,IN⟩:=an.form;refine bn E.G9 ?_;refine aN ?_;refine O_ fun w1 b ak al ai=>?_;refine aN ?_;refine O_ fun aH bR dt ao av=>?_;have he:=al.trans ao;have ph:=bh.ext o.qs.ext he aF;have fP:=bh.ext o.jO.ext he an;have d1:aH.cell? ⟨b,0,none⟩=some (.slice aQ l.length cap):=A6 (ao.obj ai) rfl;have d2:aH.cell? ⟨bR,0,none⟩=some (.slice zW s.length A5):=A6 av rfl;refine aN ?_;refine M_ d1 ?_;refine aN ?_;refine J_ (PN l.length (max fC 0) (by omega) (o.nameAt (·.name) l) (o.py l s) F.mX F.ru [_] [_,_] (by kernel_rfl) (by kernel_rfl) aH (aM.ext he)
  (fun i U=>by rw[r2 _ _ _ (by omega)];obtain⟨a,rfl⟩:=aF.addr;exact(aF.at i (by omega)).ok)
  (fun i w' U he=>aqJ i b _ l w' (bh.ext o.qs.ext he ph) (he.cell d1) (by omega))
  (fun i w' U he=>aqK i b bR _ _ l s w' (bh.ext o.qs.ext he ph) (bh.ext o.jO.ext he fP) (he.cell d1) (he.cell d2) (by omega))) ?_
 rintro _ aP ⟨rfl,aj⟩;refine aN ?_;exact⟨rfl,he.trans aj⟩
theorem aeB(i:Nat)(b:Nat)(v:B_)(l:C_ o.dv)(w:A_)(aF:o.mS w v l)(ak:w.cell? ⟨b,0,none⟩=some v)(U:i<l.length) :
  a7 Tryz.prog F.o3 #[.int .i64 i,.pointer (some ⟨b,0,none⟩)] w fun v w'=>v = .string (o.nameAt (·.name) l i)/\Ext w w':=by
 obtain⟨aQ,cap,rfl,hlen⟩:=aF.form;refine bn E.o3 ?_;refine aN ?_;refine M_ ak ?_;refine aN ?_;obtain⟨a,rfl⟩:=aF.addr;have ah:=(aF.at i U).cells 0 _ rfl;refine K_ i rfl U ?_;refine aN ?_;refine M_ ah ?_;refine aN ?_;rw[r2 _ _ _ U];exact⟨rfl,Ext.refl w⟩
theorem aeC(i:Nat)(b bR:Nat)(v v2:B_)(l:C_ o.dv)(s:C_ o.Scalar)(w:A_)(aF:o.mS w v l)(an:o.h2 w v2 s)(ak:w.cell? ⟨b,0,none⟩=some v)(dt:w.cell? ⟨bR,0,none⟩=some v2)
  (U:i<l.length):a7 Tryz.prog F.cK #[.int .i64 i,.pointer (some ⟨b,0,none⟩),.pointer (some ⟨bR,0,none⟩)] w fun v w'=>v = .int .i64 (o.o7 l s i)/\Ext w w':=by
 obtain⟨aQ,cap,rfl,hlen⟩:=aF.form;obtain⟨zW,A5,rfl,IN⟩:=an.form;refine bn E.cK ?_;refine aN ?_;refine M_ ak ?_;refine aN ?_;obtain⟨a,rfl⟩:=aF.addr;have ah:=(aF.at i U).cells;have aL:o.o7 l s i=if o.there l[i].scalar s=false then 8
  else if l[i].cap<1\/l[i].cap > 4\/(l[i].scalar=0/\o.narrow l[i].aO l[i].U=false) then 10 else 0:=by simp[o.o7,U]
 rw[aL];clear aL;generalize l[i]=x at ah;refine K_ i rfl U ?_;refine aN ?_;refine _B ah rfl ?_;refine aN ?_;refine O_ fun w1 q au al ai=>?_;refine aN ?_;refine T_ ai rfl rfl (by simp[o.dv.enc,Value.oneCell']) fun aH hw av=>?_;have ao:Ext w aH:=hw.ext al au;clear hw ai al w1;have c1:aH.cell? (Addr.add ⟨q,0,none⟩ 1)=some (.int .i64 x.scalar):=fQ av rfl;have c2:aH.cell? (Addr.add ⟨q,0,none⟩ 2)=some (.int .i64 x.cap):=fQ av rfl;have br:aH.cell? (Addr.add ⟨q,0,none⟩ 3)=some (.int .i64 x.aO):=fQ av rfl;have bF:aH.cell? (Addr.add ⟨q,0,none⟩ 4)=some (.int .i64 x.U):=fQ av rfl;have d2:=ao.cell dt;have eE:=bh.ext o.jO.ext ao an;refine aN ?_;refine M_ c1 ?_;refine aN ?_;refine M_ d2 ?_;refine aN ?_;refine J_ (Q6 x.scalar _ s aH eE) ?_;rintro _ _ ⟨rfl,rfl⟩;refine aN ?_;refine N_ (fun h1=>?_) (fun h1=>?_);rotate_left
 .refine aN ?_;simp only[h1,if_true];exact⟨trivial,ao⟩
 have dh:¬(o.there x.scalar s=false):=by simp[h1]
 refine aN ?_;refine M_ c2 ?_;refine aN ?_;refine I_ (fun I=>?_) (fun I=>?_)
 .refine aN ?_;rw[if_neg dh,if_pos (.inl I)];exact⟨rfl,ao⟩
 refine aN ?_;refine M_ c2 ?_;refine aN ?_;refine I_ (fun ab=>?_) (fun ab=>?_)
 .refine aN ?_;rw[if_neg dh,if_pos (.inr (.inl ab))];exact⟨rfl,ao⟩
 refine aN ?_;refine M_ c1 ?_;refine aN ?_;refine I_ (fun aD=>?_) (fun aD=>?_)
 .refine aN ?_;refine M_ br ?_;refine aN ?_;refine M_ bF ?_;refine aN ?_;refine J_ (ZZ x.aO x.U _) ?_;rintro _ _ ⟨rfl,rfl⟩;refine aN ?_;refine N_ (fun aY=>?_) (fun aY=>?_)
  .refine aN ?_;rw[if_neg dh,if_neg (by rw[aY];simp;omega)];exact⟨rfl,ao⟩
  .refine aN ?_;rw[if_neg dh,if_pos (.inr (.inr ⟨aD,aY⟩))];exact⟨rfl,ao⟩
 .refine aN ?_;rw[if_neg dh,if_neg (by simp[aD];omega)];exact⟨rfl,ao⟩
theorem aeE(v v2:B_)(l:C_ o.dv)(s:C_ o.Scalar)(w:A_)(aM:gB w)(aF:o.mS w v l)(an:o.h2 w v2 s) :
  a7 Tryz.prog F.Ha #[v,v2] w fun v w'=>v = .tuple #[.int .i64 (o.aw l s).1,.int .i64 (o.aw l s).2]/\Ext w w':=by
 obtain⟨aQ,cap,rfl,hlen⟩:=aF.form;obtain⟨zW,A5,rfl,IN⟩:=an.form;refine bn E.Ha ?_;refine aN ?_;refine O_ fun w1 b ak al ai=>?_;refine aN ?_;refine O_ fun aH bR dt ao av=>?_;have he:=al.trans ao;have ph:=bh.ext o.qq.ext he aF;have fP:=bh.ext o.jO.ext he an;have d1:aH.cell? ⟨b,0,none⟩=some (.slice aQ l.length cap):=A6 (ao.obj ai) rfl;have d2:aH.cell? ⟨bR,0,none⟩=some (.slice zW s.length A5):=A6 av rfl;refine aN ?_;refine M_ d1 ?_;refine aN ?_;refine J_ (PN l.length 4 (by omega) (o.nameAt (·.name) l) (o.o7 l s) F.o3 F.cK [_] [_,_] (by kernel_rfl) (by kernel_rfl) aH (aM.ext he)
  (fun i U=>by rw[r2 _ _ _ (by omega)];obtain⟨a,rfl⟩:=aF.addr;exact(aF.at i (by omega)).ok)
  (fun i w' U he=>aeB i b _ l w' (bh.ext o.qq.ext he ph) (he.cell d1) (by omega))
  (fun i w' U he=>aeC i b bR _ _ l s w' (bh.ext o.qq.ext he ph) (bh.ext o.jO.ext he fP) (he.cell d1) (he.cell d2) (by omega))) ?_
 rintro _ aP ⟨rfl,aj⟩;refine aN ?_;exact⟨rfl,he.trans aj⟩
end Go.Proofs.R
end
section
end
section
namespace Go.Proofs.R
open Go Go.RowKit bb
theorem Ce(k:Int)(v:B_)(l:C_ o.Scalar)(w:A_)(aF:o.h2 w v l) :
  a7 Tryz.prog F.E2 #[v,.int .i64 k] w fun v w'=>v = .int .i64 (o.size k l)/\w'=w:=by
 obtain⟨aQ,cap,rfl,hlen⟩:=aF.form;refine bn E.E2 ?_;refine aN ?_;refine I_ (fun h1=>?_) (fun h1=>?_)
 .refine aN ?_;rw[KG (.inl h1)];exact⟨rfl,trivial⟩
 refine aN ?_;refine I_ (fun I=>?_) (fun I=>?_)
 .refine aN ?_;rw[KG (.inr I)];exact⟨rfl,trivial⟩
 obtain⟨a,rfl⟩:=aF.addr;have ah:=(aF.at (k.toNat - 1) (by omega)).cells 1 _ rfl;have hk:(k - 1).toNat*2=(k.toNat - 1)*2:=by omega
 rw[abq (by omega) (by omega)];rw[<-hk] at ah;generalize l[k.toNat - 1].size=z at ah
 (repeat' first
  | (refine I_ (fun _=>?_) (fun _=>?_)<;>try (exfalso;omega))
  | (refine N_ (fun _=>?_) (fun _=>?_))
  | (refine Q_ (by omega) ?_)
  | (refine M_ (by assumption) ?_)
  | (refine _Z (by omega) ?_)
  | simp -dsimp only[c0,cB,Nat.reduceAdd,Nat.reduceEqDiff,reduceIte,reduceCtorEq,dd])
 .rw[if_neg (by omega)];exact⟨rfl,trivial⟩
 .rw[if_neg (by omega)];exact⟨rfl,trivial⟩
 .rw[if_pos (by omega)];exact⟨rfl,trivial⟩
theorem Qq(x:o.Var)(v:B_)(l:C_ o.Scalar)(w:A_)(aF:o.h2 w v l) :
  a7 Tryz.prog F.JK #[.agg x.enc.toArray,v] w fun v w'=>v = .tuple #[.int .i64 (o.bounds x l).1,.int .i64 (o.bounds x l).2]/\Ext w w':=by
 obtain⟨aQ,cap,rfl,hlen⟩:=aF.form;refine bn E.JK ?_;refine aN ?_;refine O_ fun w1 b ak al ai=>?_;have c1:w1.cell? (Addr.add ⟨b,0,none⟩ 1)=some (.int .i64 x.scalar):=fQ ai rfl;have br:w1.cell? (Addr.add ⟨b,0,none⟩ 3)=some (.int .i64 x.aO):=fQ ai rfl;have bF:w1.cell? (Addr.add ⟨b,0,none⟩ 4)=some (.int .i64 x.U):=fQ ai rfl;refine aN ?_;refine M_ c1 ?_;refine aN ?_;refine I_ (fun h1=>?_) (fun h1=>?_)
 .refine aN ?_;refine M_ br ?_;refine aN ?_;refine M_ bF ?_;refine aN ?_;intro aH ao;simp only[o.bounds,h1,if_true];exact⟨trivial,al.trans ao⟩
 .refine aN ?_;refine M_ c1 ?_;refine aN ?_;refine J_ (Ce x.scalar _ l w1 (bh.ext o.jO.ext al aF)) ?_;rintro _ _ ⟨rfl,rfl⟩;refine aN ?_;simp only[o.bounds,h1,if_false];exact⟨trivial,al⟩
theorem Qr(x:o.Var)(v:B_)(l:C_ o.Scalar)(w:A_)(aF:o.h2 w v l) :
  a7 Tryz.prog F.JL #[.agg x.enc.toArray,v] w fun v w'=>v = .int .i64 (o.cells x l)/\Ext w w':=by
 obtain⟨aQ,cap,rfl,hlen⟩:=aF.form;refine bn E.JL ?_;refine aN ?_;refine O_ fun w1 b ak al ai=>?_;have c2:w1.cell? (Addr.add ⟨b,0,none⟩ 2)=some (.int .i64 x.over):=fQ ai rfl;refine aN ?_;refine M_ c2 ?_;refine aN ?_;refine I_ (fun h1=>?_) (fun h1=>?_)
 .refine aN ?_;simp only[o.cells,h1,if_true];exact⟨trivial,al⟩
 .refine aN ?_;refine M_ c2 ?_;refine aN ?_;refine J_ (Ce x.over _ l w1 (bh.ext o.jO.ext al aF)) ?_;rintro _ _ ⟨rfl,rfl⟩;refine aN ?_;simp only[o.cells,h1,if_false];exact⟨trivial,al⟩
end Go.Proofs.R
end
section
namespace Go.Proofs.R
open Go Go.RowKit bb
theorem aaX(n:Int)(w:A_):a7 Tryz.prog F.B4 #[.int .u8 n] w fun v w'=>v = .bool (o.letter n)/\w'=w:=by
 refine bn E.B4 ?_
 (repeat' first
  | (refine I_ (fun _=>?_) (fun _=>?_)<;>try (exfalso;omega))
  | (refine N_ (fun _=>?_) (fun _=>?_))
  | (refine Q_ (by omega) ?_)
  | (refine M_ (by assumption) ?_)
  | (refine _Z (by omega) ?_)
  | simp -dsimp only[c0,cB,Nat.reduceAdd,Nat.reduceEqDiff,reduceIte,reduceCtorEq,dd])
 all_goals (refine⟨?_,by first | rfl | trivial⟩;congr 1;rw[Bool.eq_iff_iff];simp[o.letter];omega)
theorem Qn(n:Int)(w:A_):a7 Tryz.prog F.zP #[.int .u8 n] w fun v w'=>v = .bool (o.digit n)/\w'=w:=by
 refine bn E.zP ?_
 (repeat' first
  | (refine I_ (fun _=>?_) (fun _=>?_)<;>try (exfalso;omega))
  | (refine N_ (fun _=>?_) (fun _=>?_))
  | (refine Q_ (by omega) ?_)
  | (refine M_ (by assumption) ?_)
  | (refine _Z (by omega) ?_)
  | simp -dsimp only[c0,cB,Nat.reduceAdd,Nat.reduceEqDiff,reduceIte,reduceCtorEq,dd])
 all_goals (refine⟨?_,by first | rfl | trivial⟩;congr 1;rw[Bool.eq_iff_iff];simp[o.digit];omega)
def wD:C_ ByteArray:=[⟨#[58,61]⟩,⟨#[61,61]⟩,⟨#[33,61]⟩,⟨#[60,61]⟩,⟨#[45,62]⟩,⟨#[38,38]⟩,⟨#[124,124]⟩,⟨#[61,62]⟩,⟨#[40]⟩,⟨#[41]⟩,⟨#[91]⟩,⟨#[93]⟩,⟨#[123]⟩,⟨#[125]⟩,⟨#[59]⟩,⟨#[44]⟩,⟨#[58]⟩,⟨#[46]⟩,⟨#[60]⟩,⟨#[43]⟩,⟨#[45]⟩,⟨#[42]⟩,⟨#[33]⟩,⟨#[63]⟩,⟨#[64]⟩]
theorem apv(w:A_):a7 Tryz.prog F.Jv #[] w fun v w'=>(∃b,v = .slice (some ⟨b,0,none⟩) 25 25/\e0 w' ⟨b,0,none⟩ (wD.map Value.string))/\Ext w w':=by
 refine bn E.Jv ?_;refine aN ?_;refine Y_ (cs:=wD.map Value.string) (by simp[List.range,List.range.loop,eW,lay,dp,nT,bL,Value.cells,wD]) fun w1 bo cT al ai=>?_;refine aN ?_;exact⟨⟨bo,rfl,hA ai⟩,al⟩
theorem adC(s:ByteArray)(w:A_)(h:0<s.size)(an:s.size<=16) :
  a7 Tryz.prog F.Ju #[.string s,.int .i64 0] w fun v w'=>(∃n k:Int,v = .tuple #[.int .i64 n,.int .i64 k]/\if o.letter (o.sF s 0:Nat)=true then n=o.run o.part s/\k=1 else k≠1)/\Ext w w':=by
 refine bn E.Ju ?_;refine aN ?_;refine _a (s.get! 0) (by decide) (o.get?_eq s 0 h) ?_;refine aN ?_;refine J_ (aaX _ w) ?_;rintro _ w ⟨rfl,rfl⟩;refine aN ?_;refine N_ (fun h1=>?_) (fun h1=>?_)
 .have sP:o.letter (o.sF s 0:Nat)=true:=h1;refine aN ?_;refine Z_ (fun S w' => ∃i:Nat,i<=s.size/\S 6 = .int .i64 i/\(∀j (aE:j<s.size),j<i->o.part s[j].toNat=true)/\w'=w)
   (fun S _=>(s.size - intOf (S 6)).toNat) ⟨0,by omega,by refine aN ?_;rfl,fun _ _ h=>absurd h (Nat.not_lt_zero _),rfl⟩ ?_
  rintro S w bZ ⟨i,U,bx,dA,rfl⟩;have af:=bZ 0 rfl;have h1:=bZ 1 rfl;simp only[bL,Nat.reduceAdd,Nat.reduceEqDiff,reduceIte,jT,nf] at af h1;clear bZ;refine cg (i_ af (i_ h1 bx)) ?_;refine I_ (fun I=>?_) (fun I=>?_)
  .have cE:i<s.size:=by omega
   refine cg (i_ af (i_ h1 bx)) ?_;refine _a (s.get! i) (by omega) (o.get?_eq s i cE) ?_;rw[o.get_eq s i cE];refine cg (i_ af (i_ h1 bx)) ?_;refine J_ (aaX _ _) ?_;rintro _ w ⟨rfl,rfl⟩;refine cg (i_ af (i_ h1 bx)) ?_;refine N_ (fun ab=>?_) (fun ab=>?_)
   .refine cg (i_ af (i_ h1 bx)) ?_;refine Q_ (by omega) ?_;refine cg (i_ af (i_ h1 bx)) ?_;refine⟨⟨i+1,by omega,rfl,fun j aE hF=>?_,trivial⟩,by simp[intOf];omega⟩;by_cases nZ:j<i
    .exact dA j aE nZ
    .have:j=i:=by omega
     subst this;simp[o.part,ab]
   refine cg (i_ af (i_ h1 bx)) ?_;refine _a (s.get! i) (by omega) (o.get?_eq s i cE) ?_;rw[o.get_eq s i cE];refine cg (i_ af (i_ h1 bx)) ?_;refine J_ (Qn _ _) ?_;rintro _ w ⟨rfl,rfl⟩;refine cg (i_ af (i_ h1 bx)) ?_;refine N_ (fun aD=>?_) (fun aD=>?_)
   .refine cg (i_ af (i_ h1 bx)) ?_;refine Q_ (by omega) ?_;refine cg (i_ af (i_ h1 bx)) ?_;refine⟨⟨i+1,by omega,rfl,fun j aE hF=>?_,trivial⟩,by simp[intOf];omega⟩;by_cases nZ:j<i
    .exact dA j aE nZ
    .have:j=i:=by omega
     subst this;simp[o.part,aD]
   refine cg (i_ af (i_ h1 bx)) ?_;refine _a (s.get! i) (by omega) (o.get?_eq s i cE) ?_;rw[o.get_eq s i cE];refine cg (i_ af (i_ h1 bx)) ?_;refine I_ (fun aY=>?_) (fun aY=>?_)
   .refine cg (i_ af (i_ h1 bx)) ?_;refine Q_ (by omega) ?_;refine cg (i_ af (i_ h1 bx)) ?_;refine⟨⟨i+1,by omega,rfl,fun j aE hF=>?_,trivial⟩,by simp[intOf];omega⟩;by_cases nZ:j<i
    .exact dA j aE nZ
    .have:j=i:=by omega
     subst this;simp[o.part];omega
   .refine cg (i_ af (i_ h1 bx)) ?_;refine Q_ (by omega) ?_;refine cg (i_ af (i_ h1 bx)) ?_;refine⟨⟨_,_,rfl,?_⟩,Ext.refl _⟩;rw[if_pos sP];rw[o.abf o.part s i cE (fun j aE=>dA j (by omega) aE) (by simp only[o.part,ab,aD,Bool.false_or,decide_eq_false_iff_not];omega)];exact⟨by omega,rfl⟩
  .refine cg (i_ af (i_ h1 bx)) ?_;refine Q_ (by omega) ?_;refine cg (i_ af (i_ h1 bx)) ?_;refine⟨⟨_,_,rfl,?_⟩,Ext.refl _⟩;rw[if_pos sP];rw[o.aa7 o.part s (fun j aE=>dA j aE (by omega))];exact⟨by omega,rfl⟩
 have sP:o.letter (o.sF s 0:Nat)=false:=h1;have hg:¬o.letter (o.sF s 0:Nat)=true:=by simp[sP]
 refine aN ?_;refine _a (s.get! 0) (by decide) (o.get?_eq s 0 h) ?_;refine aN ?_;refine J_ (Qn _ w) ?_;rintro _ w ⟨rfl,rfl⟩;refine aN ?_;refine N_ (fun I=>?_) (fun I=>?_)
 .refine aN ?_;refine Z_ (fun S w' => ∃i:Nat,i<=s.size/\S 6 = .int .i64 i/\w'=w)
   (fun S _=>(s.size - intOf (S 6)).toNat) ⟨0,by omega,by refine aN ?_;rfl,rfl⟩ ?_
  rintro S w bZ ⟨i,U,bx,rfl⟩;have af:=bZ 0 rfl;have h1:=bZ 1 rfl;simp only[bL,Nat.reduceAdd,Nat.reduceEqDiff,reduceIte,jT,nf] at af h1;clear bZ;refine cg (i_ af (i_ h1 bx)) ?_;refine I_ (fun I=>?_) (fun I=>?_)
  .have cE:i<s.size:=by omega
   refine cg (i_ af (i_ h1 bx)) ?_;refine _a (s.get! i) (by omega) (o.get?_eq s i cE) ?_;refine cg (i_ af (i_ h1 bx)) ?_;refine J_ (Qn _ _) ?_;rintro _ w ⟨rfl,rfl⟩;refine cg (i_ af (i_ h1 bx)) ?_;refine N_ (fun aD=>?_) (fun aD=>?_)
   .refine cg (i_ af (i_ h1 bx)) ?_;refine Q_ (by omega) ?_;refine cg (i_ af (i_ h1 bx)) ?_;exact⟨⟨i+1,by omega,rfl,trivial⟩,by simp[intOf];omega⟩
   .refine cg (i_ af (i_ h1 bx)) ?_;refine Q_ (by omega) ?_;refine cg (i_ af (i_ h1 bx)) ?_;exact⟨⟨_,_,rfl,by rw[if_neg hg];decide⟩,Ext.refl _⟩
  .refine cg (i_ af (i_ h1 bx)) ?_;refine Q_ (by omega) ?_;refine cg (i_ af (i_ h1 bx)) ?_;exact⟨⟨_,_,rfl,by rw[if_neg hg];decide⟩,Ext.refl _⟩
 refine aN ?_;refine J_ (apv w) ?_;rintro _ w1 ⟨⟨b,rfl,ah⟩,he⟩;refine aN ?_;refine Z_ (fun S w' => ∃i:Nat,i<=25/\S 8 = .int .i64 i/\Ext w1 w')
  (fun S _=>(25 - intOf (S 8)).toNat) ⟨0,by omega,by refine aN ?_;rfl,Ext.refl _⟩ ?_
 rintro S w' bZ ⟨i,U,dC,ao⟩;have af:=bZ 0 rfl;have h1:=bZ 1 rfl;have b1:=bZ 7 rfl;simp only[bL,Nat.reduceAdd,Nat.reduceEqDiff,reduceIte,jT,nf] at af h1 b1;clear bZ;refine cg (i_ af (i_ h1 (i_ b1 dC))) ?_;refine I_ (fun I=>?_) (fun I=>?_)
 .have cE:i<wD.length:=by simp[wD];omega
  have gC:w'.cell? (Addr.add ⟨b,0,none⟩ (i*1))=some (.string wD[i]):=by
   rw[Nat.mul_one];exact ah.ext ao i _ (by rw[List.getElem?_map,List.getElem?_eq_getElem cE];rfl)
  have bA:wD[i].size<=2:=by
   have:∀x∈wD,x.size<=2:=by decide
   exact this _ (List.getElem_mem _)
  generalize wD[i]=x at gC bA;refine cg (i_ af (i_ h1 (i_ b1 dC))) ?_;refine Q_ (by omega) ?_;refine cg (i_ af (i_ h1 (i_ b1 dC))) ?_;refine K_ i rfl (by omega) ?_;refine cg (i_ af (i_ h1 (i_ b1 dC))) ?_;refine M_ gC ?_;refine cg (i_ af (i_ h1 (i_ b1 dC))) ?_;refine I_ (fun ab=>?_) (fun ab=>?_)
  .refine cg (i_ af (i_ h1 (i_ b1 dC))) ?_;refine K_ i rfl (by omega) ?_;refine cg (i_ af (i_ h1 (i_ b1 dC))) ?_;refine M_ gC ?_;refine cg (i_ af (i_ h1 (i_ b1 dC))) ?_;refine Q_ (by omega) ?_;refine cg (i_ af (i_ h1 (i_ b1 dC))) ?_;refine AA5 0 x.size (by simp[eG,dp,bL,h1]) (by simp[eG,dp,bL,h1]) (by omega) ?_;refine cg (i_ af (i_ h1 (i_ b1 dC))) ?_;refine K_ i rfl (by omega) ?_;refine cg (i_ af (i_ h1 (i_ b1 dC))) ?_;refine M_ gC ?_;refine cg (i_ af (i_ h1 (i_ b1 dC))) ?_;intro aH aj;refine I_ (fun aD=>?_) (fun aD=>?_)
   .refine cg (i_ af (i_ h1 (i_ b1 dC))) ?_;refine K_ i rfl (by omega) ?_;refine cg (i_ af (i_ h1 (i_ b1 dC))) ?_;refine M_ (aj.cell gC) ?_;refine cg (i_ af (i_ h1 (i_ b1 dC))) ?_;exact⟨⟨_,_,rfl,by rw[if_neg hg];decide⟩,he.trans (ao.trans aj)⟩
   .refine cg (i_ af (i_ h1 (i_ b1 dC))) ?_;refine Q_ (by omega) ?_;refine cg (i_ af (i_ h1 (i_ b1 dC))) ?_;exact⟨⟨i+1,by omega,rfl,ao.trans aj⟩,by simp[intOf];omega⟩
  .refine cg (i_ af (i_ h1 (i_ b1 dC))) ?_;intro aH aj;refine Q_ (by omega) ?_;refine cg (i_ af (i_ h1 (i_ b1 dC))) ?_;exact⟨⟨i+1,by omega,rfl,ao.trans aj⟩,by simp[intOf];omega⟩
 .refine cg (i_ af (i_ h1 (i_ b1 dC))) ?_;exact⟨⟨_,_,rfl,by rw[if_neg hg];decide⟩,he.trans ao⟩
theorem Ci(s:ByteArray)(w:A_)(an:s.size<=9223372036854775807):a7 Tryz.prog F.Jt #[.string s] w fun v w'=>v = .bool (o.isName s)/\Ext w w':=by
 refine bn E.Jt ?_;refine aN ?_;refine I_ (fun af=>?_) (fun af=>?_)
 .refine aN ?_;refine⟨?_,Ext.refl w⟩;subst af;rfl
 have bA:s.size≠0:=fun h=>af (by
  cases s with | mk d =>
  have:d=#[]:=by simpa[ByteArray.size] using h
  rw[this])
 refine aN ?_;refine I_ (fun h1=>?_) (fun h1=>?_)
 .refine aN ?_;refine⟨?_,Ext.refl w⟩
  have:¬s.size<=16:=by omega
  simp[o.isName,this]
 have sP:s.size<=16:=by omega
 refine aN ?_;refine I_ (fun I=>?_) (fun I=>?_)
 .refine aN ?_;exact⟨by subst I;exact congrArg Value.bool (by decide +kernel),Ext.refl w⟩
 refine aN ?_;refine I_ (fun ab=>?_) (fun ab=>?_)
 .refine aN ?_;exact⟨by subst ab;exact congrArg Value.bool (by decide +kernel),Ext.refl w⟩
 refine aN ?_;refine I_ (fun aD=>?_) (fun aD=>?_)
 .refine aN ?_;exact⟨by subst aD;exact congrArg Value.bool (by decide +kernel),Ext.refl w⟩
 refine aN ?_;refine I_ (fun aY=>?_) (fun aY=>?_)
 .refine aN ?_;exact⟨by subst aY;exact congrArg Value.bool (by decide +kernel),Ext.refl w⟩
 have hm:s∉o.qZ:=by simp[o.qZ,I,ab,aD,aY]
 refine aN ?_;refine J_ (adC s w (by omega) sP) ?_;rintro _ w1 ⟨⟨n,k,rfl,ns⟩,he⟩;refine aN ?_;refine I_ (fun bx=>?_) (fun bx=>?_)
 .refine aN ?_;refine⟨?_,he⟩;have aF:o.letter (o.sF s 0:Nat)=true:=by
   by_cases ag:o.letter (o.sF s 0:Nat)=true
   .exact ag
   .rw[if_neg ag] at ns;exact absurd bx ns
  rw[if_pos aF] at ns;congr 1;simp[o.isName,aF,bA,sP,hm,ns.1];omega
 .refine aN ?_;refine⟨?_,he⟩;have aF:o.letter (o.sF s 0:Nat)=false:=by
   by_cases ag:o.letter (o.sF s 0:Nat)=true
   .rw[if_pos ag] at ns;exact absurd ns.2 bx
   .simpa using ag
  simp[o.isName,aF]
end Go.Proofs.R
end
section
namespace Go.Proofs.R
open Go Go.RowKit bb
theorem y6{fC:Int}{fR:Nat->ByteArray}{mo:Nat->Int}{i:Nat}(h:fC<=i):o.err fC fR mo i=11:=by rw[o.err,if_pos h]
theorem Be{fC:Int}{fR:Nat->ByteArray}{mo:Nat->Int}{i:Nat}(h:¬fC<=i)(I:o.isName (fR i)=false):o.err fC fR mo i=6:=by rw[o.err,if_neg h,if_pos I]
theorem MI{fC:Int}{fR:Nat->ByteArray}{mo:Nat->Int}{i j:Nat}(h:¬fC<=i)(I:o.isName (fR i)=true)(aE:j<i)(he:fR j=fR i):o.err fC fR mo i=7:=by
 rw[o.err,if_neg h,if_neg (by simp[I]),if_pos ⟨j,aE,he⟩]
theorem MH{fC:Int}{fR:Nat->ByteArray}{mo:Nat->Int}{i:Nat}(h:¬fC<=i)(I:o.isName (fR i)=true)(aE:∀j,j<i->fR j≠fR i):o.err fC fR mo i=mo i:=by
 rw[o.err,if_neg h,if_neg (by simp[I]),if_neg (fun⟨j,h1,I⟩=>aE j h1 I)]
theorem ZN{fC:Int}{fR:Nat->ByteArray}{mo:Nat->Int}{i:Nat}(hm:0<=fC)(h:∀j,j<i->o.err fC fR mo j=0):(i:Int)<=fC:=by
 by_cases ag:(i:Int)<=fC
 .exact ag
 .have:=h fC.toNat (by omega)
  rw[y6 (by omega)] at this;cases this
theorem aoD(v:B_)(l:C_ o.Scalar)(w:A_)(aF:o.h2 w v l) :
  a7 Tryz.prog F.JN #[v] w fun v w'=>v = .tuple #[.int .i64 (o.scalars l).1,.int .i64 (o.scalars l).2]/\Ext w w':=by
 obtain⟨aQ,cap,rfl,hlen⟩:=aF.form;refine bn E.JN ?_;simp -dsimp only[c0,cB,Nat.reduceAdd,Nat.reduceEqDiff,reduceIte,reduceCtorEq,dd];refine Z_ (fun S w' => ∃i:Nat,i<=l.length/\S 4 = .int .i64 i/\(∀j,j<i->o.err 2 (o.nameAt (·.name) l) (o.uI l) j=0)/\Ext w w')
  (fun S _=>(l.length - intOf (S 4)).toNat) ⟨0,by omega,by simp -dsimp only[c0,cB,Nat.reduceAdd,Nat.reduceEqDiff,reduceIte,reduceCtorEq,dd];rfl,fun _ h=>absurd h (Nat.not_lt_zero _),Ext.refl _⟩ ?_
 rintro S w' bZ ⟨i,U,aD,dA,he⟩;have af:=bZ 0 rfl;simp only[bL,Nat.reduceAdd,Nat.reduceEqDiff,reduceIte,jT,nf] at af;clear bZ;have p0:=ZN (by omega) dA;refine cg (i_ af aD) ?_;apply I_<;>intro g1;rotate_left
 .refine cg (i_ af aD) ?_;rw[o.scalars,o.pa (fun j aE=>dA j (by omega))];exact⟨rfl,he⟩
 have cE:i<l.length:=by omega
 obtain⟨a,rfl⟩:=aF.addr;have im:=bh.ext o.jO.ext he aF;have sS:=(im.at i cE).cells 0 _ rfl;have ai:=(im.at i cE).cells 1 _ rfl;have di:o.jo l[i].name:=(im.at i cE).ok;have fN:o.nameAt (fun x:o.Scalar=>x.name) l i=l[i].name:=r2 _ _ _ cE;refine cg (i_ af aD) ?_;apply I_<;>intro g2
 .refine cg (i_ af aD) ?_;rw[o.scalars,o.ji cE dA (by rw[y6 (by omega)];decide),y6 (by omega)];exact⟨rfl,he⟩
 have hm:¬(2:Int)<=(i:Int):=by omega
 refine cg (i_ af aD) ?_;refine K_ i rfl cE ?_;refine cg (i_ af aD) ?_;refine M_ sS ?_;refine cg (i_ af aD) ?_;refine J_ (Ci _ _ di) ?_;rintro _ aH ⟨rfl,ao⟩;refine cg (i_ af aD) ?_;refine N_ (fun g3=>?_) (fun g3=>?_);rotate_left
 .refine cg (i_ af aD) ?_;rw[<-fN] at g3;rw[o.scalars,o.ji cE dA (by rw[Be hm g3];decide),Be hm g3];exact⟨rfl,he.trans ao⟩
 have qH:=g3;rw[<-fN] at qH;replace ao:=he.trans ao;clear he im;refine cg (i_ af aD) ?_;refine Z_ (fun aX w' => ∃k:Nat,k<=i/\aX 5 = .int .i64 k/\(∀j,j<k->o.nameAt (fun x:o.Scalar=>x.name) l j≠o.nameAt (fun x:o.Scalar=>x.name) l i)/\Ext w w')
  (fun S _=>(i - intOf (S 5)).toNat) ⟨0,by omega,by simp -dsimp only[c0,cB,Nat.reduceAdd,Nat.reduceEqDiff,reduceIte,reduceCtorEq,dd];rfl,fun _ h=>absurd h (Nat.not_lt_zero _),ao⟩ ?_
 rintro kB aP kn ⟨k,hk,aY,cw,aj⟩;have cd:=af;have cj:=aD;have af:=kn 0 rfl;have aD:=kn 4 rfl;simp only[bL,Nat.reduceAdd,Nat.reduceEqDiff,reduceIte,jT,nf] at af aD;clear kn;rw[cd] at af;rw[cj] at aD;have im:=bh.ext o.jO.ext aj aF;have sS:=(im.at i cE).cells 0 _ rfl;have ai:=(im.at i cE).cells 1 _ rfl;refine cg (i_ af (i_ aD aY)) ?_;apply I_<;>intro g4
 .have aZ:k<l.length:=by omega
  have lH:=(im.at k aZ).cells 0 _ rfl;have ns:o.nameAt (fun x:o.Scalar=>x.name) l k=l[k].name:=r2 _ _ _ aZ;refine cg (i_ af (i_ aD aY)) ?_;refine K_ k rfl aZ ?_;refine cg (i_ af (i_ aD aY)) ?_;refine M_ lH ?_;refine cg (i_ af (i_ aD aY)) ?_;refine K_ i rfl cE ?_;refine cg (i_ af (i_ aD aY)) ?_;refine M_ sS ?_;refine cg (i_ af (i_ aD aY)) ?_;intro aR aA;apply I_<;>intro g5
  .refine cg (i_ af (i_ aD aY)) ?_;have aB:=MI (mo:=o.uI l) hm qH (show k<i by omega) (by rw[ns,fN];exact g5);rw[o.scalars,o.ji cE dA (by rw[aB];decide),aB];exact⟨rfl,aj.trans aA⟩
  .refine cg (i_ af (i_ aD aY)) ?_;refine Q_ (by omega) ?_;refine cg (i_ af (i_ aD aY)) ?_;refine⟨⟨k+1,by omega,rfl,fun j aE=>?_,aj.trans aA⟩,by simp[intOf];omega⟩;by_cases gV:j<k
   .exact cw j gV
   .have:j=k:=by omega
    subst this;rw[ns,fN];exact g5
 have hq:=MH (mo:=o.uI l) hm qH (fun j aE=>cw j (by omega));have vU:o.uI l i=if 1<=l[i].size/\l[i].size<=4 then 0 else 10:=by simp[o.uI,cE]
 rw[vU] at hq;generalize l[i].size=z at ai hq;refine cg (i_ af (i_ aD aY)) ?_;refine K_ i rfl cE ?_;refine cg (i_ af (i_ aD aY)) ?_;refine M_ ai ?_;refine cg (i_ af (i_ aD aY)) ?_;apply I_<;>intro g6
 .refine cg (i_ af (i_ aD aY)) ?_;rw[if_neg (by omega)] at hq;rw[o.scalars,o.ji cE dA (by rw[hq];decide),hq];exact⟨rfl,aj⟩
 refine cg (i_ af (i_ aD aY)) ?_;refine K_ i rfl cE ?_;refine cg (i_ af (i_ aD aY)) ?_;refine M_ ai ?_;refine cg (i_ af (i_ aD aY)) ?_;apply I_<;>intro g7
 .refine cg (i_ af (i_ aD aY)) ?_;rw[if_neg (by omega)] at hq;rw[o.scalars,o.ji cE dA (by rw[hq];decide),hq];exact⟨rfl,aj⟩
 .refine cg (i_ af (i_ aD aY)) ?_;rw[if_pos (by omega)] at hq;refine Q_ (by omega) ?_;refine cg (i_ af (i_ aD aY)) ?_;refine⟨⟨i+1,by omega,rfl,fun j aE=>?_,aj⟩,by simp[intOf,cj];omega⟩;by_cases hF:j<i
  .exact dA j hF
  .have:j=i:=by omega
   subst this;exact hq
end Go.Proofs.R
end
section
namespace Go.Proofs.R
open Go Go.RowKit bb
theorem abA(aO U:Int)(w:A_):a7 Tryz.prog F.E3 #[.int .i64 aO,.int .i64 U] w fun v w'=>v = .bool (o.narrow aO U)/\w'=w:=by
 refine bn E.E3 ?_
 (repeat' first
  | (refine I_ (fun _=>?_) (fun _=>?_)<;>try (exfalso;omega))
  | (refine N_ (fun _=>?_) (fun _=>?_))
  | (refine Q_ (by omega) ?_)
  | (refine M_ (by assumption) ?_)
  | (refine _Z (by omega) ?_)
  | simp -dsimp only[c0,cB,Nat.reduceAdd,Nat.reduceEqDiff,reduceIte,reduceCtorEq,dd])
 all_goals (refine⟨?_,by first | rfl | trivial⟩;congr 1;rw[Bool.eq_iff_iff];simp[o.narrow];omega)
def KX(v:o.Var)(s:C_ o.Scalar):Int :=
 if (v.scalar≠0/\o.size v.scalar s=0)\/(v.over≠0/\o.size v.over s=0) then 8
 else if v.scalar=0/\(o.narrow v.aO v.U=false\/v.init<v.aO\/v.init > v.U) then 10
 else if v.scalar≠0/\(v.init<0\/v.init > o.size v.scalar s) then 10 else 0
theorem aqH(l:C_ o.Var)(s:C_ o.Scalar)(i:Nat)(h:i<l.length):o.py l s i=KX l[i] s:=by
 rw[o.py,List.getElem?_eq_getElem h];simp only[KX,o.there,o.bounds,decide_eq_false_iff_not];by_cases af:l[i].scalar=0
 .simp only[af,if_true];by_cases h1:l[i].over=0
  .simp[h1]
  .simp[h1]
 .simp only[af,if_false];by_cases h1:l[i].over=0
  .simp[af,h1]
  .simp[af,h1]
theorem aoF(x:o.Var)(v:B_)(l:C_ o.Scalar)(w:A_)(aF:o.h2 w v l) :
  a7 Tryz.prog F.JP #[.agg x.enc.toArray,v] w fun v w'=>v = .int .i64 (KX x l)/\Ext w w':=by
 obtain⟨aQ,cap,rfl,hlen⟩:=aF.form;refine bn E.JP ?_;simp -dsimp only[c0,cB,Nat.reduceAdd,Nat.reduceEqDiff,reduceIte,reduceCtorEq,dd];refine O_ fun w1 b ak al ai=>?_;have ph:=bh.ext o.jO.ext al aF;have c1:w1.cell? (Addr.add ⟨b,0,none⟩ 1)=some (.int .i64 x.scalar):=fQ ai rfl;have c2:w1.cell? (Addr.add ⟨b,0,none⟩ 2)=some (.int .i64 x.over):=fQ ai rfl;have br:w1.cell? (Addr.add ⟨b,0,none⟩ 3)=some (.int .i64 x.aO):=fQ ai rfl;have bF:w1.cell? (Addr.add ⟨b,0,none⟩ 4)=some (.int .i64 x.U):=fQ ai rfl;have yW:w1.cell? (Addr.add ⟨b,0,none⟩ 5)=some (.int .i64 x.init):=fQ ai rfl;have au:∀k w',Ext w1 w'->a7 Tryz.prog F.E2 #[.slice aQ l.length cap,.int .i64 k] w' fun u bK=>u = .int .i64 (o.size k l)/\Ext w' bK:=fun k w' he =>
  (Ce k _ l w' (bh.ext o.jO.ext he ph)).mono fun v bK h=>⟨h.1,h.2 ▸ Ext.refl _⟩
 (repeat' first
  | (refine I_ (fun _=>?_) (fun _=>?_)<;>try (exfalso;omega))
  | (refine N_ (fun _=>?_) (fun _=>?_))
  | (refine M_ (by assumption) ?_)
  | (refine J_ (Ce _ _ l _ ph) ?_;rintro _ w1 ⟨rfl,rfl⟩)
  | (refine J_ (abA _ _ _) ?_;rintro _ w1 ⟨rfl,rfl⟩)
  | (refine P_ _ (au _) ?_)
  | simp -dsimp only[c0,cB,Nat.reduceAdd,Nat.reduceEqDiff,reduceIte,reduceCtorEq,dd]
  | (intro aH ao;replace ao:=al.trans ao))
 all_goals (refine⟨?_,by assumption⟩;congr 1;unfold KX;simp only[o.narrow,decide_eq_false_iff_not])
 all_goals (repeat' split)
 all_goals first | rfl | (exfalso;omega)
theorem aaS(v v2:B_)(l:C_ o.Var)(s:C_ o.Scalar)(fC:Int)(w:A_)(aF:o.hP w v l)(an:o.h2 w v2 s) :
  a7 Tryz.prog F.JO #[v,v2,.int .i64 fC] w fun v w'=>v = .tuple #[.int .i64 (o.vars l s fC).1,.int .i64 (o.vars l s fC).2]/\Ext w w':=by
 obtain⟨aQ,cap,rfl,hlen⟩:=aF.form;refine bn E.JO ?_;simp -dsimp only[c0,cB,Nat.reduceAdd,Nat.reduceEqDiff,reduceIte,reduceCtorEq,dd];refine Z_ (fun S w' => ∃i:Nat,i<=l.length/\S 8 = .int .i64 i/\(∀j,j<i->o.err (max fC 0) (o.nameAt (·.name) l) (o.py l s) j=0)/\Ext w w')
  (fun S _=>(l.length - intOf (S 8)).toNat) ⟨0,by omega,by simp -dsimp only[c0,cB,Nat.reduceAdd,Nat.reduceEqDiff,reduceIte,reduceCtorEq,dd];rfl,fun _ h=>absurd h (Nat.not_lt_zero _),Ext.refl _⟩ ?_
 rintro S w' bZ ⟨i,U,dC,dA,he⟩;have af:=bZ 0 rfl;have h1:=bZ 1 rfl;have I:=bZ 2 rfl;simp only[bL,Nat.reduceAdd,Nat.reduceEqDiff,reduceIte,jT,nf] at af h1 I;clear bZ;refine cg (i_ af (i_ h1 (i_ I dC))) ?_;apply I_<;>intro g1;rotate_left
 .refine cg (i_ af (i_ h1 (i_ I dC))) ?_;rw[o.vars,o.pa (fun j aE=>dA j (by omega))];exact⟨rfl,he⟩
 have cE:i<l.length:=by omega
 obtain⟨a,rfl⟩:=aF.addr;have im:=bh.ext o.qs.ext he aF;have sS:=(im.at i cE).cells 0 _ rfl;have di:o.jo l[i].name:=(im.at i cE).ok;have fN:o.nameAt (fun x:o.Var=>x.name) l i=l[i].name:=r2 _ _ _ cE;refine cg (i_ af (i_ h1 (i_ I dC))) ?_;apply I_<;>intro g2
 .refine cg (i_ af (i_ h1 (i_ I dC))) ?_;rw[o.vars,o.ji cE dA (by rw[y6 (by omega)];decide),y6 (by omega)];exact⟨rfl,he⟩
 have hm:¬(max fC 0:Int)<=(i:Int):=by omega
 refine cg (i_ af (i_ h1 (i_ I dC))) ?_;refine K_ i rfl cE ?_;refine cg (i_ af (i_ h1 (i_ I dC))) ?_;refine M_ sS ?_;refine cg (i_ af (i_ h1 (i_ I dC))) ?_;refine J_ (Ci _ _ di) ?_;rintro _ aH ⟨rfl,ao⟩;refine cg (i_ af (i_ h1 (i_ I dC))) ?_;refine N_ (fun g3=>?_) (fun g3=>?_);rotate_left
 .refine cg (i_ af (i_ h1 (i_ I dC))) ?_;rw[<-fN] at g3;rw[o.vars,o.ji cE dA (by rw[Be hm g3];decide),Be hm g3];exact⟨rfl,he.trans ao⟩
 have qH:=g3;rw[<-fN] at qH;replace ao:=he.trans ao;clear he im;refine cg (i_ af (i_ h1 (i_ I dC))) ?_;refine Z_ (fun aX w' => ∃k:Nat,k<=i/\aX 9 = .int .i64 k/\(∀j,j<k->o.nameAt (fun x:o.Var=>x.name) l j≠o.nameAt (fun x:o.Var=>x.name) l i)/\Ext w w')
  (fun S _=>(i - intOf (S 9)).toNat) ⟨0,by omega,by simp -dsimp only[c0,cB,Nat.reduceAdd,Nat.reduceEqDiff,reduceIte,reduceCtorEq,dd];rfl,fun _ h=>absurd h (Nat.not_lt_zero _),ao⟩ ?_
 rintro kB aP kn ⟨k,hk,jj,cw,aj⟩;have cd:=af;have bO:=h1;have bV:=I;have aab:=dC;have af:=kn 0 rfl;have h1:=kn 1 rfl;have I:=kn 2 rfl;have dC:=kn 8 rfl;simp only[bL,Nat.reduceAdd,Nat.reduceEqDiff,reduceIte,jT,nf] at af h1 I dC;clear kn;rw[cd] at af;rw[bO] at h1;rw[bV] at I;rw[aab] at dC;have im:=bh.ext o.qs.ext aj aF;have sS:=(im.at i cE).cells 0 _ rfl;refine cg (i_ af (i_ h1 (i_ I (i_ dC jj)))) ?_;apply I_<;>intro g4
 .have aZ:k<l.length:=by omega
  have lH:=(im.at k aZ).cells 0 _ rfl;have ns:o.nameAt (fun x:o.Var=>x.name) l k=l[k].name:=r2 _ _ _ aZ;refine cg (i_ af (i_ h1 (i_ I (i_ dC jj)))) ?_;refine K_ k rfl aZ ?_;refine cg (i_ af (i_ h1 (i_ I (i_ dC jj)))) ?_;refine M_ lH ?_;refine cg (i_ af (i_ h1 (i_ I (i_ dC jj)))) ?_;refine K_ i rfl cE ?_;refine cg (i_ af (i_ h1 (i_ I (i_ dC jj)))) ?_;refine M_ sS ?_;refine cg (i_ af (i_ h1 (i_ I (i_ dC jj)))) ?_;intro aR aA;apply I_<;>intro g5
  .refine cg (i_ af (i_ h1 (i_ I (i_ dC jj)))) ?_;have aB:=MI (mo:=o.py l s) hm qH (show k<i by omega) (by rw[ns,fN];exact g5);rw[o.vars,o.ji cE dA (by rw[aB];decide),aB];exact⟨rfl,aj.trans aA⟩
  .refine cg (i_ af (i_ h1 (i_ I (i_ dC jj)))) ?_;refine Q_ (by omega) ?_;refine cg (i_ af (i_ h1 (i_ I (i_ dC jj)))) ?_;refine⟨⟨k+1,by omega,rfl,fun j aE=>?_,aj.trans aA⟩,by simp[intOf];omega⟩;by_cases gV:j<k
   .exact cw j gV
   .have:j=k:=by omega
    subst this;rw[ns,fN];exact g5
 have hq:=MH (mo:=o.py l s) hm qH (fun j aE=>cw j (by omega));rw[aqH l s i cE] at hq;have zC:=bh.ext o.jO.ext aj an;have kp:=(im.at i cE).cells;generalize l[i]=x at kp hq;refine cg (i_ af (i_ h1 (i_ I (i_ dC jj)))) ?_;refine K_ i rfl cE ?_;refine cg (i_ af (i_ h1 (i_ I (i_ dC jj)))) ?_;refine _B kp rfl ?_;refine cg (i_ af (i_ h1 (i_ I (i_ dC jj)))) ?_;refine J_ (aoF x _ s _ zC) ?_;rintro _ aR ⟨rfl,aA⟩;replace aA:=aj.trans aA;refine cg (i_ af (i_ h1 (i_ I (i_ dC jj)))) ?_;apply I_<;>intro g6;rotate_left
 .refine cg (i_ af (i_ h1 (i_ I (i_ dC jj)))) ?_;rw[o.vars,o.ji cE dA (by rw[hq];exact g6),hq];exact⟨rfl,aA⟩
 .refine cg (i_ af (i_ h1 (i_ I (i_ dC jj)))) ?_;rw[g6] at hq;refine Q_ (by omega) ?_;refine cg (i_ af (i_ h1 (i_ I (i_ dC jj)))) ?_;refine⟨⟨i+1,by omega,rfl,fun j aE=>?_,aA⟩,by simp[intOf,aab];omega⟩;by_cases hF:j<i
  .exact dA j hF
  .have:j=i:=by omega
   subst this;exact hq
end Go.Proofs.R
end
section
namespace Go.Proofs.R
open Go Go.RowKit bb
theorem aou(v v2:B_)(l:C_ o.dv)(s:C_ o.Scalar)(w:A_)(aF:o.mS w v l)(an:o.h2 w v2 s) :
  a7 Tryz.prog F.JM #[v,v2] w fun v w'=>v = .tuple #[.int .i64 (o.aw l s).1,.int .i64 (o.aw l s).2]/\Ext w w':=by
 obtain⟨aQ,cap,rfl,hlen⟩:=aF.form;refine bn E.JM ?_;refine aN ?_;refine Z_ (fun S w' => ∃i:Nat,i<=l.length/\S 6 = .int .i64 i/\(∀j,j<i->o.err 4 (o.nameAt (·.name) l) (o.o7 l s) j=0)/\Ext w w')
  (fun S _=>(l.length - intOf (S 6)).toNat) ⟨0,by omega,by refine aN ?_;rfl,fun _ h=>absurd h (Nat.not_lt_zero _),Ext.refl _⟩ ?_
 rintro S w' bZ ⟨i,U,bx,dA,he⟩;have af:=bZ 0 rfl;have h1:=bZ 1 rfl;simp only[bL,Nat.reduceAdd,Nat.reduceEqDiff,reduceIte,jT,nf] at af h1;clear bZ;have p0:=ZN (by omega) dA;simp -dsimp only[c0,cB,Nat.reduceAdd,Nat.reduceEqDiff,reduceIte,reduceCtorEq,dd,af,h1,bx];apply I_<;>intro g1;rotate_left
 .simp -dsimp only[c0,cB,Nat.reduceAdd,Nat.reduceEqDiff,reduceIte,reduceCtorEq,dd,af,h1,bx];rw[o.aw,o.pa (fun j aE=>dA j (by omega))];exact⟨rfl,he⟩
 have cE:i<l.length:=by omega
 obtain⟨a,rfl⟩:=aF.addr;have im:=bh.ext o.qq.ext he aF;have sS:=(im.at i cE).cells 0 _ rfl;have di:o.jo l[i].name:=(im.at i cE).ok;have fN:o.nameAt (fun x:o.dv=>x.name) l i=l[i].name:=r2 _ _ _ cE;simp -dsimp only[c0,cB,Nat.reduceAdd,Nat.reduceEqDiff,reduceIte,reduceCtorEq,dd,af,h1,bx];apply I_<;>intro g2
 .simp -dsimp only[c0,cB,Nat.reduceAdd,Nat.reduceEqDiff,reduceIte,reduceCtorEq,dd,af,h1,bx];rw[o.aw,o.ji cE dA (by rw[y6 (by omega)];decide),y6 (by omega)];exact⟨rfl,he⟩
 have hm:¬(4:Int)<=(i:Int):=by omega
 simp -dsimp only[c0,cB,Nat.reduceAdd,Nat.reduceEqDiff,reduceIte,reduceCtorEq,dd,af,h1,bx];refine K_ i rfl cE ?_;simp -dsimp only[c0,cB,Nat.reduceAdd,Nat.reduceEqDiff,reduceIte,reduceCtorEq,dd,af,h1,bx];refine M_ sS ?_;simp -dsimp only[c0,cB,Nat.reduceAdd,Nat.reduceEqDiff,reduceIte,reduceCtorEq,dd,af,h1,bx];refine J_ (Ci _ _ di) ?_;rintro _ aH ⟨rfl,ao⟩;simp -dsimp only[c0,cB,Nat.reduceAdd,Nat.reduceEqDiff,reduceIte,reduceCtorEq,dd,af,h1,bx];refine N_ (fun g3=>?_) (fun g3=>?_);rotate_left
 .simp -dsimp only[c0,cB,Nat.reduceAdd,Nat.reduceEqDiff,reduceIte,reduceCtorEq,dd,af,h1,bx];rw[<-fN] at g3;rw[o.aw,o.ji cE dA (by rw[Be hm g3];decide),Be hm g3];exact⟨rfl,he.trans ao⟩
 have qH:=g3;rw[<-fN] at qH;replace ao:=he.trans ao;clear he im;simp -dsimp only[c0,cB,Nat.reduceAdd,Nat.reduceEqDiff,reduceIte,reduceCtorEq,dd,af,h1,bx];refine Z_ (fun aX w' => ∃k:Nat,k<=i/\aX 7 = .int .i64 k/\(∀j,j<k->o.nameAt (fun x:o.dv=>x.name) l j≠o.nameAt (fun x:o.dv=>x.name) l i)/\Ext w w')
  (fun S _=>(i - intOf (S 7)).toNat) ⟨0,by omega,by refine aN ?_;rfl,fun _ h=>absurd h (Nat.not_lt_zero _),ao⟩ ?_
 rintro kB aP kn ⟨k,hk,b1,cw,aj⟩;have cd:=af;have bO:=h1;have PX:=bx;have af:=kn 0 rfl;have h1:=kn 1 rfl;have bx:=kn 6 rfl;simp only[bL,Nat.reduceAdd,Nat.reduceEqDiff,reduceIte,jT,nf] at af h1 bx;clear kn;rw[cd] at af;rw[bO] at h1;rw[PX] at bx;have im:=bh.ext o.qq.ext aj aF;have sS:=(im.at i cE).cells 0 _ rfl;simp -dsimp only[c0,cB,Nat.reduceAdd,Nat.reduceEqDiff,reduceIte,reduceCtorEq,dd,af,h1,bx,b1];apply I_<;>intro g4
 .have aZ:k<l.length:=by omega
  have lH:=(im.at k aZ).cells 0 _ rfl;have ns:o.nameAt (fun x:o.dv=>x.name) l k=l[k].name:=r2 _ _ _ aZ;simp -dsimp only[c0,cB,Nat.reduceAdd,Nat.reduceEqDiff,reduceIte,reduceCtorEq,dd,af,h1,bx,b1];refine K_ k rfl aZ ?_;simp -dsimp only[c0,cB,Nat.reduceAdd,Nat.reduceEqDiff,reduceIte,reduceCtorEq,dd,af,h1,bx,b1];refine M_ lH ?_;simp -dsimp only[c0,cB,Nat.reduceAdd,Nat.reduceEqDiff,reduceIte,reduceCtorEq,dd,af,h1,bx,b1];refine K_ i rfl cE ?_;simp -dsimp only[c0,cB,Nat.reduceAdd,Nat.reduceEqDiff,reduceIte,reduceCtorEq,dd,af,h1,bx,b1];refine M_ sS ?_;simp -dsimp only[c0,cB,Nat.reduceAdd,Nat.reduceEqDiff,reduceIte,reduceCtorEq,dd,af,h1,bx,b1];intro aR aA;apply I_<;>intro g5
  .simp -dsimp only[c0,cB,Nat.reduceAdd,Nat.reduceEqDiff,reduceIte,reduceCtorEq,dd,af,h1,bx,b1];have aB:=MI (mo:=o.o7 l s) hm qH (show k<i by omega) (by rw[ns,fN];exact g5);rw[o.aw,o.ji cE dA (by rw[aB];decide),aB];exact⟨rfl,aj.trans aA⟩
  .simp -dsimp only[c0,cB,Nat.reduceAdd,Nat.reduceEqDiff,reduceIte,reduceCtorEq,dd,af,h1,bx,b1];refine Q_ (by omega) ?_;simp -dsimp only[c0,cB,Nat.reduceAdd,Nat.reduceEqDiff,reduceIte,reduceCtorEq,dd,af,h1,bx,b1];refine⟨⟨k+1,by omega,rfl,fun j aE=>?_,aj.trans aA⟩,by simp[intOf];omega⟩;by_cases gV:j<k
   .exact cw j gV
   .have:j=k:=by omega
    subst this;rw[ns,fN];exact g5
 have hq:=MH (mo:=o.o7 l s) hm qH (fun j aE=>cw j (by omega));have fl:o.o7 l s i=if o.there l[i].scalar s=false then 8 else if l[i].cap<1\/l[i].cap > 4\/(l[i].scalar=0/\o.narrow l[i].aO l[i].U=false) then 10 else 0:=by simp[o.o7,cE]
 rw[fl] at hq;have zC:=bh.ext o.jO.ext aj an;have c1:=(im.at i cE).cells 1 _ rfl;have c2:=(im.at i cE).cells 2 _ rfl;have br:=(im.at i cE).cells 3 _ rfl;have bF:=(im.at i cE).cells 4 _ rfl;simp only[o.there,o.narrow,decide_eq_false_iff_not] at hq;generalize l[i].scalar=xs at c1 hq;generalize l[i].cap=auk at c2 hq;generalize l[i].aO=Ru at br hq;generalize l[i].U=Rt at bF hq;clear fl;have au:∀w',Ext aP w'->a7 Tryz.prog F.E3 #[.int .i64 Ru,.int .i64 Rt] w' fun u bK=>u = .bool (o.narrow Ru Rt)/\Ext w' bK:=fun w' he =>
  (abA Ru Rt w').mono fun v bK h=>⟨h.1,h.2 ▸ Ext.refl _⟩
 simp -dsimp only[c0,cB,Nat.reduceAdd,Nat.reduceEqDiff,reduceIte,reduceCtorEq,dd,af,h1,bx,b1]
 (repeat' first
  | (refine I_ (fun _=>?_) (fun _=>?_)<;>try (exfalso;omega))
  | (refine N_ (fun _=>?_) (fun _=>?_))
  | (refine K_ i rfl cE ?_)
  | (refine M_ (by assumption) ?_)
  | (refine J_ (Ce _ _ s _ zC) ?_;rintro _ aP ⟨rfl,rfl⟩)
  | (refine P_ _ au ?_)
  | simp -dsimp only[c0,cB,Nat.reduceAdd,Nat.reduceEqDiff,reduceIte,reduceCtorEq,dd,af,h1,bx,b1]
  | (intro aR aA;replace aA:=aj.trans aA))
 all_goals first
  | (rw[if_pos (by omega)] at hq
     rw[o.aw,o.ji cE dA (by rw[hq];decide),hq];exact⟨rfl,by assumption⟩)
  | (rw[if_neg (by omega),if_pos (by omega)] at hq
     rw[o.aw,o.ji cE dA (by rw[hq];decide),hq];exact⟨rfl,by assumption⟩)
  | (rw[if_neg (by omega),if_neg (by omega)] at hq
     refine Q_ (by omega) ?_;simp -dsimp only[c0,cB,Nat.reduceAdd,Nat.reduceEqDiff,reduceIte,reduceCtorEq,dd,af,h1,bx,b1];refine⟨⟨i+1,by omega,rfl,fun j aE=>?_,by assumption⟩,by simp[intOf,PX];omega⟩;by_cases hF:j<i
     .exact dA j hF
     .have:j=i:=by omega
      subst this;exact hq)
end Go.Proofs.R
end
section
namespace o
theorem adi(m:Model)(i:Nat):va m 2 i=r1 m i:=by
 have bt:cM 1 2 i m.vars.length=min m.vars.length i:=by unfold cM;rw[if_pos (by decide),if_neg (by decide)];simp
 have aI:cM 2 2 i m.aw.length=0:=by unfold cM;rw[if_neg (by decide)]
 have ba:cM 3 2 i m.procs.length=0:=by unfold cM;rw[if_neg (by decide)]
 have bG:hZ 2 i m.props.length=0:=by unfold hZ;rw[if_neg (by decide)]
 unfold va;rw[bt,aI,ba,bG];simp only[r1,Ff,zS,List.take_zero,List.map_nil,List.append_nil];rw[Nat.min_comm,<-List.take_take];simp only[List.take_length]
theorem adg(m:Model)(i:Nat):va m 3 i=nw m i:=by
 have bt:cM 1 3 i m.vars.length=m.vars.length:=by unfold cM;rw[if_pos (by decide),if_pos (by decide)]
 have aI:cM 2 3 i m.aw.length=min m.aw.length i:=by unfold cM;rw[if_pos (by decide),if_neg (by decide)];simp
 have ba:cM 3 3 i m.procs.length=0:=by unfold cM;rw[if_neg (by decide)]
 have bG:hZ 3 i m.props.length=0:=by unfold hZ;rw[if_neg (by decide)]
 unfold va;rw[bt,aI,ba,bG];simp only[nw,r1,Ff,zS,zR,List.take_zero,List.map_nil,List.append_nil];rw[Nat.min_comm,<-List.take_take];simp only[List.take_length]
theorem adh(m:Model)(i:Nat):va m 4 i=iZ m i:=by
 have bt:cM 1 4 i m.vars.length=m.vars.length:=by unfold cM;rw[if_pos (by decide),if_pos (by decide)]
 have aI:cM 2 4 i m.aw.length=m.aw.length:=by unfold cM;rw[if_pos (by decide),if_pos (by decide)]
 have ba:cM 3 4 i m.procs.length=min m.procs.length i:=by unfold cM;rw[if_pos (by decide),if_neg (by decide)];simp
 have bG:hZ 4 i m.props.length=0:=by unfold hZ;rw[if_neg (by decide)]
 unfold va;rw[bt,aI,ba,bG];simp only[iZ,nw,r1,Ff,zS,zR,yb,List.take_zero,List.map_nil,List.append_nil];rw[Nat.min_comm,<-List.take_take];simp only[List.take_length]
theorem Ux(m:Model)(i:Nat):va m 5 i=r0 m i:=by
 have bt:cM 1 5 i m.vars.length=m.vars.length:=by unfold cM;rw[if_pos (by decide),if_pos (by decide)]
 have aI:cM 2 5 i m.aw.length=m.aw.length:=by unfold cM;rw[if_pos (by decide),if_pos (by decide)]
 have ba:cM 3 5 i m.procs.length=m.procs.length:=by unfold cM;rw[if_pos (by decide),if_pos (by decide)]
 have bG:hZ 5 i m.props.length=min m.props.length i:=by unfold hZ;rw[if_pos (by decide)];simp
 unfold va;rw[bt,aI,ba,bG];simp only[r0,iZ,nw,r1,Ff,zS,zR,yb,PM];rw[Nat.min_comm,<-List.take_take];simp only[List.take_length]
theorem wJ(q p i:Int)(len:Nat):cM q p i len<=len:=by unfold cM; (repeat' split)<;>omega
end o
namespace Go.Proofs.R
open Go Go.RowKit bb
def xw(f:o.sh):B_:=.agg #[.int .i64 f.cA,.int .i64 f.part,.int .i64 f.item,.int .i64 f.sub]
theorem aov(cs:C_ B_)(m:o.Model)(w:A_)(h:o.dV w cs m) :
  a7 Tryz.prog F.J0 #[.agg cs.toArray] w fun v w'=>v=xw (o.data m)/\Ext w w':=by
 have a1:=h;obtain⟨cd,bw,bO,c1,bV,c2,b2,br,cj,bF,rfl,af,h1,I,ab,aD,eU,ek,ev,ef,ew⟩:=h.form;refine bn E.J0 ?_;refine J ?_;intro w1 bo cT al ai;refine J ?_;intro aH bR dt ao av;replace ai:=ao.obj ai;have aI:=al.trans ao;have gj:=cy ai;have z2:=al.size;refine J ?_;refine J_ (aoD _ m.scalars aH (af.ext aI)) ?_;rintro _ aP ⟨rfl,aj⟩;replace ai:=aj.obj ai;replace av:=aj.obj av;have ba:=aI.trans aj;clear aI;refine J ?_;apply I_<;>intro g1;rotate_left
 .have a6:=o.Vu g1;refine J ?_;intro aR du bH;refine J ?_;exact⟨by rw[a6];rfl,du.ext ba (by omega)⟩
 have bZ:(o.scalars m.scalars).2=0:=by simpa using g1
 have kn:=o.abk bZ;have xH:=ai;have zm:=av;refine J ?_;refine L_ 5 m.vars.length [1,2] (fun _:Unit=>[]) () (fun k _ w'=>Ext aP w'/\∀j,j<k->o.jy m j=0) bc bc ⟨Ext.refl _,fun j h=>absurd h (Nat.not_lt_zero _)⟩ ?_;clear ai av;rintro k _ S aR hk ⟨aA,bA⟩;have ai:=aA.obj xH;have av:=aA.obj zm;have bG:=ba.trans aA;refine J ?_;apply I_<;>intro g2
 .have aZ:k<m.vars.length:=by omega
  have h7:=(bh.len h1).2;have Nz:=h7.2;unfold maxLen at Nz;obtain⟨a,rfl⟩:=h1.addr;have fN:=o.B6 (f:=fun x:o.Var=>x.name) aZ;have eo:=((h1.at k aZ).cells).ext bG;have O2:∀j,j<k->o.og m j=0:=fun j aE=>o.K4 (bA j aE);refine J ?_;refine _M (k:=.i64) (k+1) (by simp[dp,bL]) (by omega) ?_;refine J ?_;refine P_ (.tuple #[.int .i64 (o.vars (m.vars.take (k+1)) m.scalars 12).1,.int .i64 (o.vars (m.vars.take (k+1)) m.scalars 12).2]) (fun w' e=>aaS _ _ (m.vars.take (k+1)) m.scalars 12 w' ((h1.head (k+1) (by omega)).ext o.qs.ext (bG.trans e)) (af.ext (bG.trans e))) ?_;refine J ?_;intro bq aJ;replace ai:=aJ.obj ai;replace av:=aJ.obj av;replace eo:=eo.ext aJ;have bU:=bG.trans aJ;rw[o.aqM aZ O2];refine J ?_;apply I_<;>intro g3;rotate_left
  .have kN:o.jy m k=o.og m k:=by unfold o.jy;rw[if_pos g3]
   have a6:=o.G7 bZ aZ bA (by rw[kN];exact g3);rw[kN] at a6;refine J ?_;intro bB gn b4;refine J ?_;exact⟨by rw[a6];rfl,gn.ext bU (by omega)⟩
  have jm:o.og m k=0:=by simpa using g3
  have asK:k<12:=by
   apply Classical.byContradiction;intro ay;have h:=jm;unfold o.og o.err at h;rw[if_pos (by omega)] at h;cases h
  refine J ?_;intro bB aT;replace ai:=aT.obj ai;replace av:=aT.obj av;refine J ?_;refine J_ (C6 _ m 2 k bB (a1.ext (bU.trans aT)) (by omega) (by omega) (by
   have cV:o.cM 1 2 k m.vars.length<=k:=by unfold o.cM; (repeat' split)<;>omega
   have dq:o.cM 2 2 k m.aw.length=0:=by unfold o.cM;rw[if_neg (by decide)]
   have dU:o.cM 3 2 k m.procs.length=0:=by unfold o.cM;rw[if_neg (by decide)]
   have hy:o.hZ 2 k m.props.length=0:=by unfold o.hZ;rw[if_neg (by decide)]
   omega)) ?_
  rintro _ bQ ⟨⟨v,rfl,fB⟩,bz⟩;refine⟨bz,?_⟩;rw[o.adi] at fB;refine J ?_;refine J_ (D1 v _ m.vars[k].name _ bQ fB) ?_;rintro _ oh ⟨rfl,rfl⟩;replace ai:=bz.obj ai;replace av:=bz.obj av;have XE:=aT.trans bz;have dQ:=bU.trans XE;refine J ?_;apply I_<;>intro g4
  .have kN:o.jy m k=7:=by unfold o.jy;rw[if_neg (by simpa using jm),fN,if_pos g4]
   have a6:=o.G7 bZ aZ bA (by rw[kN];decide);rw[kN] at a6;refine J ?_;intro de iH c4;refine J ?_;exact⟨by rw[a6];rfl,iH.ext dQ (by omega)⟩
  .refine J ?_;refine⟨aZ,aU,(),trivial,(aA.trans aJ).trans XE,fun j aE=>?_⟩;by_cases gV:j=k
   .subst gV;unfold o.jy;rw[if_neg (by simpa using jm),fN,if_neg g4]
   .exact bA j (by omega)
 have mA:∀j,j<m.vars.length->o.jy m j=0:=fun j aE=>bA j (by omega);have ar7:m.vars.length<=12:=by
  apply Classical.byContradiction;intro ay
  have:=o.VX (mA 12 (by omega))
  omega
 clear ai av;refine J ?_;refine L_ 8 m.aw.length [1,2] (fun _:Unit=>[]) () (fun k _ w'=>Ext aP w'/\∀j,j<k->o.kk m j=0) bc bc ⟨aA,fun j h=>absurd h (Nat.not_lt_zero _)⟩ ?_;clear bG;rintro k _ aX bq hk ⟨aJ,bA⟩;have ai:=aJ.obj xH;have av:=aJ.obj zm;have bG:=ba.trans aJ;refine J ?_;apply I_<;>intro g2
 .have aZ:k<m.aw.length:=by omega
  have h7:=(bh.len I).2;have Nz:=h7.2;unfold maxLen at Nz;obtain⟨a,rfl⟩:=I.addr;have fN:=o.B6 (f:=fun x:o.dv=>x.name) aZ;have eo:=((I.at k aZ).cells).ext bG;have O2:∀j,j<k->o.nS m j=0:=fun j aE=>o.GU (bA j aE);refine J ?_;refine _M (k:=.i64) (k+1) (by simp[dp,bL]) (by omega) ?_;refine J ?_;refine P_ (.tuple #[.int .i64 (o.aw (m.aw.take (k+1)) m.scalars).1,.int .i64 (o.aw (m.aw.take (k+1)) m.scalars).2]) (fun w' e=>aou _ _ (m.aw.take (k+1)) m.scalars w' ((I.head (k+1) (by omega)).ext o.qq.ext (bG.trans e)) (af.ext (bG.trans e))) ?_;refine J ?_;intro bB aT;replace ai:=aT.obj ai;replace av:=aT.obj av;replace eo:=eo.ext aT;have bU:=bG.trans aT;rw[o.aeF aZ O2];refine J ?_;apply I_<;>intro g3;rotate_left
  .have kN:o.kk m k=o.nS m k:=by unfold o.kk;rw[if_pos g3]
   have a6:=o.G5 bZ mA aZ bA (by rw[kN];exact g3);rw[kN] at a6;refine J ?_;intro bB gn b4;refine J ?_;exact⟨by rw[a6];rfl,gn.ext bU (by omega)⟩
  have jm:o.nS m k=0:=by simpa using g3
  have asL:k<4:=by
   apply Classical.byContradiction;intro ay;have h:=jm;unfold o.nS o.err at h;rw[if_pos (by omega)] at h;cases h
  refine J ?_;intro bQ bz;replace ai:=bz.obj ai;replace av:=bz.obj av;refine J ?_;refine J_ (C6 _ m 3 k bQ (a1.ext (bU.trans bz)) (by omega) (by omega) (by
   have cV:=o.wJ 1 3 k m.vars.length;have dq:o.cM 2 3 k m.aw.length<=k:=by unfold o.cM; (repeat' split)<;>omega
   have dU:o.cM 3 3 k m.procs.length=0:=by unfold o.cM;rw[if_neg (by decide)]
   have hy:o.hZ 3 k m.props.length=0:=by unfold o.hZ;rw[if_neg (by decide)]
   omega)) ?_
  rintro _ de ⟨⟨v,rfl,fB⟩,bP⟩;refine⟨bP,?_⟩;rw[o.adg] at fB;refine J ?_;refine J_ (D1 v _ m.aw[k].name _ de fB) ?_;rintro _ oh ⟨rfl,rfl⟩;replace ai:=bP.obj ai;replace av:=bP.obj av;have vI:=bz.trans bP;have dQ:=bU.trans vI;refine J ?_;apply I_<;>intro g4
  .have kN:o.kk m k=7:=by unfold o.kk;rw[if_neg (by simpa using jm),fN,if_pos g4]
   have a6:=o.G5 bZ mA aZ bA (by rw[kN];decide);rw[kN] at a6;refine J ?_;intro de iH c4;refine J ?_;exact⟨by rw[a6];rfl,iH.ext dQ (by omega)⟩
  .refine J ?_;refine⟨aZ,aU,(),trivial,(aJ.trans aT).trans vI,fun j aE=>?_⟩;by_cases gV:j=k
   .subst gV;unfold o.kk;rw[if_neg (by simpa using jm),fN,if_neg g4]
   .exact bA j (by omega)
 have a6:=o.Vs bZ mA fun j aE=>bA j (by omega);refine J ?_;intro bB gn b4;refine J ?_;exact⟨by rw[a6];rfl,gn.ext bG (by omega)⟩
end Go.Proofs.R
end