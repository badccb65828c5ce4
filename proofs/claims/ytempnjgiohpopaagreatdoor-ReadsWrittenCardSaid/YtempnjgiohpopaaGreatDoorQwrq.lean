/- Texts joined: MovF MovG ReaU ReaX ReaL MovR MovS ReaY Open1 Open2 Open3 Open6 Open5 MovZ LiteQ. -/
import Derived.Test.YtempnjgiohpopaaGreatDoorQwrc
import Derived.Test.YtempnjgiohpopaaGreatDoorQwrd
import Derived.Test.YtempnjgiohpopaaGreatDoorQwrg
import Derived.Test.YtempnjgiohpopaaGreatDoorQwrh
import Derived.Test.YtempnjgiohpopaaGreatDoorQwrn
import Derived.Test.YtempnjgiohpopaaGreatDoorQwro
import Derived.Test.YtempnjgiohpopaaGreatDoorQwrp
import Derived.SizedLaws
import Derived.JoinedCond
set_option linter.all false
set_option maxRecDepth 8000
set_option maxHeartbeats 32000000
section
namespace o
open Go
theorem VC(m:Model)(q:Nat)(l:List Act)(s:List Int){k:Nat}(hk:k<l.length):kD m q (l.take (k+1)) s=match kD m q (l.take k) s with | none=>none | some t=>lP m t q l[k]:=by
 rw[List.take_succ_eq_append_getElem hk,Oo];rfl
theorem On(m:Model)(q:Nat):∀(l:List Act) (s:List Int) (k:Nat),kD m q (l.take k) s=none→kD m q l s=none
 | [],s,k,h=>by simp[kD] at h
 | a :: l,s,0,h=>by simp[kD] at h
 | a :: l,s,k+1,h=>by
  simp only[List.take_succ_cons,kD] at h ⊢;cases h1:lP m s q a with
  | none=>rfl
  | some t=>rw[h1] at h;exact On m q l t k h
end o
namespace Go.Proofs.R
open Go Go.RowKit bt
theorem aej(cs:List Value)(v:Value)(m:o.Model)(s:List Int)(ref:Int)(q p k:Nat)(w:World)(h:nt w cs m)(a6:m.cT)(ay:fo w v s)(aJ:o.Fits m s)(de:o.gj m ref q p k) :
  bq Tryz.prog F.CH #[.agg cs.toArray,v,.int .i64 ref] w fun u w'=>NZ w.heap.size (o.kF m s q (o.dE m p k)) u w'∧Ext w w':=by
 have gk:=h;have bd:=o.pE de.ok;obtain⟨hz,d0,fk,d1,gp,d2,gL,d3,h2,d4,cv,bN,b9,c1,cq,c2,cm,bK,cw,bQ,et,ci,l5,jQ,rfl,fF,ra,gM,fl,fD,hc,jF,aj,h1,U,ai,Y6,Ik⟩:=h.form;obtain⟨os,yg,rfl,CJ⟩:=ay.form;have bM:=de.inst;have nH:=de.cin;have sx:=nH.gT;have aF:=bM.aF;have hlen:=aJ.len;have nD:o.fO m≤64:=o.l3 bd;have I1:=bM.room;obtain⟨r,rfl⟩:=Int.eq_ofNat_of_zero_le de.aZ;have bk:r<(o.refs m).length:=de.ad;have oP:(o.refs m)[r].inst=(q:Int):=de.at_.zv;have BK:(o.refs m)[r].cmd=(k:Int):=de.at_.zx;obtain⟨IZ,sA⟩:=o.wJ aF;obtain⟨nv,rfl⟩:=Ik.addr (by omega);obtain⟨a2,rfl⟩:=fD.addr (by omega);obtain⟨VU,rfl⟩:=ay.addr (by omega);have dd:=o.Py bd aJ aF;obtain⟨c,uv⟩:∃c,c=o.dE m p k:=⟨_,rfl⟩;rw[←uv] at nH sx ⊢;refine bI E.CH ?_;refine bF ?_;refine an ?_;intro w1 bZ fG az bG;have Zd:=Ik.ext Flat.ext az;refine an ?_;intro aR mj Bc aA eL;have HS:(o.refs m)[r].enc=[.int .i64 q,.int .i64 k]:=by unfold o.Ref.enc;rw[oP,BK]
 rw[HS] at eL;replace bG:=aA.obj bG;have bg:=az.trans aA;clear Zd;refine an ?_;refine K.call (Kq _ m r q p k aR (gk.ext bg) de) ?_;rintro _ ba ⟨⟨fw,eD,rfl,jB,ju⟩,au⟩;rw[←uv] at jB ju ⊢;obtain⟨n3,kE,rfl,_⟩:=jB.form;obtain⟨zn,ya,rfl,_⟩:=ju.form;replace bG:=au.obj bG;replace eL:=au.obj eL;have bO:=bg.trans au;unfold o.dD.enc;refine an ?_;intro bo iM lb aP dP;replace bG:=aP.obj bG;replace eL:=aP.obj eL;have b8:=bO.trans aP;have lZ:=ay.ext Flat.ext b8;have C0:=fD.ext Flat.ext b8;have Rp:=jB.ext (au.trans aP);have Rm:=ju.ext (au.trans aP);clear jB ju;refine an ?_;refine K.dr (o.dG m q) (by rw[sA]) (by omega) ?_;refine an ?_;intro bR bf;replace bG:=bf.obj bG;replace eL:=bf.obj eL;replace dP:=bf.obj dP;have ca:=b8.trans bf;have aaz:=Rp.ext bf;have Rn:=Rm.ext bf;have Re:s[o.dG m q]? = some (s[o.dG m q]'(by omega)):=List.getElem?_eq_getElem (by omega);clear Rp Rm lZ C0;refine ei ?_;apply K.cond<;>intro g1;rotate_left
 ·refine an ?_;exact⟨.inl ⟨by unfold o.kF;rw[Re,if_pos (by simpa using g1)],bu⟩,ca⟩
 have wj:o.kF m s q c=if 0<c.guard.length∧((o.eval c.guard (o.dK m s q)).2≠0∨(o.eval c.guard (o.dK m s q)).1=0) then none else (o.kD m q c.b6 s).map fun t=>t.set (o.dG m q) c.to:=by
  unfold o.kF;rw[Re,if_neg (by simpa using g1)]
 have Zx:=bG;have ZE:=eL;have Qw:=dP;refine ei ?_;refine K.hE [1,3,8,9] (fun _:Unit=>[]) (fun _ W=>Ext bR W∧¬(0<c.guard.length∧((o.eval c.guard (o.dK m s q)).2≠0∨(o.eval c.guard (o.dK m s q)).1=0))) ?_ ?_
 ·refine an ?_;apply K.cond<;>intro g2;rotate_left
  ·refine an ?_;exact⟨(),trivial,Ext.refl _,fun df=>by omega⟩
  have sI:=ay.ext Flat.ext ca;refine an ?_;intro bW bc;replace bG:=bc.obj bG;replace eL:=bc.obj eL;replace dP:=bc.obj dP;have c0:=ca.trans bc;refine an ?_;refine K.y1 [.slice hz m.scalars.length d0,.slice fk m.vars.length d1,.slice gp m.aH.length d2,.slice gL m.procs.length d3,.slice h2 m.props.length d4] bG rfl rfl ?_;refine an ?_;refine K.y1 [.slice cv (o.layout m).vars.length bN,.slice b9 (o.layout m).aH.length c1,.slice (some a2) (o.layout m).insts.length c2,.int .i64 (o.layout m).cells,.slice cm (o.layout m).aZ.length bK,.slice cw (o.layout m).ad.length bQ] bG rfl rfl ?_;refine an ?_;refine K.call (TP _ _ _ m s q bW (fF.ext c0) a6 bd (ra.ext c0) (ay.ext Flat.ext c0) aJ (by omega) (by omega)) ?_;rintro _ cj ⟨⟨es,rfl,aN⟩,bP⟩;have e0:=Px aN.here dd;refine⟨bP,?_⟩;refine an ?_;refine K.call (Ky _ c.guard _ (o.dK m s q) cj (aaz.ext (bc.trans bP)) e0) ?_;rintro _ dC ⟨rfl,bV⟩;obtain⟨n,BC⟩:∃n,n=(o.eval c.guard (o.dK m s q)).1:=⟨_,rfl⟩;obtain⟨e,yz⟩:∃e,e=(o.eval c.guard (o.dK m s q)).2:=⟨_,rfl⟩;rw[←BC,←yz];rw[←BC,←yz] at wj;have fq:=(c0.trans bP).trans bV;refine an ?_;refine K.cond (fun l0=>?_) (fun l0=>?_);rotate_left
  ·refine an ?_;exact⟨.inl ⟨by rw[wj,if_pos ⟨by omega,.inl l0⟩],bu⟩,fq⟩
  refine an ?_;refine K.cond (fun lo=>?_) (fun lo=>?_)
  ·refine an ?_;exact⟨.inl ⟨by rw[wj,if_pos ⟨by omega,.inr lo⟩],bu⟩,fq⟩
  ·refine an ?_;exact⟨(),trivial,(bc.trans bP).trans bV,fun df=>by rcases df.2 with h | h;exact h l0;exact lo h⟩
 clear bG eL dP;rintro _ S bW ⟨bc,uA⟩;have jT:o.kF m s q c=(o.kD m q c.b6 s).map fun t=>t.set (o.dG m q) c.to:=by rw[wj,if_neg uA]
 rw[jT];clear wj uA jT;have dP:=bc.obj Qw;refine an ?_;refine K.da 13 c.b6.length [1,3,8,9] (fun v:fU=>[(12,.slice v.1 v.2.1 v.2.2)]) (some VU,s.length,yg) (fun n v W=>Ext bR W∧∃t,o.kD m q (c.b6.take n) s=some t∧fo W (.slice v.1 v.2.1 v.2.2) t∧o.Fits m t) bw bw ⟨bc,s,rfl,ay.ext Flat.ext (ca.trans bc),aJ⟩ ?_;clear dP bc;rintro n pQ a1 cj aN ⟨bP,t,aK,wA,IT⟩;have bG:=bP.obj Zx;have eL:=bP.obj ZE;have dP:=bP.obj Qw;have aau:=Rn.ext bP;have ee:=ca.trans bP;refine an ?_;apply K.cond<;>intro g2
 ·have jt:n<c.b6.length:=by omega
  obtain⟨qX,rfl⟩:=Rn.addr (by omega);obtain⟨cn,cr,wa,yJ,BD⟩:=aau.at n jt;have A7:=nH.act n jt;obtain⟨ai7,ag3,rfl,_⟩:=yJ.form;obtain⟨ai8,vK,rfl,_⟩:=BD.form;refine an ?_;intro dC bV;replace bG:=bV.obj bG;replace eL:=bV.obj eL;replace dP:=bV.obj dP;replace wa:=wa.ext bV;have fq:=ee.trans bV;refine an ?_;refine K.call (aec _ _ _ _ m t q p c.b6[n] dC (gk.ext fq) a6 bd (wA.ext Flat.ext bV) IT bM (yJ.ext bV) (BD.ext bV) A7) ?_;rintro u ez ⟨jS,cp⟩;have Ft:=o.VC m q c.b6 s jt;rw[aK] at Ft;simp only at Ft;rcases jS with ⟨gW,rfl⟩ | ⟨hf,aju,ll,rfl,kP⟩
  ·refine an ?_;exact⟨.inl ⟨by rw[o.On m q c.b6 s (n+1) (Ft.trans gW)];rfl,bu⟩,fq.trans cp⟩
  ·obtain⟨w8,vN,rfl,_⟩:=kP.form;refine an ?_;exact⟨jt,bu,(w8,_,vN),⟨rfl,trivial⟩,(bP.trans bV).trans cp,hf,Ft.trans ll,s5 kP,o.Vz bd bM A7 IT ll⟩
 ·have Fq:n=c.b6.length:=by omega
  subst Fq;rw[List.take_length] at aK;rw[aK];obtain⟨UH,kX,dL⟩:=pQ;obtain⟨_,_,ain,_⟩:=wA.form;have ck:=IT.len;have Tp:=fD.ext Flat.ext ee;refine an ?_;intro dC bV;replace bG:=bV.obj bG;replace eL:=bV.obj eL;replace dP:=bV.obj dP;replace Tp:=Tp.ext Flat.ext bV;have fq:=ee.trans bV;refine an ?_;refine K.call (Tu _ t (o.dG m q) c.to _ (wA.ext Flat.ext bV) (by rw[sA]) (by omega) (by omega)) ?_;rintro u ez ⟨ik,cp⟩;obtain⟨FY,Ey,rfl,_⟩:=ik.form;refine an ?_;exact⟨.inr ⟨_,_,rfl,rfl,bp.low fq.size ik⟩,fq.trans cp⟩
end Go.Proofs.R
end
section
namespace o
open Go
def lost(m:Model)(s t:List Int)(c:dD):List Int:=jC t (cU m (comm c.b6).2.toNat) (chanOf m s (comm c.b6).2.toNat)
structure DI(m:Model)(s:List Int)(ref jI:Int)(t:List Int)(e:Int):Prop where
 f0:¬(tH m s∧Told m ref)→t=[]∧e=2
 f1:∀q p k,tH m s→gj m ref q p k→¬(0≤jI∧jI<ways (dE m p k) m.aH)→t=[]∧e=2
 f2:∀q p k,tH m s→gj m ref q p k→0≤jI∧jI<ways (dE m p k) m.aH→kF m s q (dE m p k)=none→t=[]∧e=15
 f3:∀q p k u,tH m s→gj m ref q p k→0≤jI∧jI<ways (dE m p k) m.aH→kF m s q (dE m p k)=some u→t=(if jI=1 then lost m s u (dE m p k) else u)∧e=0
theorem DI.none{m:Model}{s:List Int}{ref jI:Int}{q p k:Nat}(av:gj m ref q p k)(bk:tH m s)(hw:0≤jI∧jI<ways (dE m p k) m.aH)(h:kF m s q (dE m p k)=Option.none):DI m s ref jI [] 15 :=
 ⟨fun aN=>absurd ⟨bk,av.told⟩ aN,fun oX qH k' _ nF aN=>(by obtain⟨rfl,rfl,rfl⟩:=av.one nF;exact absurd hw aN),fun _ _ _ _ _ _ _=>⟨rfl,rfl⟩,fun oX qH k' u _ nF _ hu=>by obtain⟨rfl,rfl,rfl⟩:=av.one nF;rw[h] at hu;cases hu⟩
theorem DI.some{m:Model}{s u:List Int}{ref jI:Int}{q p k:Nat}(av:gj m ref q p k)(bk:tH m s)(hw:0≤jI∧jI<ways (dE m p k) m.aH)(h:kF m s q (dE m p k)=Option.some u):DI m s ref jI (if jI=1 then lost m s u (dE m p k) else u) 0 :=
 ⟨fun aN=>absurd ⟨bk,av.told⟩ aN,fun oX qH k' _ nF aN=>(by obtain⟨rfl,rfl,rfl⟩:=av.one nF;exact absurd hw aN),fun oX qH k' _ nF _ hu=>(by obtain⟨rfl,rfl,rfl⟩:=av.one nF;rw[h] at hu;cases hu),
  fun oX qH k' iJ _ nF _ hu=>by obtain⟨rfl,rfl,rfl⟩:=av.one nF;rw[h] at hu;injection hu with hu;subst hu;exact⟨rfl,rfl⟩⟩
theorem agr{c:dD}{l:List c4}(h:1<ways c l):∃j:Nat,(comm c.b6).2=j∧j<l.length∧(comm c.b6).1=4:=by
 unfold ways at h;split at h
 ·rename_i aL;cases aN:nth l (comm c.b6).2 with
  | none=>rw[aN] at h;simp at h
  | some x =>
   obtain⟨aj,_,h1⟩:=u2 aN;exact⟨(comm c.b6).2.toNat,by omega,h1,aL⟩
 ·omega
theorem Xh{m:Model}{s t:List Int}{ref:Int}{q p k:Nat}(de:gj m ref q p k)(aJ:Fits m s)(h:kF m s q (dE m p k)=some t):t.length=fO m :=
 (OT de.inst.aF rfl de.cin aJ.len h).1.trans aJ.len
end o
namespace Go.Proofs.R
open Go Go.RowKit bt
theorem aei(cs:List Value)(v:Value)(m:o.Model)(s:List Int)(w:World)(h:nt w cs m)(bd:o.eI m)(ay:fo w v s) :
  bq Tryz.prog F.CF #[.agg cs.toArray,v] w fun u w'=>(∃t:Bool,u = .bool t∧(t=true↔o.Fits m s))∧Ext w w':=by
 obtain⟨hz,d0,fk,d1,gp,d2,gL,d3,h2,d4,cv,bN,b9,c1,cq,c2,cm,bK,cw,bQ,et,ci,l5,jQ,rfl,fF,ra,_⟩:=h.form;obtain⟨os,yg,rfl,CJ⟩:=ay.form;refine bI E.CF ?_;refine bF ?_;refine an ?_;intro w1 b4 dw az aI;refine an ?_;refine K.y1 [.slice hz m.scalars.length d0,.slice fk m.vars.length d1,.slice gp m.aH.length d2,.slice gL m.procs.length d3,.slice h2 m.props.length d4] aI rfl rfl ?_;refine an ?_;refine K.y1 [.slice cv (o.layout m).vars.length bN,.slice b9 (o.layout m).aH.length c1,.slice cq (o.layout m).insts.length c2,.int .i64 (o.layout m).cells,.slice cm (o.layout m).aZ.length bK,.slice cw (o.layout m).ad.length bQ] aI rfl rfl ?_;refine an ?_;refine K.call (Tq _ _ m _ s w1 (fF.ext az) (ra.ext az) bd (ay.ext Flat.ext az)) ?_;rintro _ aR ⟨⟨t,rfl,aK⟩,aA⟩;refine an ?_;exact⟨⟨t,rfl,aK⟩,az.trans aA⟩
end Go.Proofs.R
end
section
namespace o
open Go
structure agI(m:Model)(p:Nat)(c:dD):Prop where
 act:∀k (h:k<c.b6.length),∀aO:p<m.procs.length,kC c.b6[k] (inner m.procs[p] (fI m))=0
 to:∀aO:p<m.procs.length,0≤c.to∧c.to<m.procs[p].cz
structure mf where
 cmd:Int
 jI:Int
 to:List Int
def CT(m:Model)(q:Nat):Nat:=match (insts m)[q]? with
 | some i=>i.proc.toNat
 | none=>0
def n1(m:Model)(s:List Int)(r:Nat):List mf:=match (refs m)[r]? with
 | none=>[]
 | some x=>match kF m s x.inst.toNat (dE m (CT m x.inst.toNat) x.cmd.toNat) with
  | none=>[]
  | some t=>⟨r,0,t⟩ :: if ways (dE m (CT m x.inst.toNat) x.cmd.toNat) m.aH=2 then [⟨r,1,lost m s t (dE m (CT m x.inst.toNat) x.cmd.toNat)⟩] else []
def lq(m:Model)(s:List Int)(n:Nat):List mf:=(List.range n).flatMap (n1 m s)
def pF(m:Model)(s:List Int):List mf:=match lq m s (refs m).length with
 | []=>[⟨-1,0,s⟩]
 | l=>l
theorem FQ(m:Model)(s:List Int)(n:Nat):lq m s (n+1)=lq m s n++n1 m s n:=by
 unfold lq;rw[List.range_succ,List.flatMap_append];simp
theorem acV(m:Model)(s:List Int)(r:Nat):(n1 m s r).length≤2:=by
 unfold n1;split
 ·simp
 ·split
  ·simp
  ·split<;>simp
theorem SL(m:Model)(s:List Int):∀n,(lq m s n).length≤2*n
 | 0=>by simp[lq]
 | n+1=>by
  rw[FQ,List.length_append]
  have:=SL m s n
  have:=acV m s n
  omega
theorem gj.n1{m:Model}{r q p k:Nat}(h:gj m r q p k)(s:List Int):n1 m s r=match kF m s q (dE m p k) with
  | none=>[]
  | some t=>⟨r,0,t⟩ :: if ways (dE m p k) m.aH=2 then [⟨r,1,lost m s t (dE m p k)⟩] else []:=by
 have h1:=h.ad;have eC:=h.at_;simp only[Int.toNat_natCast] at h1 eC;have bT:(refs m)[r].inst.toNat=q:=by have:=eC.zv;omega
 have bg:(refs m)[r].cmd.toNat=k:=by have:=eC.zx;omega
 have bO:CT m q=p:=by
  unfold CT;rw[List.getElem?_eq_getElem eC.ad]
  have:=eC.ip
  simp only;omega
 unfold o.n1;rw[List.getElem?_eq_getElem h1];simp only[bT,bg,bO]
theorem gj.off{m:Model}{r q p k:Nat}(h:gj m r q p k){s:List Int}(bA:kF m s q (dE m p k)=none):o.n1 m s r=[]:=by rw[h.n1,bA]
theorem gj.S1{m:Model}{r q p k:Nat}(h:gj m r q p k){s t:List Int}(bA:kF m s q (dE m p k)=some t)(hw:¬ways (dE m p k) m.aH=2):o.n1 m s r=[⟨r,0,t⟩]:=by
 rw[h.n1,bA];simp only[if_neg hw]
theorem gj.S2{m:Model}{r q p k:Nat}(h:gj m r q p k){s t:List Int}(bA:kF m s q (dE m p k)=some t)(hw:ways (dE m p k) m.aH=2):o.n1 m s r=[⟨r,0,t⟩,⟨r,1,lost m s t (dE m p k)⟩]:=by
 rw[h.n1,bA];simp only[if_pos hw]
structure Ab(m:Model)(s:List Int)(x:mf)(q p k:Nat)(u:List Int):Prop where
 at_:gj m x.cmd q p k
 Xy:kF m s q (dE m p k)=some u
 afY:x.jI=0∧x.to=u∨x.jI=1∧ways (dE m p k) m.aH=2∧x.to=lost m s u (dE m p k)
theorem acU{m:Model}{s:List Int}{r:Nat}(hk:(check m).dh=0)(bk:r<(refs m).length){x:mf}(aw:x∈n1 m s r):∃q p k u,Ab m s x q p k u∧x.cmd=r:=by
 obtain⟨q,p,k,de⟩:=HA (m:=m) (ref:=r) ⟨hk,by omega,by omega⟩;cases h:kF m s q (dE m p k) with
 | none=>rw[de.off h] at aw;cases aw
 | some u =>
  by_cases hw:ways (dE m p k) m.aH=2
  ·rw[de.S2 h hw] at aw;simp only[List.mem_cons,List.not_mem_nil,or_false] at aw;rcases aw with rfl | rfl
   ·exact⟨q,p,k,u,⟨de,h,.inl ⟨rfl,rfl⟩⟩,rfl⟩
   ·exact⟨q,p,k,u,⟨de,h,.inr ⟨rfl,hw,rfl⟩⟩,rfl⟩
  ·rw[de.S1 h hw] at aw;simp only[List.mem_cons,List.not_mem_nil,or_false] at aw;subst aw;exact⟨q,p,k,u,⟨de,h,.inl ⟨rfl,rfl⟩⟩,rfl⟩
theorem acP{m:Model}{s:List Int}(hk:(check m).dh=0){x:mf}(aw:x∈pF m s):(x.cmd = -1∧x.jI=0∧x.to=s)∨∃q p k u,Ab m s x q p k u:=by
 have key:x∈lq m s (refs m).length→∃q p k u,Ab m s x q p k u:=fun h=>by
  unfold lq at h;obtain⟨r,bk,aw⟩:=List.mem_flatMap.1 h;obtain⟨q,p,k,u,h,_⟩:=acU hk (List.mem_range.1 bk) aw;exact⟨q,p,k,u,h⟩
 unfold pF at aw;split at aw
 ·simp only[List.mem_cons,List.not_mem_nil,or_false] at aw;subst aw;exact .inl ⟨rfl,rfl,rfl⟩
 ·exact .inr (key aw)
theorem UK{m:Model}{c:dD}(h:ways c m.aH=2):∃j:Nat,(comm c.b6).2=j∧j<m.aH.length:=by
 obtain⟨j,h1,U,_⟩:=agr (c:=c) (l:=m.aH) (by omega);exact⟨j,h1,U⟩
theorem acC{m:Model}{s t:List Int}{c:dD}{l:List Int}(aJ:s.length=fO m)(h:ec s t l)(hw:ways c m.aH=2):ec s (lost m s t c) l:=by
 obtain⟨j,aT,wv⟩:=UK hw;have yP:=qa wv;unfold lost;rw[aT,Int.toNat_natCast];have eU:(chanOf m s j).length=1+jj m j:=tY (by omega);have ad:cU m j+(chanOf m s j).length≤t.length:=by rw[eU,h.1];omega
 refine⟨(BW ad).trans h.1,fun c av=>?_⟩;rw[BV ad] at av;split at av
 ·rename_i bk;refine absurd ?_ av;rw[eU] at bk;unfold chanOf;rw[List.getElem?_take_of_lt (by omega),List.getElem?_drop];congr 1;omega
 ·exact h.2 c av
theorem Ab.tZ{m:Model}{s:List Int}{x:mf}{q p k:Nat}{u:List Int}(h:Ab m s x q p k u)(aJ:Fits m s):ec s x.to (od m q (dE m p k) (dE m p k).b6.length):=by
 have av:=OT h.at_.inst.aF rfl h.at_.cin aJ.len h.Xy;rcases h.afY with ⟨_,e⟩ | ⟨_,hw,e⟩
 ·rw[e];exact av
 ·rw[e];exact acC aJ.len av hw
end o
end
section
namespace Go.Proofs.R
open Go Go.RowKit bt
def G0(w:World)(cs:List Value)(x:o.mf):Prop := ∃v,cs=[.int .i64 x.cmd,.int .i64 x.jI,v]∧fo w v x.to
def MZ(w:World)(a:Addr)(x:o.mf):Prop := ∃v,fb w a [.int .i64 x.cmd,.int .i64 x.jI,v]∧fo w v x.to
instance aiE:Rel MZ G0 3 where
 out h:=by
  obtain⟨v,h1,U⟩:=h;exact⟨_,h1,v,rfl,U⟩
 nX h k:=by
  obtain⟨v,rfl,k⟩:=k;exact⟨v,h,k⟩
 len h:=by obtain⟨v,rfl,_⟩:=h;rfl
 one h:=by obtain⟨v,rfl,h⟩:=h;simpa[Value.oneCell'] using h.one
 ext e h:=let ⟨v,h1,U⟩:=h; ⟨v,h1,U.ext Flat.ext e⟩
abbrev M0(w:World)(v:Value)(l:List o.mf):Prop:=bB 3 MZ w v l
theorem aef(cs:List Value)(v:Value)(m:o.Model)(s:List Int)(w:World)(h:nt w cs m)(a6:m.cT)(hk:(o.check m).dh=0)(ay:fo w v s)(aJ:o.Fits m s) :
  bq Tryz.prog F.CE #[.agg cs.toArray,v] w fun u w'=>M0 w' u (o.pF m s)∧Ext w w':=by
 have gk:=h;have bd:=o.pE hk;have dF:=bd.lim;have lj:=o.KA dF;obtain⟨hz,d0,fk,d1,gp,d2,gL,d3,h2,d4,K8,g0,UE,g1,zJ,g2,agb,g3,Gp,g4,et,ci,l5,jQ,rfl,_,_,_,_,_,_,_,_,_,U,_⟩:=gk.form;obtain⟨os,yg,rfl,CJ⟩:=ay.form;refine bI E.CE ?_;refine bF ?_;refine an ?_;intro w1 b4 dw az aI;refine an ?_;refine K.da 6 (o.refs m).length [1,2] (fun v:fU=>[(5,.slice v.1 v.2.1 v.2.2)]) (none,0,0) (fun k v W=>Ext w1 W∧eY G0 T.w 3 w1.heap.size W (.slice v.1 v.2.1 v.2.2) (o.lq m s k)) bw bw ⟨Ext.refl _,eY.nil _ _ _ _ _⟩ ?_;rintro k v S aR bb ⟨aA,ej⟩;have bg:=az.trans aA;have Bf:=aA.obj aI;have gV:=o.SL m s k;obtain⟨adl,co,aaC,_⟩:=ej.form;refine an ?_;refine K.cond (fun l0=>?_) (fun l0=>?_)
 ·have I6:k<(o.refs m).length:=by omega
  obtain⟨q,p,yZ,de⟩:=o.HA (m:=m) (ref:=k) ⟨hk,by omega,by omega⟩;refine an ?_;refine K.call (aej _ _ m s k q p yZ aR (gk.ext bg) a6 (ay.ext Flat.ext bg) aJ de) ?_;rintro u ba ⟨jS,au⟩;have Zr:=au.obj Bf;have bO:=bg.trans au;rcases jS with ⟨gW,rfl⟩ | ⟨t,pQ,ll,rfl,kP⟩
  ·refine an ?_;exact⟨I6,bu,v,⟨rfl,trivial⟩,aA.trans au,by rw[o.FQ,de.off gW,List.append_nil];exact ej.ext au⟩
  obtain⟨w8,vN,rfl,_⟩:=kP.form;have ac3:=s5 kP;have Jd:=bp.new (enc:=dk) (fun _=>rfl) kP;have eM:=ej.ext au;have z2:=aA.size;have z3:=au.size;refine an ?_;intro bo cE fh aP bJ;have ev:=eM.ext aP;have z4:=aP.size;refine K.tN (x:=(⟨k,0,t⟩:o.mf)) (cs:=[.int .i64 k,.int .i64 0,.slice w8 t.length vN]) ev (fZ bJ)
   (((dW.own (w1:=ba) Jd ej (by omega)).imp fun w h=>⟨_,rfl,h⟩).ext aP fun i ad hk=>by have:=ej.under (by omega) i hk;omega) rfl (by simp[Value.oneCell']) (by omega) (by unfold maxLen;omega) (by omega) fun b3 bR uJ iC=>?_
  have zX:=ev.kH ((aA.trans au).trans aP) iC (Nat.le_refl _);have ca:=az.trans zX;have aay:=(Jd.ext aP (by omega)).grown iC fun k hk=>(ej.lt k hk).2;have z5:=zX.size;have Qt:=zX.obj aI;obtain⟨ada,Wx,rfl,_⟩:=uJ.form;have ac4:=aay.here;have z25:aR.heap.size≤bR.heap.size:=by have:=iC.size;omega
  clear Bf Zr bJ ev eM Jd iC kP ac3;refine an ?_;intro bW bc;have ahC:=bc.obj Qt;have c0:=ca.trans bc;refine an ?_;refine K.call (Kq _ m k q p yZ bW (gk.ext c0) de) ?_;rintro _ cj ⟨⟨fw,eD,rfl,jB,ju⟩,bP⟩;have ee:=c0.trans bP;refine⟨bP,?_⟩;refine an ?_;refine K.call (ae8 _ _ _ _ m.aH cj (ju.ext bP) (U.ext ee)) ?_;rintro _ dC ⟨rfl,bV⟩;have fq:=ee.trans bV;have xC:=(bc.trans bP).trans bV;have Zs:=xC.obj Qt;have Ry:=uJ.ext xC;obtain⟨ajF,abi⟩:∃x,x=o.ways (o.dE m p yZ) m.aH:=⟨_,rfl⟩;rw[←abi];refine an ?_;refine K.cond (fun lo=>?_) (fun lo=>?_);rotate_left
  ·refine an ?_;exact⟨I6,bu,(ada,_,Wx),⟨rfl,trivial⟩,zX.trans xC,by rw[o.FQ,de.S1 ll (by omega)];exact Ry⟩
  have oQ:o.ways (o.dE m p yZ) m.aH=2:=by omega
  obtain⟨j,aT,wv⟩:=o.UK oQ;have ck:=o.Xh de aJ ll;have eU:(o.chanOf m s j).length=1+o.jj m j:=o.tY (by rw[aJ.len];exact o.qa wv);refine an ?_;refine K.call (Kq _ m k q p yZ dC (gk.ext fq) de) ?_;rintro _ ez ⟨⟨fw,eD,rfl,jB,ju⟩,cp⟩;have lT:=fq.trans cp;have Zt:=cp.obj Zs;refine an ?_;refine K.call (Tt _ _ _ ez (ju.ext cp)) ?_;rintro _ eX ⟨rfl,dI⟩;have jR:=lT.trans dI;have Zq:=dI.obj Zt;rw[aT];refine an ?_;intro hh hr;have ahB:=hr.obj Zq;have q4:=jR.trans hr;refine an ?_;refine K.call (Ks _ _ m s j hh (gk.ext q4) bd (ay.ext Flat.ext q4) aJ.len wv) ?_;rintro u lB ⟨hu,fL⟩;obtain⟨Kb,sb,rfl,_⟩:=hu.form;have AN:=q4.trans fL;have DK:=((cp.trans dI).trans hr).trans fL;refine⟨fL,?_⟩;refine an ?_;refine K.call (KB _ _ _ m t (o.chanOf m s j) j lB (gk.ext AN) bd (ac4.ext Flat.ext (xC.trans DK)) hu ck wv eU) ?_;rintro u o5 ⟨Rr,iT⟩;obtain⟨FY,Ey,rfl,_⟩:=Rr.form;have aaw:=bp.new (enc:=dk) (fun _=>rfl) Rr;have wC:=Ry.ext DK;have agC:=iT.size;have z12:=(xC.trans DK).size;refine an ?_;intro Gx V1 Qo oG Iy;have ajM:=oG.size;have Fs:=wC.ext (iT.trans oG);have ahZ:(o.lq m s k++[(⟨k,0,t⟩:o.mf)]).length≤2*k+1:=by rw[List.length_append];simp only[List.length_cons,List.length_nil];omega
  have iW:o.lost m s t (o.dE m p yZ)=o.jC t (o.cU m j) (o.chanOf m s j):=by unfold o.lost;rw[aT,Int.toNat_natCast]
  refine K.tN (x:=(⟨k,1,o.jC t (o.cU m j) (o.chanOf m s j)⟩:o.mf)) (cs:=[.int .i64 k,.int .i64 1,.slice FY (o.jC t (o.cU m j) (o.chanOf m s j)).length Ey]) Fs (fZ Iy)
   (((dW.own (w1:=o5) aaw wC (by omega)).imp fun w h=>⟨_,rfl,h⟩).ext oG fun i ad hk=>by have:=wC.under (by omega) i hk;omega) rfl (by simp[Value.oneCell']) (by omega) (by unfold maxLen;omega) (by omega) fun b3 UJ Rw Z6=>?_
  have U7:=Fs.kH (((zX.trans (xC.trans DK)).trans iT).trans oG) Z6 (Nat.le_refl _);obtain⟨qF,tT,rfl,_⟩:=Rw.form;have aa5:o.lq m s (k+1)=o.lq m s k++[(⟨k,0,t⟩:o.mf)]++[(⟨k,1,o.jC t (o.cU m j) (o.chanOf m s j)⟩:o.mf)]:=by rw[o.FQ,de.S2 ll oQ,iW,List.append_assoc];rfl
  refine an ?_;exact⟨I6,bu,(qF,_,tT),⟨rfl,trivial⟩,U7,by rw[aa5];exact Rw⟩
 ·have oK:k=(o.refs m).length:=by omega
  subst oK;obtain⟨eP,u3,ff⟩:=v;cases aaC;refine an ?_;refine K.cond (fun lo=>?_) (fun lo=>?_)
  ·have Rq:o.lq m s (o.refs m).length=[]:=List.eq_nil_of_length_eq_zero (by omega);have qs:o.pF m s=o.lq m s (o.refs m).length++[⟨-1,0,s⟩]:=by unfold o.pF;rw[Rq];rfl
   replace ej:eY G0 T.w 3 w1.heap.size aR (.slice eP (o.lq m s (o.refs m).length).length ff) (o.lq m s (o.refs m).length):=ej;have ahX:(o.lq m s (o.refs m).length).length=0:=by rw[Rq];rfl
   have dS:=ay.ext Flat.ext bg;have z2:=aA.size;refine an ?_;intro ba bZ fG au bG;have eM:mK aR.heap.size ba (.slice (some ⟨bZ,0,none⟩) 0 0) []:=bp.empty fG bG;have z3:=au.size;have nD:o.fO m≤64:=o.l3 bd;have mZ:=aJ.len;refine an ?_;refine K.Ap eM (dS.ext Flat.ext au) (fun _=>rfl) kG (by simp only[List.length_nil];omega) (by simp only[List.length_nil];unfold maxLen;omega) au.size fun v4 bo ev mw=>?_;have dN:Ext aR bo:=au.grown mw fun i ad=>(eM.lt i ad).1;rw[List.nil_append] at ev;obtain⟨gr,Gp,rfl,_⟩:=ev.form;have aax:=bp.new (enc:=dk) (fun _=>rfl) ev;have yO:=ej.ext dN;have z4:=dN.size;refine an ?_;intro bR dz lV bf cx;have uJ:=yO.ext bf;have z5:=bf.size;refine K.tN (x:=(⟨-1,0,s⟩:o.mf)) (cs:=[.int .i64 (-1),.int .i64 0,.slice gr s.length Gp]) uJ (fZ cx)
    (((dW.own (w1:=bo) aax ej (by omega)).imp fun w h=>⟨_,rfl,h⟩).ext bf fun i ad hk=>by have:=ej.under (by omega) i hk;omega) rfl (by simp[Value.oneCell']) (by omega) (by unfold maxLen;omega) (by omega) fun b3 bW Rx iU=>?_
   have U8:=uJ.kH ((aA.trans dN).trans bf) iU (Nat.le_refl _);obtain⟨qF,tT,rfl,_⟩:=Rx.form;refine an ?_;exact⟨by rw[qs];exact Rx.o0,az.trans U8⟩
  ·have qs:o.pF m s=o.lq m s (o.refs m).length:=by
    unfold o.pF;split
    ·rename_i aN;rw[aN] at lo;simp at lo
    ·rfl
   refine an ?_;exact⟨by rw[qs];exact ej.o0,bg⟩
theorem aee(cs:List Value)(v:Value)(m:o.Model)(s:List Int)(w:World)(h:o.ew w cs m)(a6:m.cT)(ay:fo w v s)(iA:o.tH m s) :
  bq Tryz.prog F.CC #[.agg cs.toArray,v] w fun u w'=>M0 w' u (o.pF m s)∧Ext w w':=by
 have fF:=h;obtain⟨cv,bN,b9,c1,cq,c2,cm,bK,cw,bQ,rfl,_⟩:=h.form;obtain⟨os,yg,rfl,CJ⟩:=ay.form;have bd:=o.pE iA.1;refine bI E.CC ?_;refine bF ?_;refine an ?_;intro w1 cE fh az bJ;refine an ?_;refine K.call (aeg _ m w1 (fF.ext az) a6) ?_;rintro _ aR ⟨hO,aA⟩;replace bJ:=aA.obj bJ;have bg:=az.trans aA;rcases hO with ⟨hk,rfl⟩ | ⟨hk,qP,rfl,gk⟩
 ·exact absurd iA.1 hk
 have Im:=gk;obtain⟨hz,d0,fk,d1,gp,d2,gL,d3,h2,d4,K8,g0,UE,g1,zJ,g2,agb,g3,Gp,g4,et,ci,l5,jQ,rfl,_⟩:=gk.form;refine an ?_;intro ba He Ir au sq;have Ql:=Im.ext au;have bO:=bg.trans au;refine an ?_;refine K.call (aei _ _ m s ba Ql bd (ay.ext Flat.ext bO)) ?_;rintro _ bR ⟨⟨t,rfl,aK⟩,bf⟩;obtain rfl:=aK.2 iA.2;replace sq:=bf.obj sq;have Qm:=Ql.ext bf;have ca:=bO.trans bf;refine an ?_;refine K.call (aef _ _ m s bR Qm a6 hk (ay.ext Flat.ext ca) iA.2) ?_;rintro _ bW ⟨yI,bc⟩;obtain⟨adl,co,rfl,_⟩:=yI.form;refine an ?_;exact⟨yI,ca.trans bc⟩
theorem ace(cs:List Value)(v1:Value)(m:o.Model)(s:List Int)(w:World)(h:o.ew w cs m)(a6:m.cT)(a8:h9 w)(ay:fo w v1 s) :
  bq Tryz.prog F.CL #[.agg cs.toArray,v1] w fun u w'=>u = .bool true∧Ext w w':=by
 have bd:=h;obtain⟨cv,bN,b9,c1,cq,c2,cm,bK,cw,bQ,rfl,_⟩:=h.form;obtain⟨os,yg,rfl,CJ⟩:=ay.form;refine bI E.CL ?_;refine bF ?_;refine an ?_;intro w1 bz cK az al;have vC:∀{W},Ext w W→bq Tryz.prog F.w3 #[] W fun v w'=>v = .bool true∧Ext W w':=fun e=>ae9 _ (a8.ext e);refine an ?_;refine K.call (Z0 _ m w1 (bd.ext az)) ?_;rintro _ aR ⟨aU,aA⟩;replace al:=aA.obj al;have bg:=az.trans aA;rcases aU with rfl | ⟨rfl,hH⟩
 ·refine an ?_;refine K.call (vC bg) ?_;rintro _ ba ⟨rfl,au⟩;refine an ?_;exact⟨bu,bg.trans au⟩
 refine an ?_;apply K.cond<;>intro g1
 ·refine an ?_;refine K.call (vC bg) ?_;rintro _ ba ⟨rfl,au⟩;refine an ?_;exact⟨bu,bg.trans au⟩
 refine an ?_;refine K.call (aeh _ m _ s aR (bd.ext bg) a6 (ay.ext Flat.ext bg)) ?_;rintro _ ba ⟨⟨vb,rfl,aa8⟩,au⟩;replace al:=au.obj al;have bO:=bg.trans au;cases vb with
 | false =>
  refine an ?_;refine K.call (vC bO) ?_;rintro _ bo ⟨rfl,aP⟩;refine an ?_;exact⟨bu,bO.trans aP⟩
 | true =>
  have BM:=aa8.1 rfl;have Za:=o.pE BM.1;have nD:o.fO m≤64:=o.l3 Za;have lk:=BM.2.len;refine an ?_;refine K.call (aee _ _ m s ba (bd.ext bO) a6 (ay.ext Flat.ext bO) BM) ?_;rintro _ bo ⟨yI,aP⟩;replace al:=aP.obj al;have b8:=bO.trans aP;obtain⟨ol,cl,rfl,aiW⟩:=yI.form;refine an ?_;refine K.da 6 (o.pF m s).length [1,2,5] (fun _:Unit=>[]) () (fun _ _ W=>Ext bo W) bw bw (Ext.refl _) ?_;rintro r _ S bR bk bf;have ca:=b8.trans bf;have rh:=bf.obj al;refine an ?_;apply K.cond<;>intro g3;rotate_left
  ·refine an ?_;refine K.call (vC ca) ?_;rintro _ bW ⟨rfl,bc⟩;refine an ?_;exact⟨bu,ca.trans bc⟩
  have im:r<(o.pF m s).length:=by omega
  obtain⟨ox,rfl⟩:=yI.addr (by omega);obtain⟨ajv,kK,Fy⟩:=yI.at r im;have E4:=kK.ext bf;have Ju:=Fy.ext Flat.ext bf;obtain⟨x,aw⟩:∃x,x=(o.pF m s)[r]:=⟨_,rfl⟩;rw[←aw] at kK Fy E4 Ju;have wH:x∈o.pF m s:=by rw[aw];exact List.getElem_mem im
  obtain⟨ajb,ag8,rfl,_⟩:=Fy.form;refine an ?_;apply K.cond<;>intro g4
  ·refine an ?_;exact⟨im,bu,(),trivial,bf⟩
  rcases o.acP BM.1 wH with ⟨aav,_⟩ | ⟨q,p,k,u,bM⟩
  ·exact absurd aav (by omega)
  have de:=bM.at_;have sr:=bM.tZ BM.2;refine an ?_;intro bW bc;replace rh:=bc.obj rh;have ZO:=E4.ext bc;have c0:=ca.trans bc;refine an ?_;refine K.call (Nc _ m x.cmd bW (bd.ext c0) a6 (a8.ext c0)) ?_;rintro _ cj ⟨⟨eD,xp,a,b,rfl,j1,iG,Ze⟩,bP⟩;have ee:=c0.trans bP;have GO:=bc.trans bP;have ZP:=E4.ext GO;have aa9:=Ju.ext Flat.ext GO;have iD:=ay.ext Flat.ext ee;obtain⟨bh,iN,rfl,_⟩:=j1.form;obtain⟨w7,qb,rfl,_⟩:=iG.form;obtain⟨_,aD⟩:=Ze.there q p k de;have aii:=sr.1;clear E4 Ju ZO rh j1;refine an ?_;refine K.da 9 s.length [1,2,5,6,7,8] (fun _:Unit=>[]) () (fun _ _ W=>Ext cj W) bw bw (Ext.refl _) ?_;rintro j _ lN dC aT bV;have ahL:=ZP.ext bV;have aij:=aa9.ext Flat.ext bV;have BL:=iD.ext Flat.ext bV;have acW:=iG.ext Flat.ext bV;refine an ?_;apply K.cond<;>intro g5;rotate_left
  ·refine an ?_;exact⟨by omega,bu,(),trivial,(bf.trans GO).trans bV⟩
  have wq:j<s.length:=by omega
  have wu:j<x.to.length:=by omega
  obtain⟨VT,rfl⟩:=ay.addr (by omega);obtain⟨at',rfl⟩:=Fy.addr (by omega);refine an ?_;apply K.cond<;>intro g6
  ·refine an ?_;intro ez cp;refine an ?_;exact⟨wq,bu,(),trivial,bV.trans cp⟩
  ·have fs:(j:Int)∈b:=(aD.mem _).2 (sr.2 j fun e=>g6 (by
    rw[List.getElem?_eq_getElem wq,List.getElem?_eq_getElem wu] at e;exact Option.some.inj e))
   refine an ?_;refine K.fX _ (fun w' e=>Xo kN E.bg E.bO _ _ (j:Int) w' (acW.ext Flat.ext e)) ?_;rw[decide_eq_true fs];refine an ?_;intro ez cp;refine an ?_;exact⟨wq,bu,(),trivial,bV.trans cp⟩
end Go.Proofs.R
end
section
namespace bt
open Go Go.RowKit Go.ChangeShapes Go.WideShapes Go.Deep
section
variable{H:Type}{enc:TypeId×Value→H}{P:Program}{w:World}{base:Nat}{spare:Nat→Bool}{held:Bool}
theorem sg{t:TypeId}{fK:Array Field}{n:Nat}{cs:List Value}{y:DataW H×List MemPlace}(aK:P.underlying t=some (.struct fK))(sG:oneCellFields P fK=true)(de:P.cellsOf t=fK.size)
  (h:DataW.trod enc P w base spare held n t cs=some y):cs.length=fK.size∧∃iF ds,y.1 = .agg ds∧∀(j:Nat) (f:Field),fK[j]? = some f→∃v z,cs[j]? = some v∧DataW.trod enc P w base spare held iF f.type [v]=some z∧ds[j]? = some z.1:=by
 obtain⟨ys,iF,Fo,cB,hlen,aip,aJ⟩:=DataW.trod_struct aK h;refine⟨by omega,iF,_,by rw[cB],fun j f aT=>?_⟩;obtain⟨a8,hk⟩:=hone_of sG j f aT;have wv:j<fK.size:=(Array.getElem?_eq_some_iff.1 aT).1;have aU:cs[j]? = some (cs[j]'(by omega)):=List.getElem?_eq_getElem (by omega);have h1:=aJ j f aT;rw[a8,hk] at h1;have aaE:(cs.drop j).take 1=[cs[j]'(by omega)]:=by
  rw[List.drop_eq_getElem_cons (by omega)];rfl
 rw[aaE,List.getElem?_eq_getElem (l:=ys) (by omega)] at h1;exact⟨_,_,aU,h1,by rw[List.getElem?_map,List.getElem?_eq_getElem (by omega)];rfl⟩
def Small(P:Program)(t:TypeId)(d:DataW H):Prop := ∀q∈d.weights P t,q≤reachBytes
theorem Small.field{t u:TypeId}{fK:Array Field}{ds:List (DataW H)}{j:Nat}{d:DataW H}{f:Field}(h:Small P t (.agg ds))(aK:P.underlying t=some (.struct fK))(aJ:fK[j]? = some f)(hu:f.type=u)(bs:ds[j]? = some d):Small P u d:=by
 subst hu;intro q aF;refine h q ?_;simp only[DataW.weights,aK];exact DataW.weights_mem_each (j:=j) (by simp[aJ]) bs q aF
theorem WL{α:Type}{R:World→Addr→α→Prop}{t e:TypeId}{v:Value}{n:Nat}{z:DataW H×List MemPlace}(sz:Nat)(aK:P.underlying t=some (.slice e))(de:P.cellsOf e=sz)(kj:0<P.bytesOf e)
  (iA:∀(a:Addr) (cs:List Value) (n:Nat) (y:DataW H×List MemPlace),fb w a cs→cs.length=sz→DataW.trod enc P w 0 (fun _=>true) true n e cs=some y→∃x,R w a x)
  (h:DataW.trod enc P w 0 (fun _=>true) true n t [v]=some z):∃xs,bB sz R w v xs∧(Small P t z.1→xs.length≤140737488355328):=by
 rcases open_slice aK h with ⟨fR,_⟩ | ⟨a,len,cap,m,n,D,Vj,fR,aD,aQ,hm,BA,aw,ad⟩
 ·simp at fR;subst fR;exact⟨[],bB.nil,fun _=>by simp⟩
 ·simp at fR;subst fR;simp only[if_true] at BA;subst BA;obtain⟨xs,uL,sM⟩:=JW len (fun i x=>R w (a.add (i*sz)) x) fun i cN=>by
   obtain⟨hD,av,uK⟩:=ad i (by omega);rw[de] at av;obtain⟨_,eU,jq⟩:=World.cells?_some av;refine iA _ hD n _ (fun j u aT=>?_) eU uK;have I4:j<sz:=eU ▸ (List.getElem?_eq_some_iff.1 aT).1;rw[←aT];exact jq j I4
  refine⟨xs,⟨some a,_,by rw[uL],by omega,hm,fun _=>rfl,fun dq br=>by injection br with br;subst br;exact sM⟩,fun ay=>?_⟩;have h1:=ay ((len+(m - len))*P.bytesOf e) (by rw[aw];simp[DataW.weights,aK]);have U:=reachBytes_lt;have ai:len≤(len+(m - len))*P.bytesOf e:=Nat.le_trans (Nat.le_add_right len _) (Nat.le_mul_of_pos_right _ kj);rw[uL];omega
theorem VS{r:Reach}{nx:Nat}{t e:TypeId}{v:Value}{d:DataW H}{p:List MemPlace}(aK:P.underlying t=some (.slice e))(sL:Value.okWide P w r nx t v)(h:DataW.Trod enc P w 0 (fun _=>true) true t v d p) :
  ∃n,DataW.trod enc P w 0 (fun _=>true) true n t [v]=some (d,p):=by
 obtain⟨a0,aiV,agZ,rfl⟩:=okWide_slice aK sL;obtain⟨n,aN⟩:=h;exact⟨n,aN⟩
end
end bt
namespace Go.Proofs.R
open Go Go.RowKit bt Go.ChangeShapes
variable{H:Type}{enc:TypeId×Value→H}{w:World}{cs:List Value}{n:Nat}{y:DataW H×List MemPlace}{v:Value}
theorem kz{z:Int}(h:(Lit.int .i64 z).wf=true):o.ep z:=by
 simp only[Lit.wf,Bool.and_eq_true,decide_eq_true_eq] at h;exact⟨h.1,h.2⟩
theorem ac1(h:DataW.trod enc Tryz.prog w 0 (fun _=>true) true n T.k cs=some y):∃x:o.Node,cs=x.enc∧x.ok:=by
 obtain⟨aQ,iF,ds,_,aJ⟩:=sg (t:=T.k) rfl (by kernel_rfl) (by kernel_rfl) h
 match cs,aQ with
 | [bN,c1],_ =>
  obtain⟨_,_,du,aj,_⟩:=aJ 0 _ rfl;obtain⟨_,_,bT,h1,_⟩:=aJ 1 _ rfl;cases du;cases bT;obtain⟨z0,du,_,hL⟩:=DataW.trod_int (k:=.i64) (by kernel_rfl) aj;obtain⟨fy,bT,_,eO⟩:=DataW.trod_int (k:=.i64) (by kernel_rfl) h1;cases du;cases bT;exact⟨⟨z0,fy⟩,rfl,kz hL,kz eO⟩
end Go.Proofs.R
end
section
namespace Go.Proofs.R
open Go Go.RowKit bt Go.ChangeShapes
variable{H:Type}{enc:TypeId×Value→H}{w:World}{r:Reach}{nx:Nat}{v:Value}{d:DataW H}{p:List MemPlace}
theorem abG{n:Nat}{y:DataW H×List MemPlace}(h:DataW.trod enc Tryz.prog w 0 (fun _=>true) true n T.c [v]=some y):∃l,oi w v l∧(Small Tryz.prog T.c y.1→l.length≤140737488355328) :=
 WL (e:=T.a) 1 (by kernel_rfl) (by kernel_rfl) (by decide +kernel) (fun a cs n y av aQ aK=>by
  obtain⟨z,e,_,ab8⟩:=DataW.trod_int (k:=.i64) (by kernel_rfl) aK;cases e;exact⟨z,av,kz ab8⟩) h
theorem open_ints(sL:Value.okWide Tryz.prog w r nx T.c v)(h:DataW.Trod enc Tryz.prog w 0 (fun _=>true) true T.c v d p):∃l,oi w v l:=by
 obtain⟨n,aN⟩:=VS (e:=T.a) (by kernel_rfl) sL h;obtain⟨l,aQ,_⟩:=abG aN;exact⟨l,aQ⟩
end Go.Proofs.R
end
section
namespace Go.Proofs.R
open Go Go.RowKit bt Go.ChangeShapes
variable{H:Type}{enc:TypeId×Value→H}{w:World}{r:Reach}{nx:Nat}{v:Value}{d:DataW H}{p:List MemPlace}
theorem adn(sL:Value.okWide Tryz.prog w r nx T.c v)(h:DataW.Trod enc Tryz.prog w 0 (fun _=>true) true T.c v d p):∃l,bB 1 (Flat dk) w v l:=by
 obtain⟨l,aQ⟩:=open_ints sL h;obtain⟨bh,cap,e,h1,U,ai,aL⟩:=aQ.ex;exact⟨l,bh,cap,e,h1,U,ai,fun a br i ad=>(aL a br i ad).1⟩
end Go.Proofs.R
end
section
namespace bt
open Go Go.RowKit Go.ChangeShapes Go.WideShapes Go.Deep
section
variable{H:Type}{enc:TypeId×Value→H}{P:Program}{w:World}{base:Nat}{spare:Nat→Bool}{held:Bool}
theorem UL{e:TypeId}:∀{ds:List (DataW H)} {d:DataW H},d∈ds→∀n∈d.weights P e,n∈DataW.weightsAll P e ds
 | [],_,h=>by cases h
 | x :: r,d,h=>fun n aN=>by
  simp only[DataW.weightsAll];rcases List.mem_cons.1 h with rfl | h
  ·exact List.mem_append_left _ aN
  ·exact List.mem_append_right _ (UL h n aN)
theorem tU{α:Type}{R:World→Addr→α→Prop}{G:α→Prop}{t e:TypeId}{v:Value}{n:Nat}{z:DataW H×List MemPlace}(sz B:Nat)(aK:P.underlying t=some (.slice e))(de:P.cellsOf e=sz)(kj:P.bytesOf e=B)
  (iA:∀(a:Addr) (cs:List Value) (n:Nat) (y:DataW H×List MemPlace),fb w a cs→cs.length=sz→DataW.trod enc P w 0 (fun _=>true) true n e cs=some y→∃x,R w a x∧(Small P e y.1→G x))
  (h:DataW.trod enc P w 0 (fun _=>true) true n t [v]=some z):∃xs,bB sz R w v xs∧(Small P t z.1→o.dZ xs.length B∧∀x∈xs,G x):=by
 rcases open_slice aK h with ⟨fR,_⟩ | ⟨a,len,cap,m,n,D,Vj,fR,aD,aQ,hm,BA,aw,ad⟩
 ·simp at fR;subst fR;exact⟨[],bB.nil,fun _=>⟨by simp[o.dZ],fun x aw=>by cases aw⟩⟩
 ·simp at fR;subst fR;simp only[if_true] at BA;subst BA;obtain⟨xs,uL,sM⟩:=JW len (fun i x=>R w (a.add (i*sz)) x∧(Small P e (D i)→G x)) fun i cN=>by
   obtain⟨hD,av,uK⟩:=ad i (by omega);rw[de] at av;obtain⟨_,eU,jq⟩:=World.cells?_some av;refine iA _ hD n _ (fun j u aT=>?_) eU uK;have I4:j<sz:=eU ▸ (List.getElem?_eq_some_iff.1 aT).1;rw[←aT];exact jq j I4
  refine⟨xs,⟨some a,_,by rw[uL],by omega,hm,fun _=>rfl,fun dq br i ad=>by injection br with br;subst br;exact(sM i ad).1⟩,fun ay=>⟨?_,fun x ru=>?_⟩⟩
  ·have h1:=ay ((len+(m - len))*P.bytesOf e) (by rw[aw];simp[DataW.weights,aK]);have U:len*B≤(len+(m - len))*P.bytesOf e:=by rw[kj];exact Nat.mul_le_mul_right _ (by omega)
   have ai:reachBytes=140737488351232:=rfl;unfold o.dZ;rw[uL];omega
  ·obtain⟨i,cN,rfl⟩:=List.mem_iff_getElem.1 ru;refine(sM i cN).2 fun q aF=>ay q ?_;rw[aw];simp only[DataW.weights,aK];refine List.mem_cons_of_mem _ (List.mem_append_left _ (UL ?_ q aF));exact List.mem_map.2 ⟨i,by simp;omega,rfl⟩
theorem ado{r:Reach}{nx:Nat}{t:TypeId}{fK:Array Field}{v:Value}{d:DataW H}{p:List MemPlace}(aK:P.underlying t=some (.struct fK))
  (sL:Value.okWide P w r nx t v)(h:DataW.Trod enc P w base spare held t v d p):∃cs n,v = .agg cs∧DataW.trod enc P w base spare held n t cs.toList=some (d,p):=by
 obtain⟨cs,rfl,c3⟩:=okWide_struct aK sL;obtain⟨fuel,aJ⟩:=h;exact⟨cs,fuel,rfl,aJ⟩
end
end bt
namespace Go.Proofs.R
open Go Go.RowKit bt Go.ChangeShapes
variable{H:Type}{enc:TypeId×Value→H}{w:World}{cs:List Value}{n:Nat}{y:DataW H×List MemPlace}{v:Value}
theorem YS(h:DataW.trod enc Tryz.prog w 0 (fun _=>true) true n T.tL cs=some y):∃x:o.Scalar,cs=x.enc∧o.hQ x.name∧x.cT:=by
 obtain⟨aQ,iF,ds,_,aJ⟩:=sg (t:=T.tL) rfl (by kernel_rfl) (by kernel_rfl) h
 match cs,aQ with
 | [bN,c1],_ =>
  obtain⟨_,_,du,aj,_⟩:=aJ 0 _ rfl;obtain⟨_,_,bT,h1,_⟩:=aJ 1 _ rfl;cases du;cases bT;obtain⟨s,du,_,ay⟩:=DataW.trod_string (by kernel_rfl) aj;obtain⟨z,bT,_,eO⟩:=DataW.trod_int (k:=.i64) (by kernel_rfl) h1;cases du;cases bT;exact⟨⟨s,z⟩,rfl,ay,⟨kz eO⟩⟩
theorem YU(h:DataW.trod enc Tryz.prog w 0 (fun _=>true) true n T.f cs=some y):∃x:o.Var,cs=x.enc∧o.hQ x.name∧x.cT:=by
 obtain⟨aQ,iF,ds,_,aJ⟩:=sg (t:=T.f) rfl (by kernel_rfl) (by kernel_rfl) h
 match cs,aQ with
 | [bN,c1,c2,bK,bQ,ny],_ =>
  obtain⟨_,_,du,aj,_⟩:=aJ 0 _ rfl;obtain⟨_,_,bT,h1,_⟩:=aJ 1 _ rfl;obtain⟨_,_,bg,U,_⟩:=aJ 2 _ rfl;obtain⟨_,_,bO,ai,_⟩:=aJ 3 _ rfl;obtain⟨_,_,b8,aL,_⟩:=aJ 4 _ rfl;obtain⟨_,_,ca,bn,_⟩:=aJ 5 _ rfl;cases du;cases bT;cases bg;cases bO;cases b8;cases ca;obtain⟨s,du,_,ay⟩:=DataW.trod_string (by kernel_rfl) aj;obtain⟨fy,bT,_,eO⟩:=DataW.trod_int (k:=.i64) (by kernel_rfl) h1;obtain⟨z2,bg,_,gA⟩:=DataW.trod_int (k:=.i64) (by kernel_rfl) U;obtain⟨z3,bO,_,kS⟩:=DataW.trod_int (k:=.i64) (by kernel_rfl) ai;obtain⟨z4,b8,_,mz⟩:=DataW.trod_int (k:=.i64) (by kernel_rfl) aL;obtain⟨z5,ca,_,uQ⟩:=DataW.trod_int (k:=.i64) (by kernel_rfl) bn;cases du;cases bT;cases bg;cases bO;cases b8;cases ca;exact⟨⟨s,fy,z2,z3,z4,z5⟩,rfl,ay,⟨kz eO,kz gA,kz kS,kz mz,kz uQ⟩⟩
theorem YH(h:DataW.trod enc Tryz.prog w 0 (fun _=>true) true n T.q cs=some y):∃x:o.c4,cs=x.enc∧o.hQ x.name∧x.cT:=by
 obtain⟨aQ,iF,ds,_,aJ⟩:=sg (t:=T.q) rfl (by kernel_rfl) (by kernel_rfl) h
 match cs,aQ with
 | [bN,c1,c2,bK,bQ,ny],_ =>
  obtain⟨_,_,du,aj,_⟩:=aJ 0 _ rfl;obtain⟨_,_,bT,h1,_⟩:=aJ 1 _ rfl;obtain⟨_,_,bg,U,_⟩:=aJ 2 _ rfl;obtain⟨_,_,bO,ai,_⟩:=aJ 3 _ rfl;obtain⟨_,_,b8,aL,_⟩:=aJ 4 _ rfl;obtain⟨_,_,ca,bn,_⟩:=aJ 5 _ rfl;cases du;cases bT;cases bg;cases bO;cases b8;cases ca;obtain⟨s,du,_,ay⟩:=DataW.trod_string (by kernel_rfl) aj;obtain⟨fy,bT,_,eO⟩:=DataW.trod_int (k:=.i64) (by kernel_rfl) h1;obtain⟨z2,bg,_,gA⟩:=DataW.trod_int (k:=.i64) (by kernel_rfl) U;obtain⟨z3,bO,_,kS⟩:=DataW.trod_int (k:=.i64) (by kernel_rfl) ai;obtain⟨z4,b8,_,mz⟩:=DataW.trod_int (k:=.i64) (by kernel_rfl) aL;obtain⟨z5,ca,_⟩:=DataW.trod_bool (by kernel_rfl) bn;cases du;cases bT;cases bg;cases bO;cases b8;cases ca;exact⟨⟨s,fy,z2,z3,z4,z5⟩,rfl,ay,⟨kz eO,kz gA,kz kS,kz mz⟩⟩
theorem ER(h:DataW.trod enc Tryz.prog w 0 (fun _=>true) true n T.xQ [v]=some y):∃l,o.fA w v l∧(Small Tryz.prog T.xQ y.1→o.dZ l.length 16∧∀x∈l,True) :=
 tU (G:=fun _=>True) (e:=T.k) 2 16 (by kernel_rfl) (by kernel_rfl) (by kernel_rfl) (fun a cs n y av aQ aK=>by obtain⟨x,rfl,aw⟩:=ac1 aK;exact⟨x,⟨av,aw⟩,fun _=>trivial⟩) h
theorem YT(h:DataW.trod enc Tryz.prog w 0 (fun _=>true) true n T.z [v]=some y):∃l,o.fY w v l∧(Small Tryz.prog T.z y.1→o.dZ l.length 24∧∀x∈l,x.cT) :=
 tU (e:=T.tL) 2 24 (by kernel_rfl) (by kernel_rfl) (by kernel_rfl) (fun a cs n y av aQ aK=>by obtain⟨x,rfl,aw,a6⟩:=YS aK;exact⟨x,⟨av,aw⟩,fun _=>a6⟩) h
theorem P2(h:DataW.trod enc Tryz.prog w 0 (fun _=>true) true n T.Am [v]=some y):∃l,o.gF w v l∧(Small Tryz.prog T.Am y.1→o.dZ l.length 56∧∀x∈l,x.cT) :=
 tU (e:=T.f) 6 56 (by kernel_rfl) (by kernel_rfl) (by kernel_rfl) (fun a cs n y av aQ aK=>by obtain⟨x,rfl,aw,a6⟩:=YU aK;exact⟨x,⟨av,aw⟩,fun _=>a6⟩) h
theorem YI(h:DataW.trod enc Tryz.prog w 0 (fun _=>true) true n T.ow [v]=some y):∃l,o.lG w v l∧(Small Tryz.prog T.ow y.1→o.dZ l.length 56∧∀x∈l,x.cT) :=
 tU (e:=T.q) 6 56 (by kernel_rfl) (by kernel_rfl) (by kernel_rfl) (fun a cs n y av aQ aK=>by obtain⟨x,rfl,aw,a6⟩:=YH aK;exact⟨x,⟨av,aw⟩,fun _=>a6⟩) h
theorem YF{a:Addr}(av:fb w a cs)(h:DataW.trod enc Tryz.prog w 0 (fun _=>true) true n T.n cs=some y):∃x:o.Act,o.vq w a x∧(Small Tryz.prog T.n y.1→x.cT):=by
 obtain⟨aQ,iF,ds,he,aJ⟩:=sg (t:=T.n) rfl (by kernel_rfl) (by kernel_rfl) h
 match cs,aQ with
 | [bN,c1,c2,bK,bQ],_ =>
  obtain⟨_,_,du,aj,_⟩:=aJ 0 _ rfl;obtain⟨_,_,bT,h1,_⟩:=aJ 1 _ rfl;obtain⟨_,_,bg,U,_⟩:=aJ 2 _ rfl;obtain⟨_,_,bO,ai,d3⟩:=aJ 3 _ rfl;obtain⟨_,_,b8,aL,d4⟩:=aJ 4 _ rfl;cases du;cases bT;cases bg;cases bO;cases b8;obtain⟨z0,du,_,hL⟩:=DataW.trod_int (k:=.i64) (by kernel_rfl) aj;obtain⟨fy,bT,_,eO⟩:=DataW.trod_int (k:=.i64) (by kernel_rfl) h1;obtain⟨z2,bg,_,gA⟩:=DataW.trod_int (k:=.i64) (by kernel_rfl) U;cases du;cases bT;cases bg;obtain⟨dT,ai,g3⟩:=ER ai;obtain⟨er,aL,g4⟩:=ER aL;exact⟨⟨z0,fy,z2,dT,er⟩,⟨bK,bQ,av,ai,aL⟩,fun ay=>by
   rw[he] at ay;exact⟨kz hL,kz eO,kz gA,(g3 (ay.field rfl rfl rfl d3)).1,(g4 (ay.field rfl rfl rfl d4)).1⟩⟩
theorem YG(h:DataW.trod enc Tryz.prog w 0 (fun _=>true) true n T.nv [v]=some y):∃l,o.mH w v l∧(Small Tryz.prog T.nv y.1→o.dZ l.length 72∧∀x∈l,x.cT) :=
 tU (e:=T.n) 5 72 (by kernel_rfl) (by kernel_rfl) (by kernel_rfl) (fun a cs n y av aQ aK=>YF av aK) h
theorem YJ(h:DataW.trod enc Tryz.prog w 0 (fun _=>true) true n T.m cs=some y):∃x:o.dD,o.xz w cs x∧(Small Tryz.prog T.m y.1→x.cT):=by
 obtain⟨aQ,iF,ds,he,aJ⟩:=sg (t:=T.m) rfl (by kernel_rfl) (by kernel_rfl) h
 match cs,aQ with
 | [bN,c1,c2,bK,bQ,ny],_ =>
  obtain⟨_,_,du,aj,_⟩:=aJ 0 _ rfl;obtain⟨_,_,bT,h1,_⟩:=aJ 1 _ rfl;obtain⟨_,_,bg,U,_⟩:=aJ 2 _ rfl;obtain⟨_,_,bO,ai,d3⟩:=aJ 3 _ rfl;obtain⟨_,_,b8,aL,d4⟩:=aJ 4 _ rfl;obtain⟨_,_,ca,bn,_⟩:=aJ 5 _ rfl;cases du;cases bT;cases bg;cases bO;cases b8;cases ca;obtain⟨s,du,_,ay⟩:=DataW.trod_string (by kernel_rfl) aj;obtain⟨fy,bT,_,eO⟩:=DataW.trod_int (k:=.i64) (by kernel_rfl) h1;obtain⟨z2,bg,_,gA⟩:=DataW.trod_int (k:=.i64) (by kernel_rfl) U;obtain⟨z5,ca,_⟩:=DataW.trod_bool (by kernel_rfl) bn;cases du;cases bT;cases bg;cases ca;obtain⟨dT,ai,g3⟩:=ER ai;obtain⟨er,aL,g4⟩:=YG aL;exact⟨⟨s,fy,z2,dT,er,z5⟩,⟨ay,bK,bQ,rfl,ai,aL⟩,fun ay=>by
   rw[he] at ay;exact⟨kz eO,kz gA,(g3 (ay.field rfl rfl rfl d3)).1,(g4 (ay.field rfl rfl rfl d4)).1,(g4 (ay.field rfl rfl rfl d4)).2⟩⟩
theorem YK(h:DataW.trod enc Tryz.prog w 0 (fun _=>true) true n T.as [v]=some y):∃l,o.o6 w v l∧(Small Tryz.prog T.as y.1→o.dZ l.length 88∧∀x∈l,x.cT) :=
 tU (e:=T.m) 6 88 (by kernel_rfl) (by kernel_rfl) (by kernel_rfl) (fun a cs n y av aQ aK=>by
  obtain⟨x,⟨aj,fw,eD,rfl,h1,U⟩,a6⟩:=YJ aK;exact⟨x,⟨aj,fw,eD,av,h1,U⟩,a6⟩) h
theorem YO(h:DataW.trod enc Tryz.prog w 0 (fun _=>true) true n T.g cs=some y):∃x:o.dj,o.tD w cs x∧(Small Tryz.prog T.g y.1→x.cT):=by
 obtain⟨aQ,iF,ds,he,aJ⟩:=sg (t:=T.g) rfl (by kernel_rfl) (by kernel_rfl) h
 match cs,aQ with
 | [bN,c1,c2,bK,bQ],_ =>
  obtain⟨_,_,du,aj,_⟩:=aJ 0 _ rfl;obtain⟨_,_,bT,h1,_⟩:=aJ 1 _ rfl;obtain⟨_,_,bg,U,_⟩:=aJ 2 _ rfl;obtain⟨_,_,bO,ai,d3⟩:=aJ 3 _ rfl;obtain⟨_,_,b8,aL,d4⟩:=aJ 4 _ rfl;cases du;cases bT;cases bg;cases bO;cases b8;obtain⟨s,du,_,ay⟩:=DataW.trod_string (by kernel_rfl) aj;obtain⟨fy,bT,_,eO⟩:=DataW.trod_int (k:=.i64) (by kernel_rfl) h1;obtain⟨z2,bg,_,gA⟩:=DataW.trod_int (k:=.i64) (by kernel_rfl) U;cases du;cases bT;cases bg;obtain⟨dT,ai,g3⟩:=P2 ai;obtain⟨er,aL,g4⟩:=YK aL;exact⟨⟨s,fy,z2,dT,er⟩,⟨ay,bK,bQ,rfl,ai,aL⟩,fun ay=>by
   rw[he] at ay;exact⟨kz eO,kz gA,(g3 (ay.field rfl rfl rfl d3)).1,(g4 (ay.field rfl rfl rfl d4)).1,(g3 (ay.field rfl rfl rfl d3)).2,(g4 (ay.field rfl rfl rfl d4)).2⟩⟩
theorem YP(h:DataW.trod enc Tryz.prog w 0 (fun _=>true) true n T.ap [v]=some y):∃l,o.o9 w v l∧(Small Tryz.prog T.ap y.1→o.dZ l.length 80∧∀x∈l,x.cT) :=
 tU (e:=T.g) 5 80 (by kernel_rfl) (by kernel_rfl) (by kernel_rfl) (fun a cs n y av aQ aK=>by
  obtain⟨x,⟨aj,fw,eD,rfl,h1,U⟩,a6⟩:=YO aK;exact⟨x,⟨aj,fw,eD,av,h1,U⟩,a6⟩) h
theorem YQ(h:DataW.trod enc Tryz.prog w 0 (fun _=>true) true n T.q0 [v]=some y):∃l,o.xH w v l∧(Small Tryz.prog T.q0 y.1→o.dZ l.length 40∧∀x∈l,x.cT) :=
 tU (e:=T.ox) 2 40 (by kernel_rfl) (by kernel_rfl) (by kernel_rfl) (fun a cs n y av aQ aK=>by
  obtain⟨aQ,iF,ds,he,aJ⟩:=sg (t:=T.ox) rfl (by kernel_rfl) (by kernel_rfl) aK
  match cs,aQ with
  | [bN,c1],_ =>
   obtain⟨_,_,du,aj,_⟩:=aJ 0 _ rfl;obtain⟨_,_,bT,h1,d1⟩:=aJ 1 _ rfl;cases du;cases bT;obtain⟨s,du,_,ay⟩:=DataW.trod_string (by kernel_rfl) aj;cases du;obtain⟨dt,h1,g1⟩:=ER h1;exact⟨⟨s,dt⟩,⟨ay,c1,av,h1⟩,fun ay=>by rw[he] at ay;exact⟨(g1 (ay.field rfl rfl rfl d1)).1⟩⟩) h
theorem adm{r:Reach}{nx:Nat}{v:Value}{d:DataW H}{p:List MemPlace}(sL:Value.okWide Tryz.prog w r nx T.b v)(h:DataW.Trod enc Tryz.prog w 0 (fun _=>true) true T.b v d p)(ay:Small Tryz.prog T.b d) :
  ∃cs m,v = .agg cs.toArray∧o.ew w cs m∧m.cT:=by
 obtain⟨cs,n,rfl,aK⟩:=ado (t:=T.b) rfl sL h;obtain⟨aQ,iF,ds,rfl,aJ⟩:=sg (t:=T.b) rfl (by kernel_rfl) (by kernel_rfl) aK;obtain⟨cs⟩:=cs
 match cs,aQ with
 | [bN,c1,c2,bK,bQ],_ =>
  obtain⟨_,_,du,aj,d0⟩:=aJ 0 _ rfl;obtain⟨_,_,bT,h1,d1⟩:=aJ 1 _ rfl;obtain⟨_,_,bg,U,d2⟩:=aJ 2 _ rfl;obtain⟨_,_,bO,ai,d3⟩:=aJ 3 _ rfl;obtain⟨_,_,b8,aL,d4⟩:=aJ 4 _ rfl;cases du;cases bT;cases bg;cases bO;cases b8;obtain⟨eG,gM,nx⟩:=YT aj;obtain⟨dt,fl,bz⟩:=P2 h1;obtain⟨dB,fD,b4⟩:=YI U;obtain⟨dT,hc,bZ⟩:=YP ai;obtain⟨er,jF,cE⟩:=YQ aL;have hL:=nx (ay.field rfl rfl rfl d0);have eO:=bz (ay.field rfl rfl rfl d1);have gA:=b4 (ay.field rfl rfl rfl d2);have kS:=bZ (ay.field rfl rfl rfl d3);have mz:=cE (ay.field rfl rfl rfl d4);exact⟨[bN,c1,c2,bK,bQ],⟨eG,dt,dB,dT,er⟩,rfl,⟨⟨bN,c1,c2,bK,bQ,rfl,gM,fl,fD,hc,jF⟩⟩,⟨hL.1,eO.1,gA.1,kS.1,mz.1,hL.2,eO.2,gA.2,kS.2,mz.2⟩⟩
end Go.Proofs.R
end
section
namespace Go.Proofs.R
open Go Go.RowKit bt Go.ChangeShapes Go.WideShapes Go.Deep
theorem ajE{H:Type}{enc:TypeId×Value→H}{r:Reach}{nx:Nat}{d0 d1:DataW H}{hz fk:List MemPlace}(v0 v1:Value)(W:World)(a8:h9 W)
  (hL:Value.okWide Tryz.prog W r nx T.b v0)(aj:DataW.Trod enc Tryz.prog W 0 (fun _=>true) true T.b v0 d0 hz)(iu:Small Tryz.prog T.b d0)
  (eO:Value.okWide Tryz.prog W r nx T.c v1)(h1:DataW.Trod enc Tryz.prog W 0 (fun _=>true) true T.c v1 d1 fk)(_s1:Small Tryz.prog T.c d1) :
  bq Tryz.prog F.CL #[v0,v1] W fun v w'=>v = .bool true∧Ext W w':=by
 obtain⟨cs,m,rfl,hm,a6⟩:=adm hL aj iu;obtain⟨s,ay⟩:=adn eO h1;exact ace cs v1 m s W hm a6 a8 ay
end Go.Proofs.R
end
section
namespace bt
open Go Go.RowKit Go.ChangeShapes
theorem aiO{P:Program}{f:FuncId}{fn:Func}{s:ChangeSpec}{c:OpenClaim}(h1:(c.wf (OpenSpec.ofChange s)&&laidOutB P&&mapsRowed P)=true)
  (U:(fn.params.all (P.readableRec ·)&&namedTie P c.named s.vars)=true)(ai:((c.stops == [])&&(P.stops == [])&&(c.knobs == [])&&(P.stopKnobs == []))=true)
  (aL:(c.inPlace == P.inPlace f)=true)(bn:(c.unfollowed == P.unfollowed f)=true)(bL:(c.recurses == P.recurses f)=true)(b7:(c.named == P.varsNamed f)=true)
  (dA:((c.maps == (fn.params.toList++s.plain.varTypes P).any (P.mapsRec ·))&&(c.ifaces == (fn.params.toList++s.plain.varTypes P).any (P.ifacesRec ·))&&(c.mapsOut == P.mapsAmong fn.resultTypes.toList))=true)
  (hI:((c.loops == (fn.params.toList++s.plain.varTypes P).any (P.loopsFrom ·))&&(c.wideKeys == (fn.params.toList++s.plain.varTypes P++fn.resultTypes.toList).any (P.wideKeysFrom ·)))=true)
  (iQ:(s.vars.all (P.varReadable ·)&&fn.resultTypes.all (fun t=>P.readableRec t&&decide (t<P.types.size))&&(c.ifacesOut == fn.resultTypes.toList.any (P.ifacesRec ·))&&(c.loopsOut == fn.resultTypes.toList.any (P.loopsFrom ·)))=true)
  (ES:(c.plainKeys == P.plainKeys)=true)(po:(c.shortTexts.isNone&&P.stopsHeard)=true)(A1:P.mayEnter=true)
  (P5:((c.lifted == P.liftsFinal)&&(P.make == some c.make))=true)
  (k9:((c.kinds == (if c.domain.isEmpty then [] else fn.params.toList.map fun t=>match P.underlying t with | some (.int k)=>some k | _=>none))&&(c.pinned == c.pinnedBy))=true)
  (lU:((c.veiled == (fn.params.toList++s.plain.varTypes P++fn.resultTypes.toList).any (P.veiledRec ·))&&c.veiledFits P fn.params.toList (fn.params.toList++s.plain.varTypes P++fn.resultTypes.toList))=true) :
  joinedFacts P f fn s c=true:=by
 simp only[Bool.and_eq_true] at h1 U ai dA hI iQ po P5 k9 lU;unfold joinedFacts;simp only[Bool.and_eq_true];obtain⟨⟨dy,a2⟩,a3⟩:=h1;obtain⟨bz,b4⟩:=U;obtain⟨⟨⟨d1,d2⟩,d3⟩,d4⟩:=ai;obtain⟨⟨bT,bg⟩,bO⟩:=dA;obtain⟨f1,f2⟩:=hI;obtain⟨⟨⟨g1,g2⟩,g3⟩,g4⟩:=iQ;obtain⟨i1,i2⟩:=po;obtain⟨l0,lo⟩:=P5;obtain⟨eO,gA⟩:=k9;obtain⟨dt,dB⟩:=lU;exact⟨⟨⟨⟨⟨⟨⟨⟨⟨⟨⟨⟨⟨⟨⟨⟨⟨⟨⟨⟨⟨⟨⟨⟨⟨⟨⟨⟨⟨⟨⟨dy,a2⟩,a3⟩,bz⟩,b4⟩,d1⟩,d2⟩,d3⟩,d4⟩,aL⟩,bn⟩,bL⟩,b7⟩,bT⟩,bg⟩,bO⟩,f1⟩,f2⟩,g1⟩,g2⟩,g3⟩,g4⟩,ES⟩,i1⟩,i2⟩,A1⟩,l0⟩,lo⟩,eO⟩,gA⟩,dt⟩,dB⟩
end bt
end