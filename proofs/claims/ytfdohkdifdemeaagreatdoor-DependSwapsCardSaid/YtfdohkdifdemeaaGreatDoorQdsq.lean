/- Parts. -/
import Derived.Test.YtfdohkdifdemeaaGreatDoorQdsp
import Derived.Shelf.SlSortCmp.WholeK
import Derived.Shelf.SlSortCmp.NoneTotal
set_option linter.all false
set_option maxRecDepth 8000
set_option maxHeartbeats 16000000
section
namespace o
open Go
theorem ZU(m:Model)(q:Nat)(l:List Act)(s:List Int){k:Nat}(hk:k<l.length):iB m q (l.take (k+1)) s=match iB m q (l.take k) s with | none=>none | some t=>jP m t q l[k]:=by
 rw[List.take_succ_eq_append_getElem hk,RE];rfl
theorem RD(m:Model)(q:Nat):∀(l:List Act) (s:List Int) (k:Nat),iB m q (l.take k) s=none->iB m q l s=none
 | [],s,k,h=>by simp[iB] at h
 | a :: l,s,0,h=>by simp[iB] at h
 | a :: l,s,k+1,h=>by
  simp only[List.take_succ_cons,iB] at h ⊢;cases h1:jP m s q a with
  | none=>rfl
  | some t=>rw[h1] at h;exact RD m q l t k h
end o
namespace Go.Proofs.R
open Go Go.RowKit bt
theorem Xv(cs:List Value)(v:Value)(m:o.Model)(s:List Int)(ref:Int)(q p k:Nat)(w:World)(h:oX w cs m)(a1:m.cQ)(ay:eO w v s)(aK:o.Fits m s)(ca:o.fD m ref q p k) :
  bu Tryz.prog F.A1 #[.agg cs.toArray,v,.int .i64 ref] w fun u w'=>Re w.heap.size (o.hx m s q (o.cD m p k)) u w'/\Ext w w':=by
 have hZ:=h;have br:=o.mF ca.ok;obtain⟨gv,d0,eD,d1,fC,d2,fU,d3,gF,d4,cy,bP,b9,c1,ck,c2,cn,bQ,cB,bX,cS,ci,h5,kh,rfl,eh,qK,gz,fi,fR,ix,k7,ak,h1,U,ag,adP,KZ⟩:=h.form;obtain⟨os,xQ,rfl,Il⟩:=ay.form;have bB:=ca.inst;have sW:=ca.cin;have s0:=sW.hJ;have aD:=bB.aD;have hlen:=aK.len;have qI:o.eB m<=64:=o.nm br;have LQ:=bB.room;obtain⟨r,rfl⟩:=Int.eq_ofNat_of_zero_le ca.bf;have a6:r<(o.refs m).length:=ca.ad;have kE:(o.refs m)[r].inst=(q:Int):=ca.at_.wY;have s6:(o.refs m)[r].cmd=(k:Int):=ca.at_.yT;obtain⟨LO,rT⟩:=o.yt aD;obtain⟨rH,rfl⟩:=KZ.addr (by omega);obtain⟨a2,rfl⟩:=fR.addr (by omega);obtain⟨aaa,rfl⟩:=ay.addr (by omega);have dq:=o.SX br aK aD;obtain⟨c,Dn⟩:∃c,c=o.cD m p k:=⟨_,rfl⟩;rw[<-Dn] at sW s0 ⊢;refine bL E.A1 ?_;refine bG ?_;refine af ?_;intro av b4 fp aB bA;have adY:=KZ.ext Flat.ext aB;refine af ?_;intro aU kU qM aA cL;have CL:(o.refs m)[r].enc=[.int .i64 q,.int .i64 k]:=by unfold o.Ref.enc;rw[kE,s6]
 rw[CL] at cL;replace bA:=aA.obj bA;have aW:=aB.trans aA;clear adY;refine af ?_;refine K.call (ND _ m r q p k aU (hZ.ext aW) ca) ?_;rintro _ bb ⟨⟨fK,ed,rfl,lE,jk⟩,ax⟩;rw[<-Dn] at lE jk ⊢;obtain⟨iL,je,rfl,_⟩:=lE.form;obtain⟨yP,xK,rfl,_⟩:=jk.form;replace bA:=ax.obj bA;replace cL:=ax.obj cL;have bJ:=aW.trans ax;unfold o.dI.enc;refine af ?_;intro bq hv lB aM dM;replace bA:=aM.obj bA;replace cL:=aM.obj cL;have bZ:=bJ.trans aM;have k2:=ay.ext Flat.ext bZ;have wX:=fR.ext Flat.ext bZ;have U6:=lE.ext (ax.trans aM);have U3:=jk.ext (ax.trans aM);clear lE jk;refine af ?_;refine K.dD (o.dS m q) (by rw[rT]) (by omega) ?_;refine af ?_;intro bT aZ;replace bA:=aZ.obj bA;replace cL:=aZ.obj cL;replace dM:=aZ.obj dM;have b5:=bZ.trans aZ;have afB:=U6.ext aZ;have U4:=U3.ext aZ;have UU:s[o.dS m q]? = some (s[o.dS m q]'(by omega)):=List.getElem?_eq_getElem (by omega);clear U6 U3 k2 wX;refine ee ?_;apply K.cond<;>intro g1;rotate_left
 .refine af ?_;exact⟨.inl ⟨by unfold o.hx;rw[UU,if_pos (by simpa using g1)],bk⟩,b5⟩
 have sY:o.hx m s q c=if 0<c.guard.length/\((o.eval c.guard (o.c8 m s q)).2≠0\/(o.eval c.guard (o.c8 m s q)).1=0) then none else (o.iB m q c.b6 s).map fun t=>t.set (o.dS m q) c.to:=by
  unfold o.hx;rw[UU,if_neg (by simpa using g1)]
 have aex:=bA;have aeE:=cL;have T5:=dM;refine ee ?_;refine K.hl [1,3,8,9] (fun _:Unit=>[]) (fun _ W=>Ext bT W/\¬(0<c.guard.length/\((o.eval c.guard (o.c8 m s q)).2≠0\/(o.eval c.guard (o.c8 m s q)).1=0))) ?_ ?_
 .refine af ?_;apply K.cond<;>intro g2;rotate_left
  .refine af ?_;exact⟨(),trivial,Ext.refl _,fun dt=>by omega⟩
  have uG:=ay.ext Flat.ext b5;refine af ?_;intro bV a8;replace bA:=a8.obj bA;replace cL:=a8.obj cL;replace dM:=a8.obj dM;have cM:=b5.trans a8;refine af ?_;refine K.AH [.slice gv m.scalars.length d0,.slice eD m.vars.length d1,.slice fC m.aL.length d2,.slice fU m.procs.length d3,.slice gF m.props.length d4] bA rfl rfl ?_;refine af ?_;refine K.AH [.slice cy (o.layout m).vars.length bP,.slice b9 (o.layout m).aL.length c1,.slice (some a2) (o.layout m).insts.length c2,.int .i64 (o.layout m).cells,.slice cn (o.layout m).bf.length bQ,.slice cB (o.layout m).ad.length bX] bA rfl rfl ?_;refine af ?_;refine K.call (XW _ _ _ m s q bV (eh.ext cM) a1 br (qK.ext cM) (ay.ext Flat.ext cM) aK (by omega) (by omega)) ?_;rintro _ cc ⟨⟨es,rfl,aE⟩,bM⟩;have fS:=SV aE.here dq;refine⟨bM,?_⟩;refine af ?_;refine K.call (NP _ c.guard _ (o.c8 m s q) cc (afB.ext (a8.trans bM)) fS) ?_;rintro _ di ⟨rfl,bY⟩;obtain⟨n,DM⟩:∃n,n=(o.eval c.guard (o.c8 m s q)).1:=⟨_,rfl⟩;obtain⟨e,Ak⟩:∃e,e=(o.eval c.guard (o.c8 m s q)).2:=⟨_,rfl⟩;rw[<-DM,<-Ak];rw[<-DM,<-Ak] at sY;have eg:=(cM.trans bM).trans bY;refine af ?_;refine K.cond (fun ni=>?_) (fun ni=>?_);rotate_left
  .refine af ?_;exact⟨.inl ⟨by rw[sY,if_pos ⟨by omega,.inl ni⟩],bk⟩,eg⟩
  refine af ?_;refine K.cond (fun pr=>?_) (fun pr=>?_)
  .refine af ?_;exact⟨.inl ⟨by rw[sY,if_pos ⟨by omega,.inr pr⟩],bk⟩,eg⟩
  .refine af ?_;exact⟨(),trivial,(a8.trans bM).trans bY,fun dt=>by rcases dt.2 with h | h;exact h ni;exact pr h⟩
 clear bA cL dM;rintro _ S bV ⟨a8,wm⟩;have jY:o.hx m s q c=(o.iB m q c.b6 s).map fun t=>t.set (o.dS m q) c.to:=by rw[sY,if_neg wm]
 rw[jY];clear sY wm jY;have dM:=a8.obj T5;refine af ?_;refine K.dk 13 c.b6.length [1,3,8,9] (fun v:gQ=>[(12,.slice v.1 v.2.1 v.2.2)]) (some aaa,s.length,xQ) (fun n v W=>Ext bT W/\∃t,o.iB m q (c.b6.take n) s=some t/\eO W (.slice v.1 v.2.1 v.2.2) t/\o.Fits m t) bz bz ⟨a8,s,rfl,ay.ext Flat.ext (b5.trans a8),aK⟩ ?_;clear dM a8;rintro n nY bh cc aE ⟨bM,t,aO,DN,LI⟩;have bA:=bM.obj aex;have cL:=bM.obj aeE;have dM:=bM.obj T5;have afz:=U4.ext bM;have dz:=b5.trans bM;refine af ?_;apply K.cond<;>intro g2
 .have ir:n<c.b6.length:=by omega
  obtain⟨ky,rfl⟩:=U4.addr (by omega);obtain⟨cx,cE,x7,Au,DO⟩:=afz.at n ir;have Dc:=sW.act n ir;obtain⟨ao8,am2,rfl,_⟩:=Au.form;obtain⟨ao9,tR,rfl,_⟩:=DO.form;refine af ?_;intro di bY;replace bA:=bY.obj bA;replace cL:=bY.obj cL;replace dM:=bY.obj dM;replace x7:=x7.ext bY;have eg:=dz.trans bY;refine af ?_;refine K.call (ajt _ _ _ _ m t q p c.b6[n] di (hZ.ext eg) a1 br (DN.ext Flat.ext bY) LI bB (Au.ext bY) (DO.ext bY) Dc) ?_;rintro u dX ⟨eQ,cr⟩;have HR:=o.ZU m q c.b6 s ir;rw[aO] at HR;simp only at HR;rcases eQ with ⟨gZ,rfl⟩ | ⟨hg,apD,k4,rfl,lG⟩
  .refine af ?_;exact⟨.inl ⟨by rw[o.RD m q c.b6 s (n+1) (HR.trans gZ)];rfl,bk⟩,eg.trans cr⟩
  .obtain⟨yQ,o6,rfl,_⟩:=lG.form;refine af ?_;exact⟨ir,bk,(yQ,_,o6),⟨rfl,trivial⟩,(bM.trans bY).trans cr,hg,HR.trans k4,sf lG,o.RC br bB Dc LI k4⟩
 .have HO:n=c.b6.length:=by omega
  subst HO;rw[List.take_length] at aO;rw[aO];obtain⟨YV,mc,dU⟩:=nY;obtain⟨_,_,aon,_⟩:=DN.form;have cv:=LI.len;have Xq:=fR.ext Flat.ext dz;refine af ?_;intro di bY;replace bA:=bY.obj bA;replace cL:=bY.obj cL;replace dM:=bY.obj dM;replace Xq:=Xq.ext Flat.ext bY;have eg:=dz.trans bY;refine af ?_;refine K.call (Xz _ t (o.dS m q) c.to _ (DN.ext Flat.ext bY) (by rw[rT]) (by omega) (by omega)) ?_;rintro u dX ⟨jl,cr⟩;obtain⟨Ni,sH,rfl,_⟩:=jl.form;refine af ?_;exact⟨.inr ⟨_,_,rfl,rfl,bs.low eg.size jl⟩,eg.trans cr⟩
end Go.Proofs.R
end
section
namespace o
open Go
def lost(m:Model)(s t:List Int)(c:dI):List Int:=lK t (df m (comm c.b6).2.toNat) (chanOf m s (comm c.b6).2.toNat)
structure kO(m:Model)(s:List Int)(ref h9:Int)(t:List Int)(e:Int):Prop where
 f0:¬(oe m s/\Told m ref)->t=[]/\e=2
 f1:∀q p k,oe m s->fD m ref q p k->¬(0<=h9/\h9<ways (cD m p k) m.aL)->t=[]/\e=2
 f2:∀q p k,oe m s->fD m ref q p k->0<=h9/\h9<ways (cD m p k) m.aL->hx m s q (cD m p k)=none->t=[]/\e=15
 f3:∀q p k u,oe m s->fD m ref q p k->0<=h9/\h9<ways (cD m p k) m.aL->hx m s q (cD m p k)=some u->t=(if h9=1 then lost m s u (cD m p k) else u)/\e=0
theorem kO.no{m:Model}{s:List Int}{ref h9:Int}(h:¬(oe m s/\Told m ref)):kO m s ref h9 [] 2 :=
 ⟨fun _=>⟨rfl,rfl⟩,fun _ _ _ a6 aw=>absurd ⟨a6,aw.told⟩ h,fun _ _ _ a6 aw=>absurd ⟨a6,aw.told⟩ h,fun _ _ _ _ a6 aw=>absurd ⟨a6,aw.told⟩ h⟩
theorem kO.WT{m:Model}{s:List Int}{ref h9:Int}{q p k:Nat}(aw:fD m ref q p k)(a6:oe m s)(h:¬(0<=h9/\h9<ways (cD m p k) m.aL)):kO m s ref h9 [] 2 :=
 ⟨fun aE=>absurd ⟨a6,aw.told⟩ aE,fun _ _ _ _ _ _=>⟨rfl,rfl⟩,fun ga fZ k' _ my hw=>(by obtain⟨rfl,rfl,rfl⟩:=aw.one my;exact absurd hw h),fun ga fZ k' _ _ my hw=>by obtain⟨rfl,rfl,rfl⟩:=aw.one my;exact absurd hw h⟩
theorem kO.none{m:Model}{s:List Int}{ref h9:Int}{q p k:Nat}(aw:fD m ref q p k)(a6:oe m s)(hw:0<=h9/\h9<ways (cD m p k) m.aL)(h:hx m s q (cD m p k)=Option.none):kO m s ref h9 [] 15 :=
 ⟨fun aE=>absurd ⟨a6,aw.told⟩ aE,fun ga fZ k' _ my aE=>(by obtain⟨rfl,rfl,rfl⟩:=aw.one my;exact absurd hw aE),fun _ _ _ _ _ _ _=>⟨rfl,rfl⟩,fun ga fZ k' u _ my _ hu=>by obtain⟨rfl,rfl,rfl⟩:=aw.one my;rw[h] at hu;cases hu⟩
theorem kO.some{m:Model}{s u:List Int}{ref h9:Int}{q p k:Nat}(aw:fD m ref q p k)(a6:oe m s)(hw:0<=h9/\h9<ways (cD m p k) m.aL)(h:hx m s q (cD m p k)=Option.some u):kO m s ref h9 (if h9=1 then lost m s u (cD m p k) else u) 0 :=
 ⟨fun aE=>absurd ⟨a6,aw.told⟩ aE,fun ga fZ k' _ my aE=>(by obtain⟨rfl,rfl,rfl⟩:=aw.one my;exact absurd hw aE),fun ga fZ k' _ my _ hu=>(by obtain⟨rfl,rfl,rfl⟩:=aw.one my;rw[h] at hu;cases hu),
  fun ga fZ k' jL _ my _ hu=>by obtain⟨rfl,rfl,rfl⟩:=aw.one my;rw[h] at hu;injection hu with hu;subst hu;exact⟨rfl,rfl⟩⟩
theorem ama{c:dI}{l:List dr}(h:1<ways c l):∃j:Nat,(comm c.b6).2=j/\j<l.length/\(comm c.b6).1=4:=by
 unfold ways at h;split at h
 .rename_i aJ;cases aE:nth l (comm c.b6).2 with
  | none=>rw[aE] at h;simp at h
  | some x =>
   obtain⟨ak,_,h1⟩:=u3 aE;exact⟨(comm c.b6).2.toNat,by omega,h1,aJ⟩
 .omega
theorem aby{m:Model}{s t:List Int}{ref:Int}{q p k:Nat}(ca:fD m ref q p k)(aK:Fits m s)(h:hx m s q (cD m p k)=some t):t.length=eB m :=
 (Cm ca.inst.aD rfl ca.cin aK.len h).1.trans aK.len
end o
namespace Go.Proofs.R
open Go Go.RowKit bt
theorem Xu(cs:List Value)(v:Value)(m:o.Model)(s:List Int)(w:World)(h:oX w cs m)(br:o.eN m)(ay:eO w v s) :
  bu Tryz.prog F.A0 #[.agg cs.toArray,v] w fun u w'=>(∃t:Bool,u = .bool t/\(t=true↔o.Fits m s))/\Ext w w':=by
 obtain⟨gv,d0,eD,d1,fC,d2,fU,d3,gF,d4,cy,bP,b9,c1,ck,c2,cn,bQ,cB,bX,cS,ci,h5,kh,rfl,eh,qK,_⟩:=h.form;obtain⟨os,xQ,rfl,Il⟩:=ay.form;refine bL E.A0 ?_;refine bG ?_;refine af ?_;intro av cp dR aB aQ;refine af ?_;refine K.AH [.slice gv m.scalars.length d0,.slice eD m.vars.length d1,.slice fC m.aL.length d2,.slice fU m.procs.length d3,.slice gF m.props.length d4] aQ rfl rfl ?_;refine af ?_;refine K.AH [.slice cy (o.layout m).vars.length bP,.slice b9 (o.layout m).aL.length c1,.slice ck (o.layout m).insts.length c2,.int .i64 (o.layout m).cells,.slice cn (o.layout m).bf.length bQ,.slice cB (o.layout m).ad.length bX] aQ rfl rfl ?_;refine af ?_;refine K.call (Xr _ _ m _ s av (eh.ext aB) (qK.ext aB) br (ay.ext Flat.ext aB)) ?_;rintro _ aU ⟨⟨t,rfl,aO⟩,aA⟩;refine af ?_;exact⟨⟨t,rfl,aO⟩,aB.trans aA⟩
theorem IB(cs:List Value)(v:Value)(m:o.Model)(s:List Int)(ref h9:Int)(w:World)(h:o.dY w cs m)(a1:m.cQ)(ay:eO w v s) :
  bu Tryz.prog F.wM #[.agg cs.toArray,v,.int .i64 ref,.int .i64 h9] w fun u w'=>(∃nY t e,u = .tuple #[nY,.int .i64 e]/\eO w' nY t/\o.kO m s ref h9 t e)/\Ext w w':=by
 have eh:=h;obtain⟨cy,bP,b9,c1,ck,c2,cn,bQ,cB,bX,rfl,ak,h1,U,ag,aJ,_⟩:=h.form;obtain⟨os,xQ,rfl,Il⟩:=ay.form;refine bL E.wM ?_;refine bG ?_;refine af ?_;intro av cN fN aB bw;refine af ?_;refine K.call (Xt _ m av (eh.ext aB) a1) ?_;rintro _ aU ⟨hO,aA⟩;replace bw:=aA.obj bw;have aW:=aB.trans aA;rcases hO with ⟨hk,rfl⟩ | ⟨hk,zs,rfl,hZ⟩
 .unfold OB;refine af ?_;intro bb zA Aa ax jy;refine af ?_;intro bq aM;refine af ?_;exact⟨⟨_,[],2,rfl,bE.nil,o.kO.no fun aE=>hk aE.1.1⟩,(aW.trans ax).trans aM⟩
 have br:=o.mF hk;have x6:=hZ;obtain⟨gv,d0,eD,d1,fC,d2,fU,d3,gF,d4,IZ,g0,FE,g1,vk,g2,YN,g3,Ou,g4,cS,ci,h5,kh,rfl,_⟩:=hZ.form;refine af ?_;intro bb zA Aa ax jy;replace bw:=ax.obj bw;have He:=x6.ext ax;have bJ:=aW.trans ax;refine af ?_;intro bq aM;replace bw:=aM.obj bw;replace jy:=aM.obj jy;have Da:=He.ext aM;have bZ:=bJ.trans aM;refine af ?_;refine K.call (Xu _ _ m s bq Da br (ay.ext Flat.ext bZ)) ?_;rintro _ bT ⟨⟨t,rfl,aO⟩,aZ⟩;have TV:=Da.ext aZ;have b5:=bZ.trans aZ;refine⟨aZ,?_⟩;cases t with
 | false =>
  refine af ?_;exact⟨⟨_,[],2,rfl,bE.nil,o.kO.no fun aE=>by have:=aO.2 aE.1.2;cases this⟩,b5⟩
 | true =>
  have dE:o.oe m s:=⟨hk,aO.1 rfl⟩;refine af ?_;apply K.cond<;>intro g1
  .refine af ?_;exact⟨⟨_,[],2,rfl,bE.nil,o.kO.no fun aE=>by have:=aE.2.2;omega⟩,b5⟩
  refine af ?_;apply K.cond<;>intro g2
  .refine af ?_;exact⟨⟨_,[],2,rfl,bE.nil,o.kO.no fun aE=>by have:=aE.2.2;omega⟩,b5⟩
  obtain⟨q,p,k,ca⟩:=o.sD (m:=m) (ref:=ref) ⟨hk,by omega,by omega⟩;refine af ?_;apply K.cond<;>intro g3
  .refine af ?_;exact⟨⟨_,[],2,rfl,bE.nil,o.kO.WT ca dE (by omega)⟩,b5⟩
  refine af ?_;refine K.call (ND _ m ref q p k bT TV ca) ?_;rintro _ bV ⟨⟨fK,ed,rfl,lE,jk⟩,a8⟩;have cM:=b5.trans a8;refine⟨aZ.trans a8,?_⟩;refine af ?_;refine K.call (akp _ _ _ _ m.aL bV (jk.ext a8) (U.ext cM)) ?_;rintro _ cc ⟨rfl,bM⟩;have dz:=cM.trans bM;have Kt:=(aZ.trans a8).trans bM;replace bw:=Kt.obj bw;replace jy:=Kt.obj jy;have K3:=Da.ext Kt;obtain⟨apR,agw⟩:∃x,x=o.ways (o.cD m p k) m.aL:=⟨_,rfl⟩;rw[<-agw];refine af ?_;apply K.cond<;>intro g4
  .refine af ?_;exact⟨⟨_,[],2,rfl,bE.nil,o.kO.WT ca dE (by omega)⟩,dz⟩
  have hw:0<=h9/\h9<o.ways (o.cD m p k) m.aL:=by omega
  have jC:=ay.ext Flat.ext dz;refine af ?_;refine K.call (Xv _ _ m s ref q p k cc K3 a1 jC dE.2 ca) ?_;rintro u di ⟨eQ,bY⟩;replace bw:=bY.obj bw;replace jy:=bY.obj jy;have eg:=dz.trans bY;rcases eQ with ⟨gZ,rfl⟩ | ⟨t,nY,k4,rfl,lG⟩
  .refine af ?_;exact⟨⟨_,[],15,rfl,bE.nil,o.kO.none ca dE hw gZ⟩,eg⟩
  obtain⟨yQ,o6,rfl,_⟩:=lG.form;have wz:=o.kO.some ca dE hw k4;refine af ?_;apply K.cond<;>intro g5;rotate_left
  .rw[if_neg g5] at wz;refine af ?_;exact⟨⟨_,t,0,rfl,sf lG,wz⟩,eg⟩
  rw[if_pos g5] at wz;obtain⟨j,aR,DB,UK⟩:=o.ama (c:=o.cD m p k) (l:=m.aL) (by omega);have cv:=o.aby ca dE.2 k4;have eZ:(o.chanOf m s j).length=1+o.jw m j:=o.tQ (by rw[dE.2.len];exact o.pS DB);unfold o.lost at wz;rw[aR,Int.toNat_natCast] at wz;refine af ?_;refine K.call (ND _ m ref q p k di (K3.ext bY) ca) ?_;rintro _ dX ⟨⟨fK,ed,rfl,lE,jk⟩,cr⟩;have ig:=eg.trans cr;replace jy:=cr.obj jy;refine af ?_;refine K.call (Xy _ _ _ dX (jk.ext cr)) ?_;rintro _ fw ⟨rfl,dc⟩;have kA:=ig.trans dc;replace jy:=dc.obj jy;rw[aR];have aea:=(K3.ext bY).ext (cr.trans dc);refine af ?_;intro gw fY;replace jy:=fY.obj jy;have tW:=kA.trans fY;have TU:=aea.ext fY;refine af ?_;refine K.call (NI _ _ m s j gw TU br (ay.ext Flat.ext tW) dE.2.len DB) ?_;rintro u la ⟨hu,fv⟩;obtain⟨u4,mZ,rfl,_⟩:=hu.form;refine⟨fv,?_⟩;refine af ?_;refine K.call (NR _ _ _ m t (o.chanOf m s j) j la (TU.ext fv) br ((sf lG).ext Flat.ext (((cr.trans dc).trans fY).trans fv)) hu cv DB eZ) ?_;rintro u pz ⟨U8,jA⟩;obtain⟨Ni,sH,rfl,_⟩:=U8.form;refine af ?_;exact⟨⟨_,_,0,rfl,sf U8,wz⟩,(tW.trans fv).trans jA⟩
end Go.Proofs.R
end
section
namespace o
open Go
theorem RI{s:Scope}:∀(l:List Act) (i:Nat) (t:Bool),(kd s l i t).2=0->∀k (h:k<l.length),jQ l[k] s=0
 | [],_,_,_,k,h=>by simp at h
 | a :: r,i,t,h,k,hk=>by
  unfold kd at h;by_cases h1:(gO a&&t)=true
  .rw[if_pos h1] at h;cases h
  rw[if_neg h1] at h;by_cases U:jQ a s≠0
  .rw[if_pos U] at h;exact absurd h U
  rw[if_neg U] at h;cases k with
  | zero=>simpa using U
  | succ k=>exact RI r _ _ h k (by simpa using hk)
structure Zk(m:Model)(p:Nat)(c:dI):Prop where
 act:∀k (h:k<c.b6.length),∀aN:p<m.procs.length,jQ c.b6[k] (inner m.procs[p] (eR m))=0
 to:∀aN:p<m.procs.length,0<=c.to/\c.to<m.procs[p].cw
theorem abC{m:Model}(h:(check m).c3=0){p k:Nat}(aN:p<m.procs.length)(hk:k<m.procs[p].cH.length):Zk m p m.procs[p].cH[k]:=by
 obtain⟨eD,_,_⟩:=Iu (J8 h);obtain⟨_,cX,_,_⟩:=zU aN (eD p aN);obtain⟨_,_,iK⟩:=Np cX;have e:gM m (p:Int)=inner m.procs[p] (eR m):=by
  unfold gM;rw[iY (by omega) (by omega)];rfl
 have bg:=(GF _ _ iK k hk).1;rw[e] at bg;unfold iC at bg;by_cases h1:head m.procs[p].cH[k] m.procs[p].cw≠0
 .rw[if_pos h1] at bg;exact absurd bg h1
 rw[if_neg h1] at bg;have bg:(kd (inner m.procs[p] (eR m)) m.procs[p].cH[k].b6 0 false).2=0:=by
  split at bg
  .rename_i dt;exact absurd bg dt.2
  .exact bg
 refine⟨fun j aR _=>RI _ _ _ bg j aR,fun _=>?_⟩;have h1:head m.procs[p].cH[k] m.procs[p].cw=0:=by simpa using h1
 unfold head at h1;by_cases dH:isName m.procs[p].cH[k].name=false
 .rw[if_pos dH] at h1;cases h1
 rw[if_neg dH] at h1;by_cases dN:m.procs[p].cH[k].from_<0\/m.procs[p].cw<=m.procs[p].cH[k].from_\/m.procs[p].cH[k].to<0\/m.procs[p].cw<=m.procs[p].cH[k].to
 .rw[if_pos dN] at h1;cases h1
 omega
theorem VL{m:Model}:∀(l:List dy) (i:Nat),l=m.procs.drop i->∀x∈iW m l i,∃(p:Nat) (h:p<m.procs.length),x.proc=p/\(m.procs[p].over≠0->x.elem<=elems m m.procs[p])
 | [],_,_,x,ar=>by simp[iW] at ar
 | p :: r,i,h,x,ar=>by
  have ad:i<m.procs.length:=by
   apply Classical.byContradiction;intro aE;rw[List.drop_eq_nil_of_le (by omega)] at h;cases h
  rw[List.drop_eq_getElem_cons ad] at h;injection h with h1 U
  simp only[iW,List.mem_append] at ar;rcases ar with (ar | ar) | ar
  .unfold iw at ar;split at ar
   .rename_i ak;rw[List.mem_singleton] at ar;subst ar;exact⟨i,ad,rfl,fun aE=>absurd (h1 ▸ ak) aE⟩
   .cases ar
  .unfold iZ at ar;obtain⟨k,hk,rfl⟩:=List.mem_map.1 ar
   have:=List.mem_range.1 hk
   refine⟨i,ad,rfl,fun _=>?_⟩;rw[<-h1];simp only;omega
  .exact VL r (i+1) U x ar
theorem fW.ah4{m:Model}{q p:Nat}(h:fW m q p):(m.procs[p]'(h.aN)).over≠0->((insts m)[q]'(h.aD)).elem<=elems m (m.procs[p]'(h.aN)):=by
 obtain⟨fZ,aob,e,h1⟩:=VL m.procs 0 (by simp) _ (List.getElem_mem h.aD);have U:=h.eq;have aW:((fZ:Nat):Int)=p:=by
  have:((insts m)[q]'(h.aD)).proc=(fZ:Int):=e
  rw[<-this,U]
 have:fZ=p:=by omega
 subst this;exact h1
theorem ace{m:Model}{p:dy}(h:elems m p≠0):(elems m p:Int)=size p.over m.scalars:=by
 unfold elems at h ⊢;cases aE:nth m.scalars (p.over - 1) with
 | none=>rw[aE] at h;exact absurd rfl h
 | some x =>
  rw[aE] at h;obtain⟨ak,h1,_⟩:=u3 aE;simp only at h ⊢;unfold size;rw[h1];split at h
  .exact absurd rfl h
  .rename_i dt;rw[if_neg dt];simp only;rw[if_pos (by omega)];omega
theorem ahb{x:Node}{s:Scope}(h:x.op=5)(h1:1<=s.self/\s.self<=s.scalars.length):kind [x] s=(1+s.self,0):=by
 have aE:eV x.op=0:=by rw[h];decide
 have aK:e7 s x []=(1+s.self,0):=by
  unfold e7;rw[h];simp[gE,iu,lN,h,h1]
 unfold kind kt eE;simp only[List.length_singleton,stepG,aE,aK];simp[eE]
theorem ZT{m:Model}{p:Nat}(aN:p<m.procs.length){a:Act}(h:jQ a (inner m.procs[p] (eR m))=0)(U:a.kind=2)(ay:rf a=true):∃v,m.vars[a.to.toNat]? = some v/\v.over=m.procs[p].over:=by
 obtain⟨x,ar,bg⟩:∃x,a.index=[x]/\x.op=5:=by
  unfold rf at ay;split at ay
  .rename_i x ar;exact⟨x,ar,by simpa using ay⟩
  .cases ay
 have eU:=JI h;have oz:=((eU.item U).2.2.node 0 (by rw[ar];simp)).1.self (by simp[ar,bg]);unfold jQ at h;rw[if_pos (by omega)] at h;rw[if_neg (by omega:¬a.kind=3)] at h;cases bx:declared (inner m.procs[p] (eR m)).vars a.to (inner m.procs[p] (eR m)) with
 | none=>rw[bx] at h;cases h
 | some wW =>
  rw[bx] at h;obtain⟨v,k⟩:=wW;obtain⟨_,d2,_⟩:=Kk bx;simp only at h;by_cases ag:(v.over≠0)≠(a.kind=2)
  .rw[if_pos ag] at h;cases h
  rw[if_neg ag] at h;by_cases aJ:a.kind=2/\asked a.index (1+v.over) (inner m.procs[p] (eR m))≠0
  .rw[if_pos aJ] at h;exact absurd h aJ.2
  have bS:asked a.index (1+v.over) (inner m.procs[p] (eR m))=0:=Classical.byContradiction fun aE=>aJ ⟨U,aE⟩;refine⟨v,d2,?_⟩;unfold asked at bS;rw[ar,ahb bg oz] at bS;simp only[ne_eq,not_true_eq_false,if_false] at bS;split at bS
  .cases bS
  .rename_i dt
   have:(inner m.procs[p] (eR m)).self=m.procs[p].over:=rfl
   omega
theorem agV{m:Model}{q p:Nat}(bB:fW m q p){v:Nat}(aT:v<m.vars.length){own:Bool}(ba:own=true->m.vars[v].over=(m.procs[p]'(bB.aN)).over/\(m.procs[p]'(bB.aN)).over≠0):∀x∈pq m q v own,0<=x/\x<eB m:=fun x ar=>by
 have h1:=tz aT;have U:=r4 aT;have ag:=o3 m;unfold pq at ar;cases own with
 | false =>
  rw[if_neg (by simp)] at ar
  have:=qj.1 ar
  omega
 | true =>
  obtain⟨b9,ck⟩:=ba rfl;rw[if_pos rfl] at ar;have ar:=qj.1 ar;have bR:=bB.elem ck;have aW:=bB.ah4 ck;have bJ:=ace (m:=m) (p:=m.procs[p]'(bB.aN)) (by omega);have bZ:=CE bB.aD;have b5:cells m.vars[v] m.scalars=size (m.procs[p]'(bB.aN)).over m.scalars:=by unfold cells;rw[if_neg (by omega),b9]
  omega
theorem ZR{m:Model}{q p:Nat}(bB:fW m q p){a:Act}(fS:jQ a (inner (m.procs[p]'(bB.aN)) (eR m))=0):∀x∈lo m q a,0<=x/\x<eB m:=fun x ar=>by
 have bj:=JI fS;have Aw:=bB.room;have ag:=o3 m;unfold lo at ar;by_cases h1:a.kind=1
 .rw[if_pos h1] at ar;obtain⟨_,v,aT,iI⟩:=bj.set h1;have jD:a.to.toNat<m.vars.length:=(List.getElem?_eq_some_iff.1 aT).1;have fA:m.vars[a.to.toNat]=v:=(List.getElem?_eq_some_iff.1 aT).2
  have:=tz jD
  have e:cells m.vars[a.to.toNat] m.scalars=1:=by rw[fA];unfold cells;rw[if_pos iI]
  have:=qj.1 ar
  omega
 rw[if_neg h1] at ar;by_cases U:a.kind=2
 .rw[if_pos U] at ar;have jD:a.to.toNat<m.vars.length:=(bj.item U).2.1;refine agV bB jD (fun ay=>?_) x ar;obtain⟨v,aT,ba⟩:=ZT bB.aN fS U ay;obtain⟨_,fA⟩:=List.getElem?_eq_some_iff.1 aT;obtain⟨y,b2,bg⟩:∃y,a.index=[y]/\y.op=5:=by
   unfold rf at ay;split at ay
   .rename_i y b2;exact⟨y,b2,by simpa using ay⟩
   .cases ay
  have oz:=((bj.item U).2.2.node 0 (by rw[b2];simp)).1.self (by simp[b2,bg])
  have:(inner (m.procs[p]'(bB.aN)) (eR m)).self=(m.procs[p]'(bB.aN)).over:=rfl
  exact⟨by rw[fA];exact ba,by omega⟩
 rw[if_neg U] at ar;by_cases x1:a.kind=3
 .rw[if_pos x1] at ar;have bg:a.to.toNat<(m.procs[p]'(bB.aN)).vars.length:=(bj.loc x1).2
  have:=qj.1 ar
  omega
 rw[if_neg x1] at ar;by_cases aJ:a.kind=4
 .rw[if_pos aJ] at ar
  have:=pS (m:=m) (bj.chan (.inl aJ)).2
  have:=qj.1 ar
  omega
 rw[if_neg aJ] at ar;by_cases bg:a.kind=5
 .rw[if_pos bg] at ar;have bS:a.loc.toNat<(m.procs[p]'(bB.aN)).vars.length:=(bj.recv bg).2
  have:=pS (m:=m) (bj.chan (.inr bg)).2
  rcases List.mem_append.1 ar with ar | ar
  .have:=qj.1 ar;omega
  .have:=qj.1 ar;omega
 .rw[if_neg bg] at ar;cases ar
theorem write_lt{m:Model}{ref:Int}{q p k:Nat}(ca:fD m ref q p k):∀x∈kM m q (cD m p k) (cD m p k).b6.length,0<=x/\x<eB m:=fun x ar=>by
 have bB:=ca.inst;have U2:=abC ca.ok ca.at_.aN ca.at_.hk;rw[<-zP ca.at_.aN ca.at_.hk] at U2;have Aw:=bB.room;unfold kM at ar;rw[List.take_length] at ar;rcases List.mem_append.1 ar with ar | ar
 .have:=qj.1 ar;omega
 .obtain⟨a,bj,Mx⟩:=List.mem_flatMap.1 ar;obtain⟨j,aR,rfl⟩:=List.mem_iff_getElem.1 bj;exact ZR bB (U2.act j aR bB.aN) x Mx
theorem XB{m:Model}{ref:Int}{q p k:Nat}(ca:fD m ref q p k){s u:List Int}{l:List Int}(aK:Fits m s)(hu:Fits m u)
  (a6:∀x∈nq m q (cD m p k) (cD m p k).b6.length,x∈l)(hw:∀x∈kM m q (cD m p k) (cD m p k).b6.length,x∈l)(bj:iO s u l):BH l (hx m s q (cD m p k)) (hx m u q (cD m p k)):=by
 refine abz rfl rfl ca.inst ?_ ca.cin bj (aK.len.trans hu.len.symm) aK.len a6 hw;by_cases h:(m.procs[p]'(ca.inst.aN)).over=0
 .exact .inr h
 .exact .inl h
theorem YX(c:dI)(l:List dr):0<ways c l:=by
 unfold ways;split
 .split
  .split<;>omega
  .omega
 .omega
theorem J9{m:Model}(h:(check m).c3=0):(data m).c3=0/\(lO m).c3=0/\(oF m).c3=0:=by
 unfold check at h;by_cases h1:(data m).c3≠0
 .rw[if_pos h1] at h;exact absurd h h1
 rw[if_neg h1] at h;by_cases U:(lO m).c3≠0
 .rw[if_pos U] at h;exact absurd h U
 rw[if_neg U] at h;exact⟨by simpa using h1,by simpa using U,h⟩
theorem ai9{m:Model}(h:(check m).c3=0):m.props.length<=8:=by
 obtain⟨_,_,ag⟩:=J9 h;have a6:=Iv ag;refine Classical.byContradiction fun aE=>?_;have dB:=a6 8 (by omega);rw[CK (by omega),if_pos (by omega)] at dB;cases dB
theorem Xc{m:Model}(h:(check m).c3=0){j:Nat}(aR:j<m.props.length):rr (eR m) m.props[j].expr:=by
 obtain⟨_,_,ag⟩:=J9 h;have dB:=Iv ag j aR;rw[CK aR] at dB;refine V6 (Classical.byContradiction fun aE=>?_)
 repeat' split at dB
 all_goals first | omega | (exact absurd dB aE) | skip
 all_goals contradiction
def ve(m:Model):List Int:=m.props.flatMap fun p=>E4 m p.expr
def nr(m:Model):List Bool:=if (check m).c3=0 then (List.range (eB m)).map fun(c:Nat)=>decide ((c:Int)∈ve m) else []
structure nG(n:Nat)(L:List Int)(al:List Bool):Prop where
 len:al.length=n
 at_:∀(c:Nat) (h:c<al.length),al[c]=decide ((c:Int)∈L)
theorem nG.start(n:Nat):nG n [] (List.replicate n false):=⟨by simp,fun c h=>by simp⟩
theorem nG.put{n c:Nat}{L:List Int}{al:List Bool}(h:nG n L al)(aw:c<n):nG n (L++[(c:Int)]) (al.set c true):=by
 refine⟨by rw[List.length_set];exact h.len,fun d bx=>?_⟩;rw[List.length_set] at bx;rw[List.getElem_set];by_cases e:c=d
 .subst e;simp
 .rw[if_neg e,h.at_ d bx]
  have:¬(d:Int)=(c:Int):=by omega
  simp[this]
theorem nG.congr{n:Nat}{L mP:List Int}{al:List Bool}(h:nG n L al)(e:∀x,x∈L↔x∈mP):nG n mP al:=⟨h.len,fun c aw=>by rw[h.at_ c aw];exact decide_eq_decide.2 (e _)⟩
theorem nG.eq{n:Nat}{L:List Int}{al o':List Bool}(h:nG n L al)(bF:nG n L o'):al=o':=by
 refine List.ext_getElem (by rw[h.len,bF.len]) fun c h1 U=>by rw[h.at_ c h1,bF.at_ c U]
theorem nG.akH{m:Model}{al:List Bool}(hk:(check m).c3=0)(h:nG (eB m) (ve m) al):al=nr m:=by
 unfold nr;rw[if_pos hk];exact h.eq ⟨by simp,fun c aw=>by simp⟩
def iA(a b:List Int):Prop := ∃x,x∈a/\x∈b
instance(a b:List Int):Decidable (iA a b):=decidable_of_iff (a.any (fun x=>b.contains x)=true) (by simp[iA,List.any_eq_true])
theorem iA.comm{a b:List Int}:iA a b↔iA b a:=⟨fun⟨x,h1,U⟩=>⟨x,U,h1⟩,fun⟨x,h1,U⟩=>⟨x,U,h1⟩⟩
theorem iA.aid(b:List Int):¬iA [] b:=fun⟨_,h,_⟩=>by cases h
theorem iA.aie(a:List Int):¬iA a []:=fun⟨_,_,h⟩=>by cases h
theorem ajh{a:List Int}(bj:a.Pairwise (· < ·)){i:Nat}(h:i<a.length):∀x∈a.drop i,a[i]<=x:=fun x ar=>by
 rw[List.drop_eq_getElem_cons h] at ar;rcases List.mem_cons.1 ar with e | e
 .omega
 .have aN:=bj.sublist (List.drop_sublist i a);rw[List.drop_eq_getElem_cons h,List.pairwise_cons] at aN
  have:=aN.1 x e
  omega
theorem YI{a b:List Int}(aC:b.Pairwise (· < ·)){i k:Nat}(h1:i<a.length)(U:k<b.length)(h:a[i]<b[k]):iA (a.drop i) (b.drop k)↔iA (a.drop (i+1)) (b.drop k):=by
 constructor
 .rintro⟨x,cX,c0⟩;rw[List.drop_eq_getElem_cons h1] at cX;rcases List.mem_cons.1 cX with e | e
  .have:=ajh aC U x c0;omega
  .exact⟨x,e,c0⟩
 .rintro⟨x,cX,c0⟩;exact⟨x,by rw[List.drop_eq_getElem_cons h1];exact List.mem_cons_of_mem _ cX,c0⟩
theorem FC{a b:List Int}(bj:a.Pairwise (· < ·)){i k:Nat}(h1:i<a.length)(U:k<b.length)(h:b[k]<a[i]):iA (a.drop i) (b.drop k)↔iA (a.drop i) (b.drop (k+1)):=by
 rw[iA.comm,YI bj U h1 h,iA.comm]
theorem alG{a b:List Int}{i k:Nat}(h1:i<a.length)(U:k<b.length)(h:a[i]=b[k]):iA (a.drop i) (b.drop k) :=
 ⟨a[i],by rw[List.drop_eq_getElem_cons h1];exact List.mem_cons_self ..,by rw[List.drop_eq_getElem_cons U,h];exact List.mem_cons_self ..⟩
theorem alH{a b:List Int}{i k:Nat}(h:¬(i<a.length/\k<b.length)):¬iA (a.drop i) (b.drop k):=by
 by_cases h1:i<a.length
 .have e:b.drop k=[]:=List.drop_eq_nil_of_le (by omega);rw[e];exact iA.aie _
 .have e:a.drop i=[]:=List.drop_eq_nil_of_le (by omega);rw[e];exact iA.aid _
def oa(r w gy w':List Int):Prop:=iA w w'\/iA w gy\/iA r w'
instance(r w gy w':List Int):Decidable (oa r w gy w'):=inferInstanceAs (Decidable (_\/_\/_))
theorem alu{m:Model}{x y:Int}{q p k ga fZ k':Nat}(ar:fD m x q p k)(b2:fD m y ga fZ k'){s one two a b c5 gm:List Int}(aK:Fits m s)(yf:Fits m one)(mB:Fits m two)
  (dE:iQ m x a b)(KW:iQ m y c5 gm)(aE:¬oa a b c5 gm)(h1:hx m s q (cD m p k)=some one)(U:hx m s ga (cD m fZ k')=some two) :
  ∃t,hx m one ga (cD m fZ k')=some t/\hx m two q (cD m p k)=some t:=by
 obtain⟨bj,aC⟩:=dE.there q p k ar;obtain⟨TW,qL⟩:=KW.there ga fZ k' b2;have c1:=Cm ar.inst.aD rfl ar.cin aK.len h1;have c2:=Cm b2.inst.aD rfl b2.cin aK.len U;have j4:∀z,z∈b->z∈gm->False:=fun z cX c0=>aE (.inl ⟨z,cX,c0⟩);have jm:∀z,z∈b->z∈c5->False:=fun z cX c0=>aE (.inr (.inl ⟨z,cX,c0⟩));have nU:∀z,z∈a->z∈gm->False:=fun z cX c0=>aE (.inr (.inr ⟨z,cX,c0⟩));have pos:∀{r q p k} (_:fD m r q p k) {a b:List Int},pM (nq m q (cD m p k) (cD m p k).b6.length) a->pM (kM m q (cD m p k) (cD m p k).b6.length) b->∀z∈a++b,0<=z:=fun {r q p k} ca {a b} ag6 ag7 z bN=>by
  have lA:=mF ca.ok;rcases List.mem_append.1 bN with bN | bN
  .exact((NK lA ca.inst ca.cin _ (Nat.le_refl _)).bf z ((ag6.mem z).1 bN)).1
  .exact(write_lt ca z ((ag7.mem z).1 bN)).1
 have g1:iO s one (c5++gm):=fun z bN=>Classical.byContradiction fun cI=>by
  have ak:=pos b2 TW qL z bN
  have:=c1.2 z.toNat (fun e=>cI e.symm)
  rw[show((z.toNat:Nat):Int)=z from by omega] at this;have uK:=(aC.mem z).2 this;rcases List.mem_append.1 bN with bN | bN
  .exact jm z uK bN
  .exact j4 z uK bN
 have g2:iO s two (a++b):=fun z bN=>Classical.byContradiction fun cI=>by
  have ak:=pos ar bj aC z bN
  have:=c2.2 z.toNat (fun e=>cI e.symm)
  rw[show((z.toNat:Nat):Int)=z from by omega] at this;have uK:=(qL.mem z).2 this;rcases List.mem_append.1 bN with bN | bN
  .exact nU z bN uK
  .exact j4 z bN uK
 have vp:=XB b2 aK yf (l:=c5++gm) (fun z bN=>List.mem_append_left _ ((TW.mem z).2 bN)) (fun z bN=>List.mem_append_right _ ((qL.mem z).2 bN)) g1;have vq:=XB ar aK mB (l:=a++b) (fun z bN=>List.mem_append_left _ ((bj.mem z).2 bN)) (fun z bN=>List.mem_append_right _ ((aC.mem z).2 bN)) g2;rw[U] at vp;rw[h1] at vq;cases bR:hx m one ga (cD m fZ k') with
 | none=>rw[bR] at vp;exact vp.elim
 | some t1 =>
  cases aW:hx m two q (cD m p k) with
  | none=>rw[aW] at vq;exact vq.elim
  | some t2 =>
   rw[bR] at vp;rw[aW] at vq;have d1:=Cm b2.inst.aD rfl b2.cin yf.len bR;have d2:=Cm ar.inst.aD rfl ar.cin mB.len aW;refine⟨t1,rfl,?_⟩;congr 1;refine List.ext_getElem? fun c=>Eq.symm ?_;by_cases Ie:(c:Int)∈b
   .have m1:t1[c]? = one[c]? := Classical.byContradiction fun cI=>j4 _ Ie ((qL.mem _).2 (d1.2 c cI));have m2:=vq.1 (c:Int) (List.mem_append_right _ Ie);rw[Int.toNat_natCast] at m2;rw[m1,m2]
   .have m2:t2[c]? = two[c]? := Classical.byContradiction fun cI=>Ie ((aC.mem _).2 (d2.2 c cI));by_cases MN:(c:Int)∈gm
    .have m1:=vp.1 (c:Int) (List.mem_append_right _ MN);rw[Int.toNat_natCast] at m1;rw[m2,m1]
    .have m1:t1[c]? = one[c]? := Classical.byContradiction fun cI=>MN ((qL.mem _).2 (d1.2 c cI));have m3:one[c]? = s[c]? := Classical.byContradiction fun cI=>Ie ((aC.mem _).2 (c1.2 c cI));have m4:two[c]? = s[c]? := Classical.byContradiction fun cI=>MN ((qL.mem _).2 (c2.2 c cI));rw[m1,m2,m3,m4]
end o
end
section
namespace Go.Proofs.R
open Go Go.RowKit bt
theorem FC(ed nX:Value)(a b:List Int)(w:World)(bj:eO w ed a)(aC:eO w nX b)(sg:a.Pairwise (· < ·))(q9:b.Pairwise (· < ·)) :
  bu Tryz.prog F.oi #[ed,nX] w fun v w'=>v = .bool (decide (o.iA a b))/\Ext w w':=by
 obtain⟨bm,gf,rfl,oC⟩:=bj.form;obtain⟨wT,qA,rfl,hb⟩:=aC.form;refine bL E.oi ?_;refine bG ?_;refine af ?_;refine K.w9 [0,1] (fun x:Nat×Nat=>[(5,.int .i64 x.1),(6,.int .i64 x.2)]) (0,0) (fun x W=>Ext w W/\x.1<=a.length/\x.2<=b.length/\(o.iA a b↔o.iA (a.drop x.1) (b.drop x.2))) (fun x=>(a.length - x.1)+(b.length - x.2)) bz ⟨Ext.refl _,Nat.zero_le _,Nat.zero_le _,Iff.rfl⟩ ?_;rintro⟨i,k⟩ S av ⟨aB,ad,hk,hm⟩;dsimp only at ad hk hm ⊢;have no:¬(i<a.length/\k<b.length)->decide (o.iA a b)=false:=fun h=>decide_eq_false (by rw[hm];exact o.alH h);refine af ?_;apply K.cond<;>intro g1;rotate_left
 .refine af ?_;exact⟨by rw[no (by omega)],aB⟩
 refine af ?_;apply K.cond<;>intro g2;rotate_left
 .refine af ?_;exact⟨by rw[no (by omega)],aB⟩
 have kD:i<a.length:=by omega
 have du:k<b.length:=by omega
 obtain⟨ky,rfl⟩:=bj.addr (by omega);obtain⟨l0,rfl⟩:=aC.addr (by omega);have TX:=bj.ext Flat.ext aB;have cR:=aC.ext Flat.ext aB;refine af ?_;intro aU aA;have aW:=aB.trans aA;refine af ?_;apply K.cond<;>intro g3
 .have yes:decide (o.iA a b)=true:=decide_eq_true (by rw[hm];exact o.alG kD du g3);refine af ?_;exact⟨by rw[yes],aW⟩
 have ant:=TX.ext Flat.ext aA;have dR:=cR.ext Flat.ext aA;clear TX cR;refine af ?_;intro bb ax;have bJ:=aW.trans ax;refine af ?_;apply K.cond<;>intro g4
 .refine af ?_;exact⟨(i+1,k),⟨bk,bk,trivial⟩,⟨bJ,by simp only;omega,hk,hm.trans (o.YI q9 kD du g4)⟩,by simp only;omega⟩
 .refine af ?_;exact⟨(i,k+1),⟨bk,bk,trivial⟩,⟨bJ,ad,by simp only;omega,hm.trans (o.FC sg kD du (by omega))⟩,by simp only;omega⟩
theorem W0(v1 v2 v3 v4:Value)(a b c5 gm:List Int)(w:World)(h1:eO w v1 a)(U:eO w v2 b)(ag:eO w v3 c5)(aJ:eO w v4 gm)(sg:a.Pairwise (· < ·))(q9:b.Pairwise (· < ·))(aiV:c5.Pairwise (· < ·))(W8:gm.Pairwise (· < ·)) :
  bu Tryz.prog F.zD #[.agg #[v1,v2],.agg #[v3,v4]] w fun v w'=>v = .bool (decide (o.oa a b c5 gm))/\Ext w w':=by
 obtain⟨b9,c1,rfl,_⟩:=h1.form;obtain⟨ck,c2,rfl,_⟩:=U.form;obtain⟨cn,bQ,rfl,_⟩:=ag.form;obtain⟨cB,bX,rfl,_⟩:=aJ.form;refine bL E.zD ?_;refine bG ?_;refine af ?_;intro av cp dR aB aQ;refine af ?_;intro aU b4 fp aA bA;replace aQ:=aA.obj aQ;have aW:=aB.trans aA;refine af ?_;refine K.call (FC _ _ b gm aU (U.ext Flat.ext aW) (aJ.ext Flat.ext aW) q9 W8) ?_;rintro _ bb ⟨rfl,ax⟩;have bJ:=aW.trans ax;replace aQ:=ax.obj aQ;replace bA:=ax.obj bA;refine af ?_;apply K.cond<;>intro g1
 .have yes:decide (o.oa a b c5 gm)=true:=decide_eq_true (.inl g1);refine af ?_;exact⟨by rw[yes],bJ⟩
 refine af ?_;refine K.call (FC _ _ b c5 bb (U.ext Flat.ext bJ) (ag.ext Flat.ext bJ) q9 aiV) ?_;rintro _ bq ⟨rfl,aM⟩;have bZ:=bJ.trans aM;replace aQ:=aM.obj aQ;replace bA:=aM.obj bA;refine af ?_;apply K.cond<;>intro g2
 .have yes:decide (o.oa a b c5 gm)=true:=decide_eq_true (.inr (.inl g2));refine af ?_;exact⟨by rw[yes],bZ⟩
 refine af ?_;refine K.call (FC _ _ a gm bq (h1.ext Flat.ext bZ) (aJ.ext Flat.ext bZ) sg W8) ?_;rintro _ bT ⟨rfl,aZ⟩;have b5:=bZ.trans aZ;have last:decide (o.oa a b c5 gm)=decide (o.iA a gm):=decide_eq_decide.2 ⟨fun h=>h.elim (fun h=>absurd h g1) fun h=>h.elim (fun h=>absurd h g2) id,fun h=>.inr (.inr h)⟩;refine af ?_;exact⟨by rw[last],b5⟩
end Go.Proofs.R
end
section
namespace o
open Go
structure mh(m:Model)(n:Nat)(L:List (List Int×List Int)):Prop where
 len:L.length=n
 is:∀i (h:i<L.length),iQ m i L[i].1 L[i].2
theorem mh.nil(m:Model):mh m 0 []:=⟨rfl,fun i h=>absurd h (Nat.not_lt_zero _)⟩
theorem mh.snoc{m:Model}{n:Nat}{L:List (List Int×List Int)}{a b:List Int}(h:mh m n L)(a6:iQ m n a b):mh m (n+1) (L++[(a,b)]):=by
 refine⟨by rw[List.length_append,h.len];rfl,fun i ad=>?_⟩;by_cases e:i<L.length
 .rw[List.getElem_append_left e];exact h.is i e
 .have aW:i=L.length:=by simp at ad;omega
  subst aW;rw[List.getElem_append_right (Nat.le_refl _)];simp only[Nat.sub_self,List.getElem_cons_zero];rw[h.len];exact a6
theorem mh.eq{m:Model}{n:Nat}{L mP:List (List Int×List Int)}(h:mh m n L)(bF:mh m n mP):L=mP:=by
 refine List.ext_getElem (h.len.trans bF.len.symm) fun i h1 U=>?_;obtain⟨bR,aW⟩:=(h.is i h1).eq (bF.is i U);exact Prod.ext bR aW
end o
namespace Go.Proofs.R
open Go Go.RowKit bt
def FO(w:World)(cs:List Value)(x:List Int×List Int):Prop := ∃v1 v2,cs=[v1,v2]/\eO w v1 x.1/\eO w v2 x.2
def JA(w:World)(a:Addr)(x:List Int×List Int):Prop := ∃v1 v2,eS w a [v1,v2]/\eO w v1 x.1/\eO w v2 x.2
theorem WX{w:World}{v:Value}{l:List Int}(h:eO w v l):v.oneCell'=true:=by
 obtain⟨al,c,rfl,_⟩:=h.form;rfl
instance:Rel JA FO 2 where
 out:=fun⟨v1,v2,h,h1,U⟩=>⟨_,h,v1,v2,rfl,h1,U⟩
 oB:=fun h ⟨v1,v2,e,h1,U⟩=>⟨v1,v2,e ▸ h,h1,U⟩
 len:=fun⟨v1,v2,e,_⟩=>by rw[e];rfl
 one:=fun⟨v1,v2,e,h1,U⟩ u hu=>by
  rw[e] at hu;simp only[List.mem_cons,List.not_mem_nil,or_false] at hu;rcases hu with rfl | rfl
  .exact WX h1
  .exact WX U
 ext:=fun he ⟨v1,v2,e,h1,U⟩=>⟨v1,v2,e,h1.ext Flat.ext he,U.ext Flat.ext he⟩
theorem WQ{w av:World}{v:Value}{l:List Int}(h:bs ey T.a 1 w.heap.size av v l):eF w (fun W=>eO W v l) av:=fun W m =>
 bs.jI (enc:=ey) (fun _=>rfl) (bs.mod h m fun k hk a=>by have:=(bs.lt h k hk).1;omega)
theorem YO(cs:List Value)(m:o.Model)(w:World)(h:o.dY w cs m)(a1:m.cQ)(ba:ht w)(dg:o.vz m) :
  bu Tryz.prog F.zC #[.agg cs.toArray] w fun v w'=>(∃L base,o.mh m (o.refs m).length L/\w.heap.size<=base/\base<=w'.heap.size/\ft FO T.oY 2 base w' v L)/\Ext w w':=by
 have eh:=h;obtain⟨cy,bP,b9,c1,ck,c2,cn,bQ,cB,bX,rfl,_⟩:=h.form;have j1:=o.u9 dg;refine bL E.zC ?_;refine bG ?_;refine af ?_;intro av bC cR aB aq;refine af ?_;refine K.call (Fe _ m av (eh.ext aB) dg) ?_;rintro j7 aU ⟨jE,aA⟩;obtain⟨h5,pU,rfl,_⟩:=jE.form;replace aq:=aA.obj aq;have aW:=aB.trans aA;have z2:=aW.size;clear jE;refine af ?_;refine K.dk 10 (o.refs m).length [1,9] (fun u:Value=>[(3,u)]) (.slice none 0 0) (fun k u W => ∃L,o.mh m k L/\ft FO T.oY 2 aU.heap.size W u L/\Ext aU W) bz bz ⟨[],o.mh.nil m,ft.nil _ _ _ _ _,Ext.refl _⟩ ?_;rintro k u S bb hk ⟨L,hK,dE,ax⟩;have bJ:=aW.trans ax;have jj:=ax.obj aq;refine af ?_;apply K.cond<;>intro g1;rotate_left
 .have km:k=(o.refs m).length:=by omega
  rw[km] at hK;refine af ?_;exact⟨⟨L,_,hK,z2,ax.size,dE⟩,bJ⟩
 have du:k<(o.refs m).length:=by omega
 have C8:=hK.len;obtain⟨u4,mZ,rfl,_⟩:=dE.form;refine af ?_;refine K.call (Qv _ m k bb (eh.ext bJ) a1 (ba.ext bJ)) ?_;rintro _ bq ⟨⟨ed,nX,a,b,rfl,jk,L2,adZ⟩,aM⟩;have aE:=((WQ jk).and (WQ L2)).imp (q:=fun W=>FO W [ed,nX] (a,b)) fun W h=>⟨ed,nX,rfl,h.1,h.2⟩;obtain⟨bm,gf,rfl,_⟩:=jk.form;obtain⟨wT,qA,rfl,_⟩:=L2.form;have z3:=ax.size;have z4:=aM.size;clear jk L2;refine af ?_;intro bT amS kX aZ cC;have z5:=aZ.size;have C5:=(dE.ext aM).ext aZ;refine af ?_;refine K.zy C5 (hj cC) ((eF.ext aE aZ z4).own dE z3) rfl (by simp[Value.oneCell']) (by omega) (by unfold maxLen;omega) (by omega) fun cf bV G8 jZ=>?_;have a8:=C5.mq ((ax.trans aM).trans aZ) jZ (Nat.le_refl _);refine af ?_;exact⟨du,bk,_,⟨rfl,trivial⟩,_,hK.snoc adZ,G8,a8⟩
end Go.Proofs.R
end
section
namespace o
open Go
def Jz(s:Scope)(x:Node):Prop:=x.op=3->∃v,s.vars[x.n.toNat]? = some v/\v.over≠0
theorem ahA{s:Scope}{x:Node}{top:Int}(h:(iu x s top).2=0):Jz s x:=by
 intro bJ;unfold iu at h;rw[if_neg (by omega),if_pos (by omega)] at h;simp only at h;by_cases aD:(fQ (if x.op=4 then s.locals else s.vars) x.n s).2.2=false
 .rw[if_pos aD] at h;cases h
 rw[if_neg aD] at h;obtain⟨v,cX,c0,gD,iK,uO,AE⟩:=Wg (by simpa using aD);obtain⟨b9,ck,cn⟩:=V8 AE;rw[iK] at h;simp only at h;by_cases ag:(x.op=3/\((gU v.over s).1=0\/top≠(gU v.over s).1))\/(x.op≠3/\(gU v.over s).1≠0)
 .rw[if_pos ag] at h;cases h
 .refine⟨v,?_,fun ak=>ag (.inl ⟨bJ,.inl ?_⟩)⟩
  .rw[if_neg (by omega)] at c0;exact c0
  .rw[cn,if_pos ak]
theorem aha{e:List Node}{s:Scope}(h:(kind e s).2=0):∀k (hk:k<e.length),Jz s e[k]:=by
 unfold kind kt at h;by_cases h1:e.length > 24
 .rw[if_pos h1] at h;cases h
 rw[if_neg h1] at h;by_cases U:e.length=0
 .exact fun k hk=>by omega
 rw[if_neg U] at h;by_cases ag:(eE (e7 s) e []).1≠0
 .rw[if_pos ag] at h;exact absurd h ag
 have ag:(eE (e7 s) e []).1=0:=by simpa using ag
 intro k hk;have qY:∀j,(eE (e7 s) (e.take j) []).1=0:=fun j=>Classical.byContradiction fun aE=>by
  have:=NX (f:=e7 s) (e:=e) (k:=j) rfl aE
  rw[this] at ag;exact aE ag
 have ha:eE (e7 s) (e.take k) []=(0,(eE (e7 s) (e.take k) []).2):=Prod.ext (qY k) rfl;have aJ:=vb hk ha;have bg:=qY (k+1);rw[aJ] at bg;unfold stepG at bg;by_cases dH:eV e[k].op<0
 .rw[if_pos dH] at bg;cases bg
 rw[if_neg dH] at bg;by_cases dN:((eE (e7 s) (e.take k) []).2.length:Int)<eV e[k].op
 .rw[if_pos dN] at bg;cases bg
 rw[if_neg dN] at bg;by_cases eb:(e7 s e[k] (eE (e7 s) (e.take k) []).2).2≠0
 .rw[if_pos eb] at bg;exact absurd bg eb
 have eb:(e7 s e[k] (eE (e7 s) (e.take k) []).2).2=0:=by simpa using eb
 by_cases ba:wH e[k].op=false
 .unfold e7 at eb;rw[Nf ba] at eb;exact ahA eb
 .intro bJ;simp only[wH,decide_eq_false_iff_not] at ba;omega
theorem aja{m:Model}(h:(check m).c3=0){j:Nat}(aR:j<m.props.length):(kind m.props[j].expr (eR m)).2=0:=by
 obtain⟨_,_,ag⟩:=J9 h;have dB:=Iv ag j aR;rw[CK aR] at dB;refine Classical.byContradiction fun aE=>?_
 repeat' split at dB
 all_goals first | omega | (exact absurd dB aE) | skip
 all_goals contradiction
theorem agI{m:Model}{q:Nat}(h:q<(insts m).length):dS m q+1<=eB m:=by
 obtain⟨p,aN⟩:=H3 h
 have:=aN.room
 omega
theorem YQ{m:Model}{v:Nat}(h:v<m.vars.length):gW m v+oD m v<=eB m:=by
 have:=tz h
 rw[r4 h]
 have:=o3 m
 omega
theorem aaQ{m:Model}{c:Nat}(h:c<m.aL.length):df m c+(1+jw m c)<=eB m:=by
 have:=xJ h
 rw[o2 h]
 have:=o3 m
 omega
structure zp(m:Model)(x:Node):Prop where
 node:zj (eR m) x
 over:Jz (eR m) x
theorem zp.var{m:Model}(br:eN m){x:Node}(h:zp m x)(e:x.op=2):∃aE:x.n.toNat<m.vars.length,0<=x.n/\oD m x.n.toNat=1:=by
 obtain⟨ak,v,aT,iI⟩:=h.node.var e;have e8:m.vars[x.n.toNat]? = some v:=aT;obtain⟨h1,U⟩:=List.getElem?_eq_some_iff.1 e8;refine⟨h1,ak,?_⟩;rw[r4 h1,U];unfold cells;rw[if_pos iI];rfl
theorem zp.item{m:Model}(br:eN m){x:Node}(h:zp m x)(e:x.op=3):∃aE:x.n.toNat<m.vars.length,0<=x.n/\∃ba:((m.vars[x.n.toNat]).over - 1).toNat<m.scalars.length,1<=(m.vars[x.n.toNat]).over/\(m.scalars[((m.vars[x.n.toNat]).over - 1).toNat]).size=(oD m x.n.toNat:Nat)/\oD m x.n.toNat<=4:=by
 obtain⟨ak,_⟩:=h.node.item e;obtain⟨v,aT,iI⟩:=h.over e;have e8:m.vars[x.n.toNat]? = some v:=aT;obtain⟨h1,U⟩:=List.getElem?_eq_some_iff.1 e8;have dq:=br.var _ (List.getElem_mem h1);have ay:size (m.vars[x.n.toNat]).over m.scalars≠0:=by
  rcases dq.e3 with q | q
  .rw[U] at q;exact absurd q iI
  .exact q
 have aw:cells (m.vars[x.n.toNat]) m.scalars=size (m.vars[x.n.toNat]).over m.scalars:=by
  unfold cells;rw[if_neg (by rw[U];exact iI)]
 refine⟨h1,ak,?_⟩;rw[r4 h1,aw];unfold size at ay ⊢;cases hk:m.scalars[((m.vars[x.n.toNat]).over - 1).toNat]? with
 | none=>rw[hk] at ay;exact absurd rfl ay
 | some y =>
  rw[hk] at ay;simp only at ay ⊢;obtain⟨g1,g2⟩:=List.getElem?_eq_some_iff.1 hk;by_cases q:1<=(m.vars[x.n.toNat]).over/\1<=y.size/\y.size<=4
  .rw[if_pos q];refine⟨g1,q.1,?_,?_⟩
   .rw[g2];omega
   .omega
  .rw[if_neg q] at ay;exact absurd rfl ay
theorem ajb{m:Model}(h:(check m).c3=0){j:Nat}(aR:j<m.props.length){x:Node}(ar:x∈m.props[j].expr):zp m x:=by
 obtain⟨k,hk,rfl⟩:=List.mem_iff_getElem.1 ar;exact⟨((Xc h aR).node k hk).1,aha (aja h aR) k hk⟩
def acg(x:Nat×Nat):List Value:=[.slice (some ⟨x.1,0,none⟩) x.2 x.2]
def ae2(m:Model)(b3:List Nat):List (Nat×Nat):=b3.zip (m.procs.map fun p=>p.cw.toNat)
end o
namespace Go.Proofs.R
open Go Go.RowKit bt
structure amt(m:o.Model)(base:Nat)(b3:List Nat)(abD:Nat->List Int)(v:Value)(W:World):Prop where
 row:bs o.acg T.c 1 base W v (o.ae2 m b3)
 low:∀b∈b3,base<=b
 nodup:b3.Nodup
 aX:∀p (h:p<b3.length),W.heap[b3[p]]? = some (.cells (nT (abD p)).toArray T.a)
end Go.Proofs.R
end
section
namespace bt
open Go Go.RowKit
def Zi(_:World)(cs:List Value)(x:Nat):Prop:=cs=sI x
instance aoD:Rel (Flat sI) Zi 1 where
 out h:=⟨_,h,rfl⟩
 oB h k:=by cases k;exact h
 len h:=by cases h;rfl
 one h:=by cases h;exact acf _
 ext _ h:=h
def ju(al:List Bool):List Value:=al.map Value.bool
theorem amo(n:Nat):n3 (Value.bool false).cells (n*1)=(ju (List.replicate n false)).toArray:=by
 apply Array.ext_getElem?;intro i;by_cases h:i<n
 .simp[n3,ju,Value.cells,h,Nat.mod_one]
 .simp[n3,ju,h]
theorem K.WH{c9:Value->World->Prop}{w:World}{e:TypeId}{n:Int}{t}(N:Nat)(aE:n=N)(aC:N<=1000000)(hk:∀av b,w.heap.size<=b->Ext w av->av.heap[b]? = some (.cells (ju (List.replicate N false)).toArray e)->c9 (.slice (some ⟨b,0,none⟩) N N) av) :
  xi e 1 1 (.bool false) (.int .i64 n) (.int .i64 n) w c9 t:=by
 subst aE;refine K.qc ⟨by omega,by omega,by omega,by omega⟩ ?_;have h:=hk (w.alloc (.cells (ju (List.replicate N false)).toArray e)) _ (Nat.le_refl _) ((Ext.refl w).alloc _) (heap_alloc_new w _);rw[Int.toNat_natCast,amo];exact h
theorem K.alj{b c:Nat}{al:List Bool}{w:World}{e:TypeId}{gu:World->Prop}{t}(h:w.heap[b]? = some (.cells (ju al).toArray e))(aw:c<al.length)
  (hk:∀av,dA b w av->av.heap[b]? = some (.cells (ju (al.set c true)).toArray e)->gu av):qv (.pointer (some (Addr.add ⟨b,0,none⟩ (c*1)))) (.bool true) w gu t:=by
 have ay:c<(ju al).toArray.size:=by simp[ju];exact aw
 rw[Nat.mul_one];refine K.st (e2 h (Array.getElem?_eq_getElem ay)) (by rw[add_eq];simp[World.frozen?,h]) rfl (hk _ ?_ ?_)
 .have:=dA.setCell w (Addr.add ⟨b,0,none⟩ c) (.bool true)
  rwa[Gp] at this
 .rw[Fl h ay];simp[ju,List.map_set]
end bt
namespace Go.Proofs.R
open Go Go.RowKit bt
structure lX(w:World)(bW b N:Nat)(L:List Int):Prop where
 box:w.heap[bW]? = some (.cells #[.slice (some ⟨b,0,none⟩) N N] T.z)
 row:∃al,w.heap[b]? = some (.cells (ju al).toArray T.p)/\o.nG N L al
theorem lX.ne{w:World}{bW b N:Nat}{L:List Int}(h:lX w bW b N L):¬bW=b:=fun e=>by
 obtain⟨al,h1,_⟩:=h.row;subst e;have U:=h.box;rw[h1] at U;injection U with U
 injection U with _ U
 revert U;decide
theorem lX.ext{w w':World}{bW b N:Nat}{L:List Int}(h:lX w bW b N L)(he:Ext w w'):lX w' bW b N L:=by
 obtain⟨al,h1,U⟩:=h.row;exact⟨he.obj h.box,al,he.obj h1,U⟩
theorem lX.other{w:World}{bW b N k:Nat}{L:List Int}{cs:Array Value}{t:TypeId}(h:lX w bW b N L)(hk:w.heap[k]? = some (.cells cs t))(aO:t≠T.p):¬k=b:=fun e=>by
 obtain⟨al,h1,_⟩:=h.row;subst e;rw[h1] at hk;injection hk with hk
 injection hk with _ hk
 exact aO hk.symm
theorem lX.congr{w:World}{bW b N:Nat}{L mP:List Int}(h:lX w bW b N L)(e:∀x,x∈L↔x∈mP):lX w bW b N mP:=by
 obtain⟨al,h1,U⟩:=h.row;exact⟨h.box,al,h1,U.congr e⟩
theorem IG(c bW b N:Nat)(L:List Int)(x:Int)(w:World)(h:lX w bW b N L)(ar:x=c)(aw:c<N)(gp:N<=1000000) :
  bu Tryz.prog F.nH #[.int .i64 x,.pointer (some ⟨bW,0,none⟩)] w fun _ w'=>lX w' bW b N (L++o.gk c 1)/\Mod (fun k=>k=b) w w':=by
 subst ar;have cI:=h.ne;obtain⟨al,h1,U⟩:=h.row;have nc:=h.box;have aS:=U.len;refine bL E.nH ?_;refine bG ?_;refine af ?_;refine K.alj h1 (by omega) fun av nh aq=>?_;refine af ?_;refine⟨⟨nh.obj nc cI,_,aq,?_⟩,nh.mod rfl⟩;rw[o.Bm];exact U.put aw
theorem ab7(x:o.Node)(cs ys:List Value)(cx:Value)(bW b:Nat)(L:List Int)(m:o.Model)(w0 w:World)(h:o.dY w0 cs m)(dg:o.jr w0 ys (o.layout m))(bB:lV w0 cx (o.insts m))(he:Ext w0 w)(sQ:w0.heap.size<=b)
  (cq:lX w bW b (o.eB m) L)(br:o.eN m)(ar:o.zp m x)(dq:x.ok) :
  bu Tryz.prog F.Cs #[.agg cs.toArray,.agg ys.toArray,cx,.agg x.enc.toArray,.func (.func F.nH) #[] #[.pointer (some ⟨bW,0,none⟩)]] w fun _ w'=>lX w' bW b (o.eB m) (L++o.gj m 0 false x)/\Mod (fun k=>k=b) w w':=by
 have MA:=dq.op;have Mz:=dq.n;unfold o.eG at MA Mz;obtain⟨gv,d0,eD,d1,fC,d2,fU,d3,gF,d4,rfl,ak,h1,U,ag,aJ,eM,ej,ev,ea,ew⟩:=h.form;obtain⟨cy,bP,b9,c1,ck,c2,cn,bQ,cB,bX,rfl,gz,fi,fR,ix,k7⟩:=dg.form;obtain⟨cS,ci,rfl,_⟩:=bB.form;obtain⟨f5,f6,f8⟩:=o.Ii m;have p2:o.eB m<=64:=o.nm br;refine bL E.Cs ?_;refine bG ?_;refine af ?_;intro av dO kX aB cC;refine af ?_;intro aU fl gq aA ct;replace cC:=aA.obj cC;refine af ?_;intro bb kU qM ax cL;replace cC:=ax.obj cC;replace ct:=ax.obj ct;have fj:=(aB.trans aA).trans ax;have xf:=he.trans fj;have we:=cq.ext fj;have n5:=we.other cC (by decide);have n6:=we.other ct (by decide);have n8:=we.other cL (by decide);unfold o.Node.enc at cL;refine af ?_;apply K.cond<;>intro g2
 .obtain⟨aE,gC,aS⟩:=ar.var br g2;obtain⟨a0,rfl⟩:=gz.addr (by omega);have apo:=gz.ext Flat.ext xf;obtain⟨fB,lH⟩:=o.Bz aE;have a6:=o.YQ aE;have iS:x.n=(x.n.toNat:Nat):=by omega
  rw[iS] at cL;have aW:o.gj m 0 false x=o.gk (o.gW m x.n.toNat) 1:=by unfold o.gj;rw[if_pos g2]
  rw[aW];refine af ?_;refine K.mX (first:=[]) (cap:=[.pointer (some ⟨bW,0,none⟩)]) (by kernel_rfl) (IG (o.gW m x.n.toNat) bW b _ L _ bb we (by rw[lH]) (by omega) (by omega)) ?_;rintro _ bq ⟨k2,kn⟩;refine af ?_;exact⟨k2,fj.mod.trans kn⟩
 refine af ?_;apply K.cond<;>intro g3
 .obtain⟨aE,gC,afK,qU,dm,an7⟩:=ar.item br g3;obtain⟨a0,rfl⟩:=gz.addr (by omega);obtain⟨amK,rfl⟩:=ak.addr (by omega);obtain⟨amL,rfl⟩:=h1.addr (by omega);obtain⟨fB,lH⟩:=o.Bz aE;have a6:=o.YQ aE;have iS:x.n=(x.n.toNat:Nat):=by omega
  have bJ:o.gj m 0 false x=o.gk (o.gW m x.n.toNat) (o.oD m x.n.toNat):=by
   unfold o.gj o.pq;rw[if_neg g2,if_pos g3,if_neg (by simp)]
  rw[iS] at cL;rw[bJ];refine af ?_;refine K.dD _ (by omega) afK ?_;refine af ?_;intro bq aM;have en:=xf.trans aM;have C7:=we.ext aM;have Lk:=aM.obj ct;have Ll:=aM.obj cL;clear ct cL cC;refine af ?_;refine K.dk 40 (o.oD m x.n.toNat) [4,6,8,39] (fun _:Unit=>[]) () (fun k _ W=>lX W bW b (o.eB m) (L++o.gk (o.gW m x.n.toNat) k)/\Mod (fun k=>k=b) bq W) bz bz ⟨by rw[o.XT,List.append_nil];exact C7,Mod.refl _ _⟩ ?_;rintro k _ S bT hk ⟨ow,lD⟩;have ct:=lD.obj n6 Lk;have cL:=lD.obj n8 Ll;have NB:=gz.ext Flat.ext (lD.ext en fun i ad e=>by omega);refine af ?_;apply K.cond<;>intro g4
  .refine af ?_;refine K.mX (first:=[]) (cap:=[.pointer (some ⟨bW,0,none⟩)]) (by kernel_rfl) (IG (o.gW m x.n.toNat+k) bW b _ _ _ bT ow (by rw[lH];omega) (by omega) (by omega)) ?_;rintro _ bV ⟨Ax,l6⟩;refine af ?_;refine⟨by omega,bk,(),trivial,?_,lD.trans l6⟩;rw[o.Bm] at Ax;rw[o.Xg];exact Ax
  .have km:k=o.oD m x.n.toNat:=by omega
   rw[km] at ow;refine af ?_;exact⟨ow,(fj.mod.trans aM.mod).trans lD⟩
 refine af ?_;apply K.cond<;>intro g6
 .obtain⟨gC,e8⟩:=ar.node.len g6;have fA:x.n.toNat<m.aL.length:=e8;obtain⟨dJ,rfl⟩:=fi.addr (by omega);have aps:=fi.ext Flat.ext xf;obtain⟨l4,fg⟩:=o.vL fA;have a6:=o.aaQ fA;have iS:x.n=(x.n.toNat:Nat):=by omega
  rw[iS] at cL;have cM:o.gj m 0 false x=o.gk (o.df m x.n.toNat) 1:=by
   unfold o.gj;rw[if_neg g2,if_neg g3,if_neg (by omega),if_pos g6]
  rw[cM];refine af ?_;refine K.mX (first:=[]) (cap:=[.pointer (some ⟨bW,0,none⟩)]) (by kernel_rfl) (IG (o.df m x.n.toNat) bW b _ L _ bb we (by rw[fg]) (by omega) (by omega)) ?_;rintro _ bq ⟨k2,kn⟩;refine af ?_;exact⟨k2,fj.mod.trans kn⟩
 refine af ?_;apply K.cond<;>intro g7;rotate_left
 .have eg:o.gj m 0 false x=[]:=by
   unfold o.gj;by_cases g4:x.op=4
   .have:=(ar.node.loc g4).2
    have e:(o.eR m).locals=[]:=rfl;rw[e] at this;cases this
   rw[if_neg g2,if_neg g3,if_neg g4,if_neg g6,if_neg g7]
  rw[eg,List.append_nil];refine af ?_;exact⟨we,fj.mod⟩
 have dz:o.gj m 0 false x=o.oj m (x.n.tdiv 16) (o.insts m).length:=by unfold o.gj;rw[if_neg g2,if_neg g3,if_neg (by omega),if_neg g6,if_pos g7]
 rw[dz];obtain⟨gC,L6⟩:=ar.node.at_ g7;have afN:(x.n.tdiv 16).toNat<m.procs.length:=L6;have afZ:=Int.tdiv_nonneg gC (show(0:Int)<=16 by omega);have afR:=br.procs;have afX : -9223372036854775808<=x.n.tdiv 16/\x.n.tdiv 16<=9223372036854775807:=by omega
 have hJ:=o.H4 br;have qJ:∀{W},Mod (fun k=>k=b) bb W->Ext w0 W:=fun hm=>hm.ext xf fun k hk e=>by omega
 have Lk:=ct;have Ll:=cL;clear ct cL cC;refine af ?_;refine K.dk 68 (o.insts m).length [2,4,6,8,66,67] (fun _:Unit=>[]) () (fun k _ W=>Mod (fun i=>i=b) bb W/\lX W bW b (o.eB m) (L++o.oj m (x.n.tdiv 16) k)) bz bz ⟨Mod.refl _ _,by simpa[o.oj] using we⟩ ?_;rintro k _ S bq hk ⟨kn,C7⟩;have ct:=kn.obj n6 Lk;have cL:=kn.obj n8 Ll;have TF:=bB.ext Flat.ext (qJ kn);refine af ?_;apply K.cond<;>intro g1
 .have du:k<(o.insts m).length:=by omega
  obtain⟨lp,rfl⟩:=bB.addr (by omega);obtain⟨LO,rT⟩:=o.yt du;have LQ:=o.agI du;obtain⟨a2,rfl⟩:=fR.addr (by omega);have wX:=fR.ext Flat.ext (qJ kn);refine af ?_;intro wn Cb sR gL fX;refine af ?_;intro bT e0 um;have aZ:Ext bq bT:=e0.ext gL sR;replace ct:=aZ.obj ct;replace cL:=aZ.obj cL;replace wX:=wX.ext Flat.ext aZ;have ow:=C7.ext aZ;have lD:=kn.trans aZ.mod;clear C7 TF;refine af ?_;refine K.quo (by omega) ?_;refine af ?_;apply K.cond<;>intro g2
  .refine af ?_;refine K.mX (first:=[]) (cap:=[.pointer (some ⟨bW,0,none⟩)]) (by kernel_rfl) (IG (o.dS m k) bW b _ _ _ bT ow (by rw[rT]) (by omega) (by omega)) ?_;rintro _ bV ⟨Ax,l6⟩;refine af ?_;refine⟨du,bk,(),trivial,lD.trans l6,?_⟩;rw[o.Ca du,if_pos g2,<-List.append_assoc];exact Ax
  .refine af ?_;refine⟨du,bk,(),trivial,lD,?_⟩;rw[o.Ca du,if_neg g2,List.append_nil];exact ow
 .have km:(o.insts m).length=k:=by omega
  rw[km];refine af ?_;exact⟨C7,fj.mod.trans kn⟩
end Go.Proofs.R
end
section
namespace o
open Go
def wU(x y:List Int×List Int):Bool:=decide (oa x.1 x.2 y.1 y.2)
def pV(L:List (List Int×List Int))(x:List Int×List Int):List Bool:=L.map (wU x)
def jT(L:List (List Int×List Int)):List (List Bool):=L.map (pV L)
theorem tU(L:List (List Int×List Int)):(jT L).length=L.length:=by simp[jT]
theorem Cn(L:List (List Int×List Int))(x:List Int×List Int):(pV L x).length=L.length:=by simp[pV]
end o
namespace bt
open Go Go.RowKit
theorem amq(n:Nat):n3 (Value.slice none 0 0).cells (n*1)=(List.replicate n (Value.slice none 0 0)).toArray:=by
 apply Array.ext_getElem?;intro i;by_cases h:i<n
 .simp[n3,Value.cells,h,Nat.mod_one]
 .simp[n3,h]
theorem K.ah1{c9:Value->World->Prop}{w:World}{e:TypeId}{n:Int}{t}(N:Nat)(aE:n=N)(aC:N<=1000000)(hk:∀av b,w.heap.size<=b->Ext w av->av.heap[b]? = some (.cells (List.replicate N (Value.slice none 0 0)).toArray e)->c9 (.slice (some ⟨b,0,none⟩) N N) av) :
  xi e 1 24 (.slice none 0 0) (.int .i64 n) (.int .i64 n) w c9 t:=by
 subst aE;refine K.qc ⟨by omega,by omega,by omega,by omega⟩ ?_;have h:=hk (w.alloc (.cells (List.replicate N (Value.slice none 0 0)).toArray e)) _ (Nat.le_refl _) ((Ext.refl w).alloc _) (heap_alloc_new w _);rw[Int.toNat_natCast,amq];exact h
theorem K.Yu{b c:Nat}{cur:Array Value}{w:World}{e:TypeId}{v:Value}{gu:World->Prop}{t}(h:w.heap[b]? = some (.cells cur e))(aw:c<cur.size)(aT:v.oneCell'=true)
  (hk:∀av,dA b w av->av.heap[b]? = some (.cells (cur.set c v aw) e)->gu av):qv (.pointer (some (Addr.add ⟨b,0,none⟩ (c*1)))) v w gu t:=by
 rw[Nat.mul_one];refine K.st (e2 h (Array.getElem?_eq_getElem aw)) (by rw[add_eq];simp[World.frozen?,h]) aT (hk _ ?_ ?_)
 .have:=dA.setCell w (Addr.add ⟨b,0,none⟩ c) v
  rwa[Gp] at this
 .exact Fl h aw v
end bt
namespace Go.Proofs.R
open Go Go.RowKit bt
structure ln(w:World)(e6 n base:Nat)(b3:List Nat)(M:List (List Bool)):Prop where
 len:b3.length=M.length
 le:b3.length<=n
 row:w.heap[e6]? = some (.cells (b3.map (fun b=>Value.slice (some ⟨b,0,none⟩) n n)++List.replicate (n - b3.length) (Value.slice none 0 0)).toArray T.z)
 rows:∀j (h:j<b3.length) (bF:j<M.length),w.heap[b3[j]]? = some (.cells (ju M[j]).toArray T.p)/\M[j].length=n
 low:∀b∈b3,base<=b
theorem ln.ext{w w':World}{e6 n base:Nat}{b3:List Nat}{M:List (List Bool)}(h:ln w e6 n base b3 M)(he:Ext w w'):ln w' e6 n base b3 M :=
 ⟨h.len,h.le,he.obj h.row,fun j h1 U=>⟨he.obj (h.rows j h1 U).1,(h.rows j h1 U).2⟩,h.low⟩
theorem ln.lt{w:World}{e6 n base:Nat}{b3:List Nat}{M:List (List Bool)}(h:ln w e6 n base b3 M):∀b∈b3,b<w.heap.size:=fun b aC=>by
 obtain⟨j,aR,rfl⟩:=List.mem_iff_getElem.1 aC;exact cG (h.rows j aR (by have:=h.len;omega)).1
theorem ln.snoc{w w':World}{e6 n base b:Nat}{b3:List Nat}{M:List (List Bool)}{r:List Bool}(h:ln w e6 n base b3 M)(aS:b3.length<n)(he:dA e6 w w')(aw:w'.heap[e6]? = some (.cells (b3.map (fun b=>Value.slice (some ⟨b,0,none⟩) n n)++Value.slice (some ⟨b,0,none⟩) n n :: List.replicate (n - (b3.length+1)) (Value.slice none 0 0)).toArray T.z))
  (aC:w'.heap[b]? = some (.cells (ju r).toArray T.p))(a6:r.length=n)(jB:base<=b)(Di:∀c∈b3,c≠e6):ln w' e6 n base (b3++[b]) (M++[r]):=by
 refine⟨by simp[h.len],by simp;omega,?_,fun j h1 U=>?_,fun c aw=>?_⟩
 .rw[aw];simp
 .by_cases e:j<b3.length
  .rw[List.getElem_append_left e,List.getElem_append_left (by have:=h.len;omega)];obtain⟨cX,c0⟩:=h.rows j e (by have:=h.len;omega);exact⟨he.obj cX (Di _ (List.getElem_mem e)),c0⟩
  .have aW:j=b3.length:=by simp at h1;omega
   subst aW;rw[List.getElem_append_right (Nat.le_refl _),List.getElem_append_right (by rw[h.len];exact Nat.le_refl _)];simp only[Nat.sub_self,h.len,List.getElem_cons_zero];exact⟨aC,a6⟩
 .rcases List.mem_append.1 aw with aw | aw
  .exact h.low c aw
  .rw[List.mem_singleton] at aw;subst aw;exact jB
theorem ln.last{w w':World}{e6 n base b:Nat}{b3:List Nat}{M:List (List Bool)}{r gy:List Bool}(h:ln w e6 n base (b3++[b]) (M++[r]))(he:dA b w w')(aC:w'.heap[b]? = some (.cells (ju gy).toArray T.p))(a6:gy.length=n)(aE:b∉b3)(Di:e6≠b) :
  ln w' e6 n base (b3++[b]) (M++[gy]):=by
 have aS:=h.len;simp only[List.length_append,List.length_singleton] at aS;refine⟨by simp;omega,h.le,he.obj h.row Di,fun j h1 U=>?_,h.low⟩;by_cases e:j<b3.length
 .obtain⟨cX,c0⟩:=h.rows j h1 (by simp;omega);rw[List.getElem_append_left e,List.getElem_append_left (by omega)] at cX;rw[List.getElem_append_left (by omega)] at c0;rw[List.getElem_append_left e,List.getElem_append_left (by omega)];exact⟨he.obj cX (fun aW=>aE (aW ▸ List.getElem_mem e)),c0⟩
 .have aW:j=b3.length:=by simp at h1;omega
  subst aW;rw[List.getElem_append_right (Nat.le_refl _),List.getElem_append_right (by omega)];simp only[Nat.sub_self,show b3.length - M.length=0 from by omega,List.getElem_cons_zero];exact⟨aC,a6⟩
end Go.Proofs.R
namespace o
open Go
theorem iQ.k6{m:Model}{ref:Int}{a b:List Int}(h:iQ m ref a b):a.Pairwise (· < ·)/\b.Pairwise (· < ·):=by
 by_cases aO:Told m ref
 .obtain⟨q,p,k,ca⟩:=sD aO;obtain⟨h1,U⟩:=h.there q p k ca;exact⟨h1.k6,U.k6⟩
 .obtain⟨rfl,rfl⟩:=h.none aO;exact⟨List.Pairwise.nil,List.Pairwise.nil⟩
def rb(L:List (List Int×List Int))(x:List Int×List Int)(k:Nat):List Bool:=(pV L x).take k++List.replicate (L.length - k) false
theorem akd(L:List (List Int×List Int))(x:List Int×List Int):rb L x 0=List.replicate L.length false:=by simp[rb]
theorem NT{L:List (List Int×List Int)}{x:List Int×List Int}{k:Nat}(h:k<=L.length):(rb L x k).length=L.length:=by simp[rb,Cn];omega
theorem akb(L:List (List Int×List Int))(x:List Int×List Int):rb L x L.length=pV L x:=by
 unfold rb;rw[List.take_of_length_le (by rw[Cn];exact Nat.le_refl _),Nat.sub_self];simp
theorem akc{L:List (List Int×List Int)}{x:List Int×List Int}{k:Nat}(h:k<L.length):(rb L x k).set k (wU x L[k])=rb L x (k+1):=by
 have U:k<(pV L x).length:=by rw[Cn];exact h
 have ag:(pV L x)[k]=wU x L[k]:=by simp[pV]
 unfold rb;rw[List.take_succ_eq_append_getElem U,ag,List.set_append_right _ _ (by simp;omega)]
 have:L.length - k=(L.length - (k+1))+1:=by omega
 rw[this,List.replicate_succ];simp[Nat.min_eq_left (Nat.le_of_lt U)]
end o
end
section
namespace Go.Proofs.R
open Go Go.RowKit bt
theorem akO(l:List Value)(n:Nat)(z v:Value){i:Nat}(ad:i=l.length)(aE:0<n)(h:i<(l++List.replicate n z).toArray.size):(l++List.replicate n z).toArray.set i v h=(l++v :: List.replicate (n - 1) z).toArray:=by
 subst ad;obtain⟨k,rfl⟩:∃k,n=k+1:=⟨n - 1,by omega⟩;simp[List.replicate_succ]
theorem ln.cell{w:World}{e6 n base b:Nat}{b3:List Nat}{M:List (List Bool)}(h:ln w e6 n base (b3++[b]) M){i:Nat}(ad:i=b3.length):w.cell? (Addr.add ⟨e6,0,none⟩ (i*1))=some (.slice (some ⟨b,0,none⟩) n n):=by
 subst ad;refine e2 h.row ?_;rw[Nat.mul_one];simp
theorem Sw(cs:List Value)(m:o.Model)(w:World)(h:o.dY w cs m)(a1:m.cQ)(ba:ht w) :
  bu Tryz.prog F.gn #[.agg cs.toArray] w fun u w'=>(((o.check m).c3≠0/\u = .slice none 0 0)\/((o.check m).c3=0/\∃L e6 b3,o.mh m (o.refs m).length L/\u = .slice (some ⟨e6,0,none⟩) L.length L.length/\ln w' e6 L.length w.heap.size b3 (o.jT L)))/\Ext w w':=by
 have eh:=h;obtain⟨cy,bP,b9,c1,ck,c2,cn,bQ,cB,bX,rfl,_⟩:=h.form;refine bL E.gn ?_;refine bG ?_;refine af ?_;intro av bC cR aB aq;refine af ?_;refine K.call (A4 _ m av (eh.ext aB) a1 (ba.ext aB)) ?_;rintro _ aU ⟨rfl,aA⟩;replace aq:=aA.obj aq;have aW:=aB.trans aA;refine af ?_;refine K.jg (v:=.int .i64 (o.check m).c3) rfl ?_;refine af ?_;apply K.cond<;>intro g1;rotate_left
 .refine af ?_;exact⟨.inl ⟨g1,bk⟩,aW⟩
 have lA:=o.mF g1;have j1:=o.u9 lA.lim;refine af ?_;refine K.call (YO _ m aU (eh.ext aW) a1 (ba.ext aW) lA.lim) ?_;rintro _ bb ⟨⟨L,base,hK,sQ,aee,dE⟩,ax⟩;obtain⟨ais,aaP,rfl,_⟩:=dE.form;have wg:bE 2 JA bb _ L:=dE.py;have bJ:=aW.trans ax;have C8:=hK.len;have z3:=bJ.size;refine af ?_;refine K.ah1 L.length rfl (by omega) fun bq e6 Di aM bw=>?_;have ad4:ln bq e6 L.length bb.heap.size [] ((o.jT L).take 0):=⟨rfl,Nat.zero_le _,by simpa using bw,fun j h=>absurd h (Nat.not_lt_zero _),fun b aC=>by cases aC⟩;have jB:=cG bw;clear bw;refine af ?_;refine K.dk 18 L.length [3,4,17] (fun _:Unit=>[]) () (fun i _ W => ∃b3,ln W e6 L.length bb.heap.size b3 ((o.jT L).take i)/\Ext bb W) bz bz ⟨[],ad4,aM⟩ ?_;rintro i _ S bT ad ⟨b3,eQ,aZ⟩;have b5:=bJ.trans aZ;have Ab:=eQ.len;rw[List.length_take,o.tU,Nat.min_eq_left ad] at Ab;refine af ?_;apply K.cond<;>intro g2;rotate_left
 .have rT:i=L.length:=by omega
  rw[rT,List.take_of_length_le (by rw[o.tU];exact Nat.le_refl _)] at eQ;refine af ?_;exact⟨.inr ⟨g1,L,e6,b3,hK,bk,⟨eQ.len,eQ.le,eQ.row,eQ.rows,fun b aC=>by have:=eQ.low b aC;omega⟩⟩,b5⟩
 have kD:i<L.length:=by omega
 have aek:∀c∈b3,c≠e6:=fun c aw e=>by
  obtain⟨j,aR,rfl⟩:=List.mem_iff_getElem.1 aw;have cX:=(eQ.rows j aR (by have:=eQ.len;omega)).1;rw[e,eQ.row] at cX;injection cX with cX
  injection cX with _ cX
  revert cX;decide
 have aem:=eQ.lt;refine af ?_;refine K.WH L.length rfl (by omega) fun bV b aC a8 ct=>?_;have Hd:=eQ.ext a8;have anJ:=cG Hd.row;have anI:=cG eQ.row;refine af ?_;refine K.Yu Hd.row (by simp;omega) rfl fun cc dx cU=>?_;have afe:i=b3.length:=Ab.symm;rw[akO _ _ _ _ (by simp;omega) (by omega)] at cU;have aej:b∉b3:=fun aw=>by have:=aem b aw;omega
 have TZ:e6≠b:=by omega
 have ad5:ln cc e6 L.length bb.heap.size (b3++[b]) ((o.jT L).take i++[o.rb L L[i] 0]) :=
  Hd.snoc (by omega) dx (by rw[cU];simp[Nat.sub_sub]) (by rw[o.akd];exact dx.obj ct (Ne.symm TZ)) (by rw[o.NT (Nat.zero_le _)]) (by have:=aZ.size;omega) aek
 have bM:Ext bb cc:=dx.ext (aZ.trans a8) Di;clear Hd ct cU;refine af ?_;refine K.dk 29 L.length [3,4,5,17,18,28] (fun _:Unit=>[]) () (fun k _ W=>ln W e6 L.length bb.heap.size (b3++[b]) ((o.jT L).take i++[o.rb L L[i] k])/\Ext bb W) bz bz ⟨ad5,bM⟩ ?_;rintro k _ kR di hk ⟨K1,bY⟩;have eg:=bJ.trans bY;refine af ?_;apply K.cond<;>intro g3;rotate_left
 .have LV:k=L.length:=by omega
  rw[LV,o.akb] at K1;refine af ?_;refine⟨kD,bk,(),trivial,b3++[b],?_,bY⟩;rw[List.take_succ_eq_append_getElem (by rw[o.tU];exact kD)]
  have:(o.jT L)[i]'(by rw[o.tU];exact kD)=o.pV L L[i]:=by simp[o.jT]
  rw[this];exact K1
 have du:k<L.length:=by omega
 obtain⟨ZN,rfl⟩:=wg.addr (by omega);obtain⟨j8,j9,jz,kq,gT⟩:=wg.at i kD;obtain⟨kN,kv,Lw,agC,Vv⟩:=wg.at k du;obtain⟨Ns,Nt⟩:=(hK.is i kD).k6;obtain⟨Nu,Nv⟩:=(hK.is k du).k6;refine af ?_;intro dX cr;have yd:=bY.trans cr;have TQ:=K1.ext cr;have h0:=TQ.cell afe;have anT:=jz.ext yd;have anV:=Lw.ext yd;refine af ?_;refine K.ld h0 ?_;refine af ?_;refine K.call (W0 j8 j9 kN kv _ _ _ _ dX (kq.ext Flat.ext yd) (gT.ext Flat.ext yd) (agC.ext Flat.ext yd) (Vv.ext Flat.ext yd) Ns Nt Nu Nv) ?_;rintro _ fw ⟨rfl,dc⟩;have Hc:=TQ.ext dc;refine⟨dc,?_⟩;have nR:=Hc.rows b3.length (by simp) (by have:=Hc.len;simp at this ⊢;omega);have ad6:=Hc.len;simp only[List.length_append,List.length_singleton] at ad6;rw[List.getElem_append_right (Nat.le_refl _),List.getElem_append_right (by omega)] at nR;simp only[Nat.sub_self,show b3.length - ((o.jT L).take i).length=0 from by omega,List.getElem_cons_zero] at nR;refine af ?_;refine K.Yu nR.1 (by simp[ju,o.NT hk];exact du) rfl fun gw hA nL=>?_;have DV:gw.heap[b]? = some (.cells (ju (o.rb L L[i] (k+1))).toArray T.p):=by
  rw[nL,<-o.akc du];simp[ju,List.map_set,o.wU]
 have ad3:=Hc.last hA DV (by rw[o.NT (by omega)]) aej TZ;have fp:bb.heap.size<=b:=by have:=aZ.size;omega
 have fY:Ext bb gw:=hA.ext (yd.trans dc) fp;refine af ?_;exact⟨du,bk,(),trivial,ad3,fY⟩
end Go.Proofs.R
end
section
namespace o
open Go
def mI(x y:Node):Prop:=x.op<y.op\/(x.op=y.op/\x.n<y.n)
def Ba(x y:Node):Int:=if x.op=y.op/\x.n=y.n then 0 else if x.op<y.op\/(x.op=y.op/\x.n<y.n) then -1 else 1
theorem WS{x y:Node}(h1:x.op=y.op)(U:x.n=y.n):x=y:=by cases x;cases y;simp_all
theorem aif(x:Node):¬mI x x:=by unfold mI;omega
theorem aih(x y z:Node)(h:mI x y)(k:mI y z):mI x z:=by unfold mI at *;omega
theorem Iq(x y:Node):Ba x y<0↔mI x y:=by
 unfold Ba mI;split
 .omega
 .split<;>omega
def sm (op:Int):Bool:=decide (op=2\/op=3\/op=4\/op=6\/op=7)
structure Gj(e r:List Node):Prop where
 k6:r.Pairwise mI
 mem:∀x,x∈r↔x∈e/\sm x.op=true
def comp:List Node->List Node
 | []=>[]
 | [x]=>[x]
 | x :: y :: r=>if x.op=y.op/\x.n=y.n then comp (y :: r) else x :: comp (y :: r)
theorem Kg:∀(l:List Node) (x:Node),x∈comp l↔x∈l
 | [],x=>Iff.rfl
 | [y],x=>Iff.rfl
 | y :: z :: r,x=>by
  unfold comp;have e1:=Kg (z :: r) x;split
  .rename_i h
   have:y=z:=WS h.1 h.2
   subst this;rw[e1];simp
  .rw[List.mem_cons,e1,List.mem_cons (b:=y)]
theorem Si:∀(l:List Node),l.Pairwise (fun x y => ¬mI y x)->(comp l).Pairwise mI
 | [],_=>List.Pairwise.nil
 | [y],_=>by unfold comp;simp
 | y :: z :: r,h=>by
  unfold comp;rw[List.pairwise_cons] at h;have e1:=Si (z :: r) h.2;split
  .exact e1
  .rename_i cI;rw[List.pairwise_cons];refine⟨fun x ar=>?_,e1⟩;rw[Kg] at ar;have aoq:=h.1 z (List.mem_cons_self ..);have cv:mI y z:=by unfold mI at *;omega
   rcases List.mem_cons.1 ar with e | e
   .rw[e];exact cv
   .have U:=h.2;rw[List.pairwise_cons] at U
    have:=U.1 x e
    unfold mI at *;omega
structure amz(l:List Int)(n:Int)(r:List Int):Prop where
 k6:r.Pairwise (· < ·)
 mem:∀x,x∈r↔x∈l\/x=n
 len:r.length<=l.length+1
structure amB(e:List Node)(op:Int)(l:List Int):Prop where
 k6:l.Pairwise (· < ·)
 mem:∀n,n∈l↔∃x∈e,x.op=op/\x.n=n
 len:l.length<=e.length
def opsL:List Int:=[2,3,4,6,7]
structure amI(e:List Node)(k:Nat)(r:List Node):Prop where
 k6:r.Pairwise mI
 mem:∀x,x∈r↔x∈e/\x.op∈opsL.take k
 len:r.length<=k*e.length
theorem Kh:∀(l:List Node) (x y:Node),comp (l++[x,y])=if x.op=y.op/\x.n=y.n then comp (l++[x]) else comp (l++[x])++[y]
 | [],x,y=>by
  by_cases h:x.op=y.op/\x.n=y.n
  .have:x=y:=WS h.1 h.2
   subst this;simp[comp]
  .simp[comp,h]
 | [a],x,y=>by
  have e1:=Kh [] x y;simp only[List.nil_append,List.cons_append] at e1 ⊢;unfold comp;rw[e1];by_cases h:a.op=x.op/\a.n=x.n
  .simp only[if_pos h]
  .simp only[if_neg h];by_cases U:x.op=y.op/\x.n=y.n
   .simp[U,comp]
   .simp[U,comp]
 | a :: b :: l,x,y=>by
  have e1:=Kh (b :: l) x y;simp only[List.cons_append] at e1 ⊢;unfold comp;rw[e1];by_cases h:a.op=b.op/\a.n=b.n
  .simp only[if_pos h]
  .simp only[if_neg h];by_cases U:x.op=y.op/\x.n=y.n
   .simp only[if_pos U]
   .simp only[if_neg U,List.cons_append]
theorem Ki{l:List Node}{n:Nat}(h1:1<=n)(U:n<l.length):comp (l.take (n+1))=if l[n - 1].op=l[n].op/\l[n - 1].n=l[n].n then comp (l.take n) else comp (l.take n)++[l[n]]:=by
 obtain⟨k,rfl⟩:∃k,n=k+1:=⟨n - 1,by omega⟩;have bR:l.take (k+1)=l.take k++[l[k]]:=List.take_succ_eq_append_getElem (by omega);have aW:l.take (k+1+1)=l.take k++[l[k],l[k+1]]:=by rw[List.take_succ_eq_append_getElem U,bR,List.append_assoc];rfl
 rw[aW,Kh,bR];rfl
theorem Kf:∀l:List Node,(comp l).length<=l.length
 | []=>Nat.le_refl _
 | [x]=>Nat.le_refl _
 | x :: y :: r=>by
  have:=Kf (y :: r)
  unfold comp;split
  .simp only[List.length_cons] at this ⊢;omega
  .simp only[List.length_cons] at this ⊢;omega
theorem Sh{l:List Node}(h:l.length<2):comp l=l:=by
 match l,h with
 | [],_=>rfl
 | [x],_=>rfl
 | x :: y :: r,h=>simp at h;omega
theorem abJ{l:List Node}:comp (l.take 1)=l.take 1:=Sh (by rw[List.length_take];omega)
end o
namespace bt
open Go Go.RowKit
theorem N2:∀(cs:List Value) (w:World) (b al i:Nat) (cur:Array Value) (e:TypeId),w.heap[b]? = some (.cells cur e)->al+i+cs.length<=cur.size ->
  ∃sG,(kK w ⟨b,al,none⟩ cs i).heap[b]? = some (.cells sG e)/\sG.size=cur.size/\(∀j,j<al+i\/al+i+cs.length<=j->sG[j]? = cur[j]?)/\∀j (h:j<cs.length),sG[al+i+j]? = some cs[j]
 | [],w,b,al,i,cur,e,aC,_=>⟨cur,aC,rfl,fun _ _=>rfl,fun j h=>absurd h (Nat.not_lt_zero _)⟩
 | c :: cs,w,b,al,i,cur,e,aC,aS=>by
  have aR:al+i<cur.size:=by simp at aS;omega
  have h1:=Fl aC aR c;have ly:Addr.add ⟨b,0,none⟩ (al+i)=Addr.add ⟨b,al,none⟩ i:=by rw[add_eq,add_eq,Nat.zero_add]
  rw[ly] at h1;obtain⟨sG,cX,c0,gD,iK⟩:=N2 cs _ b al (i+1) _ e h1 (by simp at aS ⊢;omega);refine⟨sG,cX,by simpa using c0,fun j rV=>?_,fun j h=>?_⟩
  .rw[gD j (by simp at rV ⊢;omega),Array.getElem?_set_ne _ (by simp at rV;omega)]
  .cases j with
   | zero =>
    rw[Nat.add_zero,gD (al+i) (by omega),Array.getElem?_set_self];rfl
   | succ j =>
    have:=iK j (by simpa using h)
    rw[show al+i+(j+1)=al+(i+1)+j from by omega,this];rfl
end bt
namespace Go.Proofs.R
open Go Go.RowKit bt
theorem Ck{w:World}{b j:Nat}{c:Array Value}{t:TypeId}{v:Value}(h:w.heap[b]? = some (.cells c t))(aR:c[j]? = some v):w.cell? ⟨b,j,none⟩=some v:=by
 simp[World.cell?,h,aR]
structure gP(w:World)(b:Nat)(l:List o.Node):Prop where
 ex:∃cur,w.heap[b]? = some (.cells cur T.f)/\2*l.length<=cur.size/\∀i (h:i<l.length),cur[2*i]? = some (.int .i64 l[i].op)/\cur[2*i+1]? = some (.int .i64 l[i].n)
theorem gP.mod{w w':World}{b:Nat}{l:List o.Node}{A:Nat->Prop}(h:gP w b l)(hm:Mod A w w')(eJ:¬A b):gP w' b l:=by
 obtain⟨cur,h1,U,ag⟩:=h.ex;exact⟨cur,hm.obj eJ h1,U,ag⟩
theorem gP.ext{w w':World}{b:Nat}{l:List o.Node}(h:gP w b l)(he:Ext w w'):gP w' b l:=by
 obtain⟨cur,h1,U,ag⟩:=h.ex;exact⟨cur,he.obj h1,U,ag⟩
theorem gP.at_{w:World}{b:Nat}{l:List o.Node}(h:gP w b l){i:Nat}(ad:i<l.length):eS w ⟨b,2*i,none⟩ l[i].enc:=by
 obtain⟨cur,h1,U,ag⟩:=h.ex;have e:(⟨b,2*i,none⟩:Addr)=Addr.add ⟨b,0,none⟩ (2*i):=by rw[add_eq,Nat.zero_add]
 intro j v aR;obtain⟨cX,c0⟩:=ag i ad;rw[e,add_eq,add_eq,Nat.zero_add]
 match j,aR with
 | 0,aR =>
  have:v = .int .i64 l[i].op:=by simpa[o.Node.enc] using aR.symm
  subst this;exact Ck h1 cX
 | 1,aR =>
  have:v = .int .i64 l[i].n:=by simpa[o.Node.enc] using aR.symm
  subst this;exact Ck h1 c0
 | n+2,aR=>simp[o.Node.enc] at aR
theorem gP.take{w:World}{b:Nat}{l:List o.Node}(h:gP w b l)(k:Nat):gP w b (l.take k):=by
 obtain⟨cur,h1,U,ag⟩:=h.ex;refine⟨cur,h1,by rw[List.length_take];omega,fun i ad=>?_⟩;rw[List.length_take] at ad
 have:=ag i (by omega)
 simpa using this
theorem gP.Yk{w:World}{b c:Nat}{l:List o.Node}(h:gP w b l)(aw:l.length<=c)(hm:c<=maxLen):bE 2 (Flat o.Node.enc) w (.slice (some ⟨b,0,none⟩) l.length c) l :=
 ⟨_,_,rfl,aw,hm,fun _=>rfl,fun a bj i ad=>by
  injection bj with bj;subst bj
  have:=h.at_ ad
  rw[show(⟨b,2*i,none⟩:Addr)=Addr.add ⟨b,0,none⟩ (i*2) from by rw[add_eq,Nat.zero_add,Nat.mul_comm]] at this;exact this⟩
theorem gP.set{w:World}{b i:Nat}{l:List o.Node}(h:gP w b l)(ad:i<l.length)(x:o.Node):gP (kK w ⟨b,2*i,none⟩ x.enc 0) b (l.set i x):=by
 obtain⟨cur,h1,U,ag⟩:=h.ex;obtain⟨sG,cX,c0,gD,iK⟩:=N2 x.enc w b (2*i) 0 cur _ h1 (by simp[o.Node.enc];omega);refine⟨sG,cX,by rw[List.length_set,c0];exact U,fun j aR=>?_⟩;rw[List.length_set] at aR;have a0:=iK 0 (by simp[o.Node.enc]);have dJ:=iK 1 (by simp[o.Node.enc]);by_cases e:i=j
 .subst e;rw[List.getElem_set_self];simp only[Nat.add_zero,o.Node.enc] at a0 dJ;exact⟨a0,dJ⟩
 .rw[List.getElem_set_ne e,gD _ (by simp[o.Node.enc];omega),gD _ (by simp[o.Node.enc];omega)];exact ag j aR
theorem gP.cut{w:World}{b k:Nat}{l:List o.Node}{zs:List Value}(h:gP w b l)(bN:2*k+zs.length<=2*l.length):gP (kK w ⟨b,2*k,none⟩ zs 0) b (l.take k):=by
 obtain⟨cur,h1,U,ag⟩:=h.ex;obtain⟨sG,cX,c0,gD,_⟩:=N2 zs w b (2*k) 0 cur _ h1 (by omega);refine⟨sG,cX,by rw[List.length_take,c0];omega,fun j aR=>?_⟩;rw[List.length_take] at aR;rw[List.getElem_take,gD _ (by omega),gD _ (by omega)];exact ag j (by omega)
theorem amn{P:Program}{ty:TypeId}{z:Value}(h:(P.info? ty).bind (·.zero)=some z)(w:World):(zeroValue ty).run P w = .ok z w:=by
 cases ad:P.info? ty with
 | none=>rw[ad] at h;cases h
 | some i =>
  rw[ad] at h;have U:i.zero=some z:=h;simp[zeroValue,tq ad,U]
theorem aia(x:o.Node):∀c∈x.enc.toArray.toList,c.oneCell'=true:=by simp[o.Node.enc,Value.oneCell']
theorem gP.free{w:World}{b:Nat}{l:List o.Node}(h:gP w b l){j:Nat}(aR:j<2*l.length):(∃kG,w.cell? ⟨b,j,none⟩=some kG)/\w.frozen? ⟨b,j,none⟩=false:=by
 obtain⟨cur,h1,U,_⟩:=h.ex;exact⟨⟨cur[j]'(by omega),Ck h1 (Array.getElem?_eq_getElem (by omega))⟩,by simp[World.frozen?,h1]⟩
theorem K.ali{w:World}{b i:Nat}{l:List o.Node}{x:o.Node}{a:Addr}{gu:World->Prop}{t}(h:gP w b l)(bj:a=⟨b,2*i,none⟩)(ad:i<l.length)(hk:∀av,dA b w av->gP av b (l.set i x)->gu av) :
  zr 2 (.pointer (some a)) (.agg x.enc.toArray) w gu t:=by
 subst bj;refine K.ri rfl (fun j aR=>?_) (aia x) (hk _ (dA.kK _ w ⟨b,2*i,none⟩ 0) (h.set ad x));rw[add_eq];exact h.free (by omega)
theorem K.abv{S:Fr}{w:World}{b k n cap:Nat}{l:List o.Node}{x:Operand}{bm:Option Addr}{c9:Value->World->Prop}{ty:TypeId}{t}(h:gP w b l)(ar:bo S x = .slice bm n cap)(aE:k+n=l.length)(bj:0<n->bm=some ⟨b,2*k,none⟩)
  (hk:∀v av,Mod (fun i=>i=b) w av->gP av b (l.take k)->c9 v av):tI Tryz.prog (.call ⟨.builtin .clear,#[x],#[T.ky]⟩) ty S w c9 t:=by
 have bN:∀w:World,(zeroValue T.f).run Tryz.prog w = .ok (.agg #[.int .i64 0,.int .i64 0]) w:=amn (by kernel_rfl);have hu:Tryz.prog.underlying T.ky=some (.slice T.f):=by kernel_rfl
 cases n with
 | zero =>
  refine K.raw (v:=.tuple #[]) (w':=w) ?_ (hk _ _ (Mod.refl _ _) (h.take k));cases bm<;>simp[execOp,resolve,invoke,builtin,ar,Builtin.clear_,run_underlying hu]
 | succ n =>
  obtain rfl:=bj (by omega);refine K.raw (v:=.tuple #[]) (w':=kK w ⟨b,2*k,none⟩ (Builtin.zeroCells #[.int .i64 0,.int .i64 0] (n+1)).toList 0) ?_ (hk _ _ ((dA.kK _ w ⟨b,2*k,none⟩ 0).mod rfl) (h.cut ?_))
  .have ay:=NY Tryz.prog ⟨b,2*k,none⟩ (Builtin.zeroCells #[.int .i64 0,.int .i64 0] (n+1)).toList 0 w (fun j aR=>?_) ?_
   .simp[execOp,resolve,invoke,builtin,ar,Builtin.clear_,run_underlying hu,bN,Value.cells,ay]
   .rw[add_eq];exact h.free (by simp[Builtin.zeroCells] at aR;omega)
   .intro c aw;simp only[Builtin.zeroCells,Array.toList_map,List.mem_map] at aw;obtain⟨i,_,rfl⟩:=aw;show((#[Value.int .i64 0,.int .i64 0]:Array Value)[i % 2]!).oneCell'=true;rcases Nat.mod_two_eq_zero_or_one i with e | e<;>rw[e]<;>rfl
  .simp[Builtin.zeroCells];omega
theorem GK(x y:Int):qC [.i,.i] [.int .i64 x,.int .i64 y]:=⟨⟨_,rfl⟩,⟨_,rfl⟩,trivial⟩
theorem SS{x y:o.Node}:x.enc=y.enc↔x.op=y.op/\x.n=y.n:=by simp[o.Node.enc]
theorem abL(b c:Nat)(l:List o.Node)(w:World)(h:gP w b l)(aw:l.length<=c)(hm:c<=maxLen) :
  bu Tryz.prog F.l0 #[.slice (some ⟨b,0,none⟩) l.length c] w fun v w'=>v = .slice (some ⟨b,0,none⟩) (o.comp l).length c/\gP w' b (o.comp l)/\Mod (fun i=>i=b) w w':=by
 have eZ:=o.Kf l;unfold maxLen at hm;refine bL E.l0 ?_;refine bG ?_;refine af ?_;apply K.cond<;>intro g1
 .have e:=o.Sh (l:=l) (by omega);refine af ?_;exact⟨by rw[e],by rw[e];exact h,Mod.refl _ _⟩
 refine af ?_;refine K.w9 [0] (fun k:Nat=>[(3,.int .i64 k)]) 1 (fun k W=>1<=k/\k<=l.length/\o.comp (l.take k)=l.take k/\Ext w W) (fun k=>l.length - k) bz ⟨by omega,by omega,o.abJ,Ext.refl _⟩ ?_;rintro k S av ⟨yi,du,qQ,aB⟩;have ko:=h.ext aB;have z1:=ko.Yk aw hm;refine af ?_;apply K.cond<;>intro g2;rotate_left
 .have km:k=l.length:=by omega
  rw[km,List.take_length] at qQ;refine af ?_;exact⟨by rw[qQ],by rw[qQ];exact ko,aB.mod⟩
 have rW:k<l.length:=by omega
 refine af ?_;refine K.dD (k - 1) (by omega) (by omega) ?_;refine af ?_;refine K.acq (sig:=[.i,.i]) (by kernel_rfl) (GK _ _) (GK _ _) fun r a6=>?_;rw[SS] at a6;refine af ?_;intro aU aA;have hM:=ko.ext aA;have aW:=aB.trans aA;cases r with
 | false =>
  have cI:¬(l[k - 1].op=l[k].op/\l[k - 1].n=l[k].n):=fun e=>by have:=a6.2 ⟨e.1.symm,e.2.symm⟩;cases this
  have afk:o.comp (l.take (k+1))=l.take (k+1):=by rw[o.Ki yi rW,if_neg cI,qQ,List.take_succ_eq_append_getElem rW]
  refine af ?_;exact⟨k+1,⟨bk,trivial⟩,⟨by omega,by omega,afk,aW⟩,by omega⟩
 | true =>
  obtain⟨dH,dN⟩:=a6.1 rfl;have yj:o.comp (l.take (k+1))=l.take k:=by rw[o.Ki yi rW,if_pos ⟨dH.symm,dN.symm⟩,qQ]
  have kY:¬c=k:=by omega
  clear z1;refine af ?_;refine K.hQ k l.length c (by simp[fm,fu,cu]) (by simp[fm]) (by simp[fm]) ⟨by omega,aw,Nat.le_refl _⟩ (by simp) ?_;rw[if_neg kY,Option.map_some];refine af ?_;refine K.w9 [0,4] (fun x:Nat×Nat×List o.Node=>[(3,.int .i64 x.1),(5,.int .i64 x.2.1)]) (k,1,l) (fun x W=>1<=x.2.1/\k+x.2.1<=l.length/\1<=x.1/\x.1+1<=k+x.2.1/\x.2.2.length=l.length/\gP W b x.2.2/\Mod (fun i=>i=b) w W/\x.2.2.take x.1=o.comp (l.take (k+x.2.1))/\∀j,x.1<=j->x.2.2[j]? = l[j]?) (fun x=>l.length - (k+x.2.1)) bz ⟨Nat.le_refl _,by simp only;omega,yi,Nat.le_refl _,rfl,hM,aW.mod,yj.symm,fun _ _=>rfl⟩ ?_;rintro⟨uR,c0,R⟩ JB bb ⟨ni,pr,uN,ag1,MI,D8,H6,AD,D9⟩;dsimp only at ni pr uN ag1 MI D8 H6 AD D9 ⊢;refine af ?_;apply K.cond<;>intro g3
  .have fq:k+c0<l.length:=by omega
   have sy:∀i,(Addr.add ⟨b,0,none⟩ (k*2)).add (i*2)=⟨b,2*(k+i),none⟩:=fun i=>by
    rw[add_eq,add_eq];congr 1;omega
   have j8:R[k+c0]'(by omega)=l[k+c0]:=by
    have:=D9 (k+c0) (by omega)
    rw[List.getElem?_eq_getElem (by omega),List.getElem?_eq_getElem (by omega)] at this;injection this
   have j9:R[k+c0 - 1]'(by omega)=l[k+c0 - 1]:=by
    have:=D9 (k+c0 - 1) (by omega)
    rw[List.getElem?_eq_getElem (by omega),List.getElem?_eq_getElem (by omega)] at this;injection this
   have d1:eS bb ((Addr.add ⟨b,0,none⟩ (k*2)).add (c0*2)) l[k+c0].enc:=by
    rw[sy,<-j8];exact D8.at_ _
   have d2:eS bb ((Addr.add ⟨b,0,none⟩ (k*2)).add ((c0 - 1)*2)) l[k+c0 - 1].enc:=by
    rw[sy,<-j9,show k+(c0 - 1)=k+c0 - 1 from by omega];exact D8.at_ _
   have wi:=o.Ki (l:=l) (n:=k+c0) (by omega) fq;refine af ?_;refine K.dD (c0 - 1) (by omega) (by omega) ?_;refine af ?_;refine K.WM (sig:=[.i,.i]) (by kernel_rfl) (GK _ _) (GK _ _) fun r a6=>?_;rw[ne_eq,SS] at a6;refine af ?_;intro bq aM;have VV:=D8.ext aM;have ane:=d1.ext aM;cases r with
   | false =>
    have heq:l[k+c0 - 1].op=l[k+c0].op/\l[k+c0 - 1].n=l[k+c0].n:=Classical.byContradiction fun e=>by have:=a6.2 (fun aW=>e ⟨aW.1.symm,aW.2.symm⟩);cases this
    rw[if_pos heq] at wi;refine af ?_;refine⟨(uR,c0+1,R),⟨bk,bk,trivial⟩,⟨by simp only;omega,by simp only;omega,uN,by simp only;omega,MI,VV,H6.trans aM.mod,?_,D9⟩,by simp only;omega⟩;simp only;rw[<-Nat.add_assoc,wi,AD]
   | true =>
    have cI:¬(l[k+c0 - 1].op=l[k+c0].op/\l[k+c0 - 1].n=l[k+c0].n):=fun e=>(a6.1 rfl) ⟨e.1.symm,e.2.symm⟩;rw[if_neg cI] at wi;refine af ?_;refine K.ali (i:=uR) VV (by rw[add_eq,Nat.zero_add,Nat.mul_comm]) (by omega) fun bT e0 L0=>?_;refine af ?_;refine⟨(uR+1,c0+1,R.set uR l[k+c0]),⟨bk,bk,trivial⟩,⟨by simp only;omega,by simp only;omega,by simp only;omega,by simp only;omega,by rw[List.length_set];exact MI,L0,(H6.trans aM.mod).trans (e0.mod rfl),?_,fun j aR=>?_⟩,by simp only;omega⟩
    .simp only;rw[<-Nat.add_assoc,wi,<-AD,List.take_succ_eq_append_getElem (by rw[List.length_set];omega),List.getElem_set_self,List.take_set_of_le (Nat.le_refl _)]
    .simp only at aR;rw[List.getElem?_set_ne (by omega)];exact D9 j (by omega)
  .have LV:k+c0=l.length:=by omega
   rw[LV,List.take_length] at AD;have qR:(o.comp l).length=uR:=by rw[<-AD,List.length_take];omega
   refine af ?_;refine K.hQ uR l.length c (by simp[fm,fu,cu]) (by simp[fm]) (by simp[fm]) ⟨by omega,aw,Nat.le_refl _⟩ (by simp) ?_;rw[if_neg (show ¬c=uR by omega),Option.map_some];refine af ?_;refine K.abv (k:=uR) D8 (by simp only[fu,cu];rfl) (by omega) (fun _=>by rw[add_eq,Nat.zero_add,Nat.mul_comm]) fun v bq kn mD=>?_;rw[AD] at mD;refine af ?_;refine K.hQ 0 uR c (by simp[fm]) (by simp[fm,fu,cu]) (by simp[fm]) ⟨by omega,by omega,Nat.le_refl _⟩ (by simp) ?_;rw[if_neg (show ¬c=0 by omega),Option.map_some];refine af ?_;exact⟨by rw[qR,add_eq];rfl,mD,H6.trans kn⟩
end Go.Proofs.R
end
section
namespace Go.Proofs
open Go.Shelf
def Tryz.ak1:Go.Shelf.Ren:=⟨fun | 6=>149 | 15=>206 | 14=>205 | 28=>250 | 29=>251 | 20=>242 | 21=>243 | 22=>244 | 23=>245 | 24=>246 | 25=>247 | 26=>248 | 27=>249 | 46=>292 | 47=>293 | 48=>294 | 49=>295 | 50=>296 | 57=>310 | n=>n,fun | 22=>50 | 24=>85 | 25=>218 | 3=>3 | 39=>186 | 0=>0 | 53=>301 | 55=>63 | 4=>4 | 46=>295 | 45=>294 | 50=>187 | 5=>5 | 9=>9 | 66=>327 | 70=>331 | 76=>339 | 77=>134 | n=>n,fun | n=>n⟩
theorem Tryz.Yl:Go.Proofs.SlLaysF0.n6 Tryz.prog Tryz.ak1:={
 mixed:=by kernel_rfl
 f6:=⟨Tryz.f149.name,by decide,Tryz.func149.trans (congrArg some (by kernel_rfl))⟩
 f14:=⟨Tryz.f205.name,by decide,Tryz.func205.trans (congrArg some (by kernel_rfl))⟩
 f15:=Tryz.func206.trans (congrArg some (by kernel_rfl))
 f20:=⟨Tryz.f242.name,by decide,Tryz.func242.trans (congrArg some (by kernel_rfl))⟩
 f21:=⟨Tryz.f243.name,by decide,Tryz.func243.trans (congrArg some (by kernel_rfl))⟩
 f22:=⟨Tryz.f244.name,by decide,Tryz.func244.trans (congrArg some (by kernel_rfl))⟩
 f23:=⟨Tryz.f245.name,by decide,Tryz.func245.trans (congrArg some (by kernel_rfl))⟩
 f24:=⟨Tryz.f246.name,by decide,Tryz.func246.trans (congrArg some (by kernel_rfl))⟩
 f25:=⟨Tryz.f247.name,by decide,Tryz.func247.trans (congrArg some (by kernel_rfl))⟩
 f26:=⟨Tryz.f248.name,by decide,Tryz.func248.trans (congrArg some (by kernel_rfl))⟩
 f27:=⟨Tryz.f249.name,by decide,Tryz.func249.trans (congrArg some (by kernel_rfl))⟩
 f28:=Tryz.func250.trans (congrArg some (by kernel_rfl))
 f29:=Tryz.func251.trans (congrArg some (by kernel_rfl))
 f46:=⟨Tryz.f292.name,by decide,Tryz.func292.trans (congrArg some (by kernel_rfl))⟩
 f47:=Tryz.func293.trans (congrArg some (by kernel_rfl))
 f48:=Tryz.func294.trans (congrArg some (by kernel_rfl))
 f49:=⟨Tryz.f295.name,by decide,Tryz.func295.trans (congrArg some (by kernel_rfl))⟩
 f50:=⟨Tryz.f296.name,by decide,Tryz.func296.trans (congrArg some (by kernel_rfl))⟩
 f57:=⟨Tryz.f310.name,by decide,Tryz.func310.trans (congrArg some (by kernel_rfl))⟩
 t0:=Tryz.underlying0
 a0:=Tryz.isAgg0
 z0:=Tryz.sizeOf0
 v0:=Tryz.zeroValue0
 t3:=Tryz.underlying3
 a3:=Tryz.isAgg3
 z3:=Tryz.sizeOf3
 v3:=Tryz.zeroValue3
 t4:=Tryz.underlying4
 a4:=Tryz.isAgg4
 z4:=Tryz.sizeOf4
 v4:=Tryz.zeroValue4
 t5:=Tryz.underlying5
 a5:=Tryz.isAgg5
 z5:=Tryz.sizeOf5
 v5:=Tryz.zeroValue5
 t9:=Tryz.underlying9
 a9:=Tryz.isAgg9
 z9:=Tryz.sizeOf9
 v9:=Tryz.zeroValue9
 t22:=Tryz.underlying50
 a22:=Tryz.isAgg50
 z22:=Tryz.sizeOf50
 v22:=Tryz.zeroValue50
 t25:=Tryz.underlying218
 a25:=Tryz.isAgg218
 z25:=Tryz.sizeOf218
 v25:=Tryz.zeroValue218
 t39:=Tryz.underlying186
 a39:=Tryz.isAgg186
 z39:=Tryz.sizeOf186
 v39:=Tryz.zeroValue186
 t45:=Tryz.underlying294
 a45:=Tryz.isAgg294
 z45:=Tryz.sizeOf294
 v45:=Tryz.zeroValue294
 t46:=Tryz.underlying295
 a46:=Tryz.isAgg295
 z46:=Tryz.sizeOf295
 v46:=Tryz.zeroValue295
 t50:=Tryz.underlying187
 a50:=Tryz.isAgg187
 z50:=Tryz.sizeOf187
 v50:=Tryz.zeroValue187
 t53:=Tryz.underlying301
 a53:=Tryz.isAgg301
 z53:=Tryz.sizeOf301
 v53:=Tryz.zeroValue301
 t55:=Tryz.underlying63
 a55:=Tryz.isAgg63
 z55:=Tryz.sizeOf63
 v55:=Tryz.zeroValue63
 t66:=Tryz.underlying327
 a66:=Tryz.isAgg327
 z66:=Tryz.sizeOf327
 v66:=Tryz.zeroValue327
 t70:=Tryz.underlying331
 a70:=Tryz.isAgg331
 z70:=Tryz.sizeOf331
 v70:=Tryz.zeroValue331
 t76:=Tryz.underlying339
 a76:=Tryz.isAgg339
 z76:=Tryz.sizeOf339
 v76:=Tryz.zeroValue339
 t77:=Tryz.underlying134
 a77:=Tryz.isAgg134
 z77:=Tryz.sizeOf134
 v77:=Tryz.zeroValue134 }
end Go.Proofs
end
section
namespace Go.Proofs.R
open Go Go.RowKit Go.Sort Go.Shelf Go.Lib
theorem alT(x y:o.Node)(W:World):Calls Tryz.prog 150 #[.agg #[.int .i64 x.op,.int .i64 x.n],.agg #[.int .i64 y.op,.int .i64 y.n]] W fun e w'=>e = .returned (.int .i64 (o.Ba x y))/\∃q aiN,w'=grow (W.drewN q) aiN:=by
 go_enter Tryz.func150,Tryz.ntmps150
 go_wp2
 all_goals go_ret
 all_goals refine⟨?_,0,_,by rw[alloc_eq_grow,alloc_eq_grow,grow_grow];rfl⟩
 all_goals (congr 2;unfold o.Ba;repeat' split)
 all_goals first | omega | rfl
theorem ail:SWO (ltOf o.Ba) where
 irrefl x:=by
  have:=o.aif x
  rw[<-o.Iq] at this;simpa[ltOf] using this
 trans x y z h1 U:=by
  simp only[ltOf,decide_eq_true_eq] at h1 U ⊢;rw[o.Iq] at *;exact o.aih x y z h1 U
 ntrans x y z h1 U:=by
  simp only[ltOf,decide_eq_false_iff_not] at h1 U ⊢;rw[o.Iq] at *;unfold o.mI at *;omega
instance:Inhabited o.Node:=⟨⟨0,0⟩⟩
theorem aje{w:World}{b:Nat}{cur:Array Value}{e:TypeId}{d:Array Value}(h:w.heap[b]? = some (.cells cur e)):(putRow id w b 0 d).heap[b]? = some (.cells (putCells id 0 d cur) e):=by
 unfold putRow mapBlock;simp only[Array.getElem?_modify,if_true,h,Option.map_some,onCells]
theorem ajf{w:World}{b k:Nat}{d:Array Value}(h:k≠b):(putRow id w b 0 d).heap[k]? = w.heap[k]? := by
 unfold putRow mapBlock;simp only[Array.getElem?_modify];rw[if_neg (fun e=>h e.symm)]
theorem Xf{w:World}{b:Nat}{d:Array Value}:(putRow id w b 0 d).heap.size=w.heap.size:=by
 unfold putRow mapBlock;simp
theorem Tm{d:Array o.Node}{i:Nat}(h:i<d.size):(flatK o.Node.enc 2 d)[2*i]! = .int .i64 d[i].op/\(flatK o.Node.enc 2 d)[2*i+1]! = .int .i64 d[i].n:=by
 constructor
 .rw[get_flatK _ _ _ _ (by omega),show 2*i / 2=i from by omega,show 2*i % 2=0 from by omega,getElem!_pos _ i h];rfl
 .rw[get_flatK _ _ _ _ (by omega),show(2*i+1) / 2=i from by omega,show(2*i+1) % 2=1 from by omega,getElem!_pos _ i h];rfl
theorem ak2{w:World}{b n:Nat}{l:List o.Node}{d:Array o.Node}{os:Array Obj}(h:gP w b l)(bx:d.size=l.length):gP (sortWorldK o.Node.enc 2 w b 0 n d os) b d.toList/\bt.Mod (fun i=>i=b) w (sortWorldK o.Node.enc 2 w b 0 n d os):=by
 obtain⟨cur,h1,U,ag⟩:=h.ex;have cv:=bt.cG h1;have p0:(Sort.ahead w n).heap[b]? = some (.cells cur T.f):=h1;have a1:∀k,k<w.heap.size->(sortWorldK o.Node.enc 2 w b 0 n d os).heap[k]? = (putRow id (Sort.ahead w n) b 0 (flatK o.Node.enc 2 d)).heap[k]? := fun k hk=>by
  unfold sortWorldK grow putRowK;exact Array.getElem?_append_left (by rw[Xf];exact hk)
 constructor
 .refine⟨_,(a1 b cv).trans (aje p0),by simp[putCells];omega,fun i ad=>?_⟩;have cO:i<d.size:=by simpa using ad
  obtain⟨f1,f2⟩:=Tm cO;simp only[putCells,Array.getElem?_mapIdx,size_flatK,Array.getElem_toList];constructor
  .rw[Array.getElem?_eq_getElem (show 2*i<cur.size by omega),Option.map_some,if_pos (by omega),Nat.sub_zero,f1];rfl
  .rw[Array.getElem?_eq_getElem (show 2*i+1<cur.size by omega),Option.map_some,if_pos (by omega),Nat.sub_zero,f2];rfl
 .refine⟨rfl,rfl,rfl,?_,fun k hk aE=>(a1 k hk).trans (ajf aE)⟩;unfold sortWorldK grow putRowK;rw[Array.size_append,Xf];exact Nat.le_add_right _ _
theorem akR{P:Program}{t:TypeId}{k:Nat}(h:(P.info? t).map (·.size)=some k)(w:World):(Go.sizeOf t).run P w = .ok k w:=by
 cases ad:P.info? t with
 | none=>rw[ad] at h;cases h
 | some i =>
  rw[ad] at h;have U:i.size=k:=by simpa using h
  simp[Go.sizeOf,bt.tq ad,U]
theorem ak0(b c:Nat)(l:List o.Node)(w:World)(h:gP w b l)(aS:l.length<=1000000) :
  bt.bu Tryz.prog F.CW #[.slice (some ⟨b,0,none⟩) l.length c,.func (.func F.CX) #[] #[]] w fun _ w' => ∃r:List o.Node,r.Perm l/\r.Pairwise (fun x y => ¬o.mI y x)/\gP w' b r/\bt.Mod (fun i=>i=b) w w':=by
 obtain⟨cur,h1,U,ag⟩:=h.ex;have Ls:=AnyQ.slices_SortFunc Tryz.Yl 2 (fun w=>bt.w1 (t:=T.f) (b:=true) (by kernel_rfl) w) (fun w=>akR (t:=T.f) (by kernel_rfl) w) o.Node.enc (fun _=>rfl) (fun x v aT=>by simp[o.Node.enc] at aT;rcases aT with rfl | rfl<;>rfl) o.Ba ail F.CX #[] b 0 c l.toArray w
  (enters_of Tryz.func150 (by kernel_rfl) rfl) (fun _ _ _ _ x y=>alT x y _) ?_ (bt.cG h1) (by simp;omega)
 .change Calls Tryz.prog F.CW _ _ _ at Ls;simp only[List.size_toArray] at Ls;refine Calls.mono Ls ?_;rintro e w' ⟨rfl,tT,n,os,aN,ay,rfl⟩;have dm:tT.size=l.length:=by simpa using aN.1
  obtain⟨cX,c0⟩:=ak2 (n:=n) (os:=os) h dm;refine⟨_,rfl,tT.toList,?_,?_,cX,c0⟩
  .have:=aN.2.2
   rw[show tT.extract 0 l.length=tT from by rw[<-dm];simp,show l.toArray.extract 0 l.length=l.toArray from by simp] at this;simpa using this
  .rw[List.pairwise_iff_getElem];intro i j ad aR Am;have cO:i<tT.size:=by simpa using ad
   have eL:j<tT.size:=by simpa using aR
   have:=ay i j (Nat.zero_le _) Am (by omega)
   rw[getElem!_pos _ i cO,getElem!_pos _ j eL] at this;simp only[ltOf,decide_eq_false_iff_not] at this;rw[o.Iq] at this;simpa using this
 .unfold HoldsK Holds;intro j aR;rw[size_flatK] at aR;have rV:j<2*l.length:=by simp at aR;omega
  have ad:j / 2<l.length:=by omega
  obtain⟨f1,f2⟩:=Tm (d:=l.toArray) (i:=j / 2) (by simpa using ad);obtain⟨g1,g2⟩:=ag (j / 2) ad;have s3:w.frozen? ⟨b,0+j,none⟩=false:=by simp[World.frozen?,h1]
  refine⟨?_,s3⟩;rw[Nat.zero_add];rcases Nat.mod_two_eq_zero_or_one j with e | e
  .have pW:2*(j / 2)=j:=by omega
   rw[pW] at f1 g1;rw[f1];exact Ck h1 (by simpa using g1)
  .have pW:2*(j / 2)+1=j:=by omega
   rw[pW] at f2 g2;rw[f2];exact Ck h1 (by simpa using g2)
end Go.Proofs.R
end