/- Parts. -/
import Derived.Test.YtfdohkdifdemeaaGreatDoorQdup
import Derived.Shelf.SlSortCmp.WholeK
import Derived.Shelf.SlSortCmp.NoneTotal
set_option linter.all false
set_option maxRecDepth 8000
set_option maxHeartbeats 16000000
section
namespace o
open Go
def lost(m:Model)(s t:List Int)(c:dI):List Int:=mu t (df m (comm c.cb).2.toNat) (chanOf m s (comm c.cb).2.toNat)
structure k5(m:Model)(s:List Int)(ref gL:Int)(t:List Int)(e:Int):Prop where
 f0:¬(oT m s/\Told m ref)->t=[]/\e=2
 f1:∀q p k,oT m s->gl m ref q p k->¬(0<=gL/\gL<ways (cL m p k) m.aM)->t=[]/\e=2
 f2:∀q p k,oT m s->gl m ref q p k->0<=gL/\gL<ways (cL m p k) m.aM->nE m s q (cL m p k)=none->t=[]/\e=15
 f3:∀q p k u,oT m s->gl m ref q p k->0<=gL/\gL<ways (cL m p k) m.aM->nE m s q (cL m p k)=some u->t=(if gL=1 then lost m s u (cL m p k) else u)/\e=0
theorem k5.no{m:Model}{s:List Int}{ref gL:Int}(h:¬(oT m s/\Told m ref)):k5 m s ref gL [] 2 :=
 ⟨fun _=>⟨rfl,rfl⟩,fun _ _ _ ba aw=>absurd ⟨ba,aw.told⟩ h,fun _ _ _ ba aw=>absurd ⟨ba,aw.told⟩ h,fun _ _ _ _ ba aw=>absurd ⟨ba,aw.told⟩ h⟩
theorem k5.WR{m:Model}{s:List Int}{ref gL:Int}{q p k:Nat}(aw:gl m ref q p k)(ba:oT m s)(h:¬(0<=gL/\gL<ways (cL m p k) m.aM)):k5 m s ref gL [] 2 :=
 ⟨fun aD=>absurd ⟨ba,aw.told⟩ aD,fun _ _ _ _ _ _=>⟨rfl,rfl⟩,fun hC hN k' _ mi hw=>(by obtain⟨rfl,rfl,rfl⟩:=aw.one mi;exact absurd hw h),fun hC hN k' _ _ mi hw=>by obtain⟨rfl,rfl,rfl⟩:=aw.one mi;exact absurd hw h⟩
theorem k5.none{m:Model}{s:List Int}{ref gL:Int}{q p k:Nat}(aw:gl m ref q p k)(ba:oT m s)(hw:0<=gL/\gL<ways (cL m p k) m.aM)(h:nE m s q (cL m p k)=Option.none):k5 m s ref gL [] 15 :=
 ⟨fun aD=>absurd ⟨ba,aw.told⟩ aD,fun hC hN k' _ mi aD=>(by obtain⟨rfl,rfl,rfl⟩:=aw.one mi;exact absurd hw aD),fun _ _ _ _ _ _ _=>⟨rfl,rfl⟩,fun hC hN k' u _ mi _ hu=>by obtain⟨rfl,rfl,rfl⟩:=aw.one mi;rw[h] at hu;cases hu⟩
theorem k5.some{m:Model}{s u:List Int}{ref gL:Int}{q p k:Nat}(aw:gl m ref q p k)(ba:oT m s)(hw:0<=gL/\gL<ways (cL m p k) m.aM)(h:nE m s q (cL m p k)=Option.some u):k5 m s ref gL (if gL=1 then lost m s u (cL m p k) else u) 0 :=
 ⟨fun aD=>absurd ⟨ba,aw.told⟩ aD,fun hC hN k' _ mi aD=>(by obtain⟨rfl,rfl,rfl⟩:=aw.one mi;exact absurd hw aD),fun hC hN k' _ mi _ hu=>(by obtain⟨rfl,rfl,rfl⟩:=aw.one mi;rw[h] at hu;cases hu),
  fun hC hN k' jJ _ mi _ hu=>by obtain⟨rfl,rfl,rfl⟩:=aw.one mi;rw[h] at hu;injection hu with hu;subst hu;exact⟨rfl,rfl⟩⟩
theorem YU{c:dI}{l:List dv}(h:1<ways c l):∃j:Nat,(comm c.cb).2=j/\j<l.length/\(comm c.cb).1=4:=by
 unfold ways at h;split at h
 .rename_i aJ;cases aD:nth l (comm c.cb).2 with
  | none=>rw[aD] at h;simp at h
  | some x =>
   obtain⟨ak,_,h1⟩:=uU aD;exact⟨(comm c.cb).2.toNat,by omega,h1,aJ⟩
 .omega
theorem abt{m:Model}{s t:List Int}{ref:Int}{q p k:Nat}(cf:gl m ref q p k)(aK:Fits m s)(h:nE m s q (cL m p k)=some t):t.length=eA m :=
 (R5 cf.inst.aG rfl cf.cin aK.len h).1.trans aK.len
end o
namespace Go.Proofs.R
open Go Go.RowKit bt
theorem ajD(cs:List Value)(v:Value)(m:o.Model)(s:List Int)(w:World)(h:pF w cs m)(bq:o.eF m)(ay:eT w v s) :
  bu Tryz.prog F.EH #[.agg cs.toArray,v] w fun u w'=>(∃t:Bool,u = .bool t/\(t=true↔o.Fits m s))/\Ext w w':=by
 obtain⟨gp,d0,eO,d1,fz,d2,gb,d3,gA,d4,cz,bS,b9,c1,cn,c2,cp,bP,cA,bX,cU,ci,iI,kP,rfl,dP,o3,_⟩:=h.form;obtain⟨os,Cg,rfl,Ig⟩:=ay.form;refine bL E.EH ?_;refine bG ?_;refine ae ?_;intro av cr dQ aB aP;refine ae ?_;refine K.AD [.slice gp m.scalars.length d0,.slice eO m.vars.length d1,.slice fz m.aM.length d2,.slice gb m.procs.length d3,.slice gA m.props.length d4] aP rfl rfl ?_;refine ae ?_;refine K.AD [.slice cz (o.layout m).vars.length bS,.slice b9 (o.layout m).aM.length c1,.slice cn (o.layout m).insts.length c2,.int .i64 (o.layout m).cells,.slice cp (o.layout m).bf.length bP,.slice cA (o.layout m).ad.length bX] aP rfl rfl ?_;refine ae ?_;refine K.call (Nz _ _ m _ s av (dP.ext aB) (o3.ext aB) bq (ay.ext Flat.ext aB)) ?_;rintro _ aU ⟨⟨t,rfl,aL⟩,aA⟩;refine ae ?_;exact⟨⟨t,rfl,aL⟩,aB.trans aA⟩
theorem ajA(cs:List Value)(v:Value)(m:o.Model)(s:List Int)(ref gL:Int)(w:World)(h:o.ec w cs m)(aZ:m.cQ)(ay:eT w v s) :
  bu Tryz.prog F.EF #[.agg cs.toArray,v,.int .i64 ref,.int .i64 gL] w fun u w'=>(∃nW t e,u = .tuple #[nW,.int .i64 e]/\eT w' nW t/\o.k5 m s ref gL t e)/\Ext w w':=by
 have dP:=h;obtain⟨cz,bS,b9,c1,cn,c2,cp,bP,cA,bX,rfl,ak,h1,U,ag,aJ,_⟩:=h.form;obtain⟨os,Cg,rfl,Ig⟩:=ay.form;refine bL E.EF ?_;refine bG ?_;refine ae ?_;intro av cM fM aB bA;refine ae ?_;refine K.call (ajB _ m av (dP.ext aB) aZ) ?_;rintro _ aU ⟨hO,aA⟩;replace bA:=aA.obj bA;have a6:=aB.trans aA;rcases hO with ⟨hk,rfl⟩ | ⟨hk,zs,rfl,iO⟩
 .unfold Y7;refine ae ?_;intro bb Gi G7 ax hJ;refine ae ?_;intro bp aN;refine ae ?_;exact⟨⟨_,[],2,rfl,bF.nil,o.k5.no fun aD=>hk aD.1.1⟩,(a6.trans ax).trans aN⟩
 have bq:=o.lZ hk;have KY:=iO;obtain⟨gp,d0,eO,d1,fz,d2,gb,d3,gA,d4,Ot,g0,IT,g1,w1,g2,al3,g3,al4,g4,cU,ci,iI,kP,rfl,_⟩:=iO.form;refine ae ?_;intro bb Gi G7 ax hJ;replace bA:=ax.obj bA;have ad5:=KY.ext ax;have bK:=a6.trans ax;refine ae ?_;intro bp aN;replace bA:=aN.obj bA;replace hJ:=aN.obj hJ;have KZ:=ad5.ext aN;have b0:=bK.trans aN;refine ae ?_;refine K.call (ajD _ _ m s bp KZ bq (ay.ext Flat.ext b0)) ?_;rintro _ bR ⟨⟨t,rfl,aL⟩,aW⟩;have TP:=KZ.ext aW;have b3:=b0.trans aW;refine⟨aW,?_⟩;cases t with
 | false =>
  refine ae ?_;exact⟨⟨_,[],2,rfl,bF.nil,o.k5.no fun aD=>by have:=aL.2 aD.1.2;cases this⟩,b3⟩
 | true =>
  have dr:o.oT m s:=⟨hk,aL.1 rfl⟩;refine ae ?_;apply K.cond<;>intro g1
  .refine ae ?_;exact⟨⟨_,[],2,rfl,bF.nil,o.k5.no fun aD=>by have:=aD.2.2;omega⟩,b3⟩
  refine ae ?_;apply K.cond<;>intro g2
  .refine ae ?_;exact⟨⟨_,[],2,rfl,bF.nil,o.k5.no fun aD=>by have:=aD.2.2;omega⟩,b3⟩
  obtain⟨q,p,k,cf⟩:=o.tM (m:=m) (ref:=ref) ⟨hk,by omega,by omega⟩;refine ae ?_;apply K.cond<;>intro g3
  .refine ae ?_;exact⟨⟨_,[],2,rfl,bF.nil,o.k5.WR cf dr (by omega)⟩,b3⟩
  refine ae ?_;refine K.call (Ny _ m ref q p k bR TP cf) ?_;rintro _ bY ⟨⟨fB,ee,rfl,kz,iE⟩,a8⟩;have cV:=b3.trans a8;refine⟨aW.trans a8,?_⟩;refine ae ?_;refine K.call (akx _ _ _ _ m.aM bY (iE.ext a8) (U.ext cV)) ?_;rintro _ cd ⟨rfl,bJ⟩;have dw:=cV.trans bJ;have Ko:=(aW.trans a8).trans bJ;replace bA:=Ko.obj bA;replace hJ:=Ko.obj hJ;have K0:=KZ.ext Ko;obtain⟨apY,agu⟩:∃x,x=o.ways (o.cL m p k) m.aM:=⟨_,rfl⟩;rw[<-agu];refine ae ?_;apply K.cond<;>intro g4
  .refine ae ?_;exact⟨⟨_,[],2,rfl,bF.nil,o.k5.WR cf dr (by omega)⟩,dw⟩
  have hw:0<=gL/\gL<o.ways (o.cL m p k) m.aM:=by omega
  have jC:=ay.ext Flat.ext dw;refine ae ?_;refine K.call (ajE _ _ m s ref q p k cd K0 aZ jC dr.2 cf) ?_;rintro u dg ⟨fX,bV⟩;replace bA:=bV.obj bA;replace hJ:=bV.obj hJ;have dW:=dw.trans bV;rcases fX with ⟨hz,rfl⟩ | ⟨t,nW,lW,rfl,mq⟩
  .refine ae ?_;exact⟨⟨_,[],15,rfl,bF.nil,o.k5.none cf dr hw hz⟩,dW⟩
  obtain⟨A5,zL,rfl,_⟩:=mq.form;have wo:=o.k5.some cf dr hw lW;refine ae ?_;apply K.cond<;>intro g5;rotate_left
  .rw[if_neg g5] at wo;refine ae ?_;exact⟨⟨_,t,0,rfl,r7 mq,wo⟩,dW⟩
  rw[if_pos g5] at wo;obtain⟨j,aR,p0,UF⟩:=o.YU (c:=o.cL m p k) (l:=m.aM) (by omega);have cw:=o.abt cf dr.2 lW;have eM:(o.chanOf m s j).length=1+o.ju m j:=o.tL (by rw[dr.2.len];exact o.oY p0);unfold o.lost at wo;rw[aR,Int.toNat_natCast] at wo;refine ae ?_;refine K.call (Ny _ m ref q p k dg (K0.ext bV) cf) ?_;rintro _ ea ⟨⟨fB,ee,rfl,kz,iE⟩,b1⟩;have iz:=dW.trans b1;replace hJ:=b1.obj hJ;refine ae ?_;refine K.call (Xu _ _ _ ea (iE.ext b1)) ?_;rintro _ e3 ⟨rfl,cv⟩;have jv:=iz.trans cv;replace hJ:=cv.obj hJ;rw[aR];have ad4:=(K0.ext bV).ext (b1.trans cv);refine ae ?_;intro gg fH;replace hJ:=fH.obj hJ;have sC:=jv.trans fH;have TO:=ad4.ext fH;refine ae ?_;refine K.call (ND _ _ m s j gg TO bq (ay.ext Flat.ext sC) dr.2.len p0) ?_;rintro u lI ⟨hu,fx⟩;obtain⟨uV,sA,rfl,_⟩:=hu.form;refine⟨fx,?_⟩;refine ae ?_;refine K.call (NM _ _ _ m t (o.chanOf m s j) j lI (TO.ext fx) bq ((r7 mq).ext Flat.ext (((b1.trans cv).trans fH).trans fx)) hu cw p0 eM) ?_;rintro u nn ⟨U4,ke⟩;obtain⟨Na,Kd,rfl,_⟩:=U4.form;refine ae ?_;exact⟨⟨_,_,0,rfl,r7 U4,wo⟩,(sC.trans fx).trans ke⟩
end Go.Proofs.R
end
section
namespace o
open Go
theorem RF{s:Scope}:∀(l:List Act) (i:Nat) (t:Bool),(j6 s l i t).2=0->∀k (h:k<l.length),jN l[k] s=0
 | [],_,_,_,k,h=>by simp at h
 | a :: r,i,t,h,k,hk=>by
  unfold j6 at h;by_cases h1:(gK a&&t)=true
  .rw[if_pos h1] at h;cases h
  rw[if_neg h1] at h;by_cases U:jN a s≠0
  .rw[if_pos U] at h;exact absurd h U
  rw[if_neg U] at h;cases k with
  | zero=>simpa using U
  | succ k=>exact RF r _ _ h k (by simpa using hk)
structure Zj(m:Model)(p:Nat)(c:dI):Prop where
 act:∀k (h:k<c.cb.length),∀aO:p<m.procs.length,jN c.cb[k] (inner m.procs[p] (eN m))=0
 to:∀aO:p<m.procs.length,0<=c.to/\c.to<m.procs[p].cx
theorem abx{m:Model}(h:(check m).cX=0){p k:Nat}(aO:p<m.procs.length)(hk:k<m.procs[p].cI.length):Zj m p m.procs[p].cI[k]:=by
 obtain⟨eO,_,_⟩:=Is (J2 h);obtain⟨_,dc,_,_⟩:=zR aO (eO p aO);obtain⟨_,_,iH⟩:=Nh dc;have e:gJ m (p:Int)=inner m.procs[p] (eN m):=by
  unfold gJ;rw[iT (by omega) (by omega)];rfl
 have bg:=(Gw _ _ iH k hk).1;rw[e] at bg;unfold ix at bg;by_cases h1:head m.procs[p].cI[k] m.procs[p].cx≠0
 .rw[if_pos h1] at bg;exact absurd bg h1
 rw[if_neg h1] at bg;have bg:(j6 (inner m.procs[p] (eN m)) m.procs[p].cI[k].cb 0 false).2=0:=by
  split at bg
  .rename_i dm;exact absurd bg dm.2
  .exact bg
 refine⟨fun j aR _=>RF _ _ _ bg j aR,fun _=>?_⟩;have h1:head m.procs[p].cI[k] m.procs[p].cx=0:=by simpa using h1
 unfold head at h1;by_cases dH:isName m.procs[p].cI[k].name=false
 .rw[if_pos dH] at h1;cases h1
 rw[if_neg dH] at h1;by_cases dM:m.procs[p].cI[k].from_<0\/m.procs[p].cx<=m.procs[p].cI[k].from_\/m.procs[p].cI[k].to<0\/m.procs[p].cx<=m.procs[p].cI[k].to
 .rw[if_pos dM] at h1;cases h1
 omega
theorem VH{m:Model}:∀(l:List dz) (i:Nat),l=m.procs.drop i->∀x∈iR m l i,∃(p:Nat) (h:p<m.procs.length),x.proc=p/\(m.procs[p].over≠0->x.elem<=elems m m.procs[p])
 | [],_,_,x,au=>by simp[iR] at au
 | p :: r,i,h,x,au=>by
  have ad:i<m.procs.length:=by
   apply Classical.byContradiction;intro aD;rw[List.drop_eq_nil_of_le (by omega)] at h;cases h
  rw[List.drop_eq_getElem_cons ad] at h;injection h with h1 U
  simp only[iR,List.mem_append] at au;rcases au with (au | au) | au
  .unfold iq at au;split at au
   .rename_i ak;rw[List.mem_singleton] at au;subst au;exact⟨i,ad,rfl,fun aD=>absurd (h1 ▸ ak) aD⟩
   .cases au
  .unfold iU at au;obtain⟨k,hk,rfl⟩:=List.mem_map.1 au
   have:=List.mem_range.1 hk
   refine⟨i,ad,rfl,fun _=>?_⟩;rw[<-h1];simp only;omega
  .exact VH r (i+1) U x au
theorem gr.ah6{m:Model}{q p:Nat}(h:gr m q p):(m.procs[p]'(h.aO)).over≠0->((insts m)[q]'(h.aG)).elem<=elems m (m.procs[p]'(h.aO)):=by
 obtain⟨hN,aos,e,h1⟩:=VH m.procs 0 (by simp) _ (List.getElem_mem h.aG);have U:=h.eq;have a6:((hN:Nat):Int)=p:=by
  have:((insts m)[q]'(h.aG)).proc=(hN:Int):=e
  rw[<-this,U]
 have:hN=p:=by omega
 subst this;exact h1
theorem ab6{m:Model}{p:dz}(h:elems m p≠0):(elems m p:Int)=size p.over m.scalars:=by
 unfold elems at h ⊢;cases aD:nth m.scalars (p.over - 1) with
 | none=>rw[aD] at h;exact absurd rfl h
 | some x =>
  rw[aD] at h;obtain⟨ak,h1,_⟩:=uU aD;simp only at h ⊢;unfold size;rw[h1];split at h
  .exact absurd rfl h
  .rename_i dm;rw[if_neg dm];simp only;rw[if_pos (by omega)];omega
theorem ag8{x:Node}{s:Scope}(h:x.op=5)(h1:1<=s.self/\s.self<=s.scalars.length):kind [x] s=(1+s.self,0):=by
 have aD:e0 x.op=0:=by rw[h];decide
 have aK:e5 s x []=(1+s.self,0):=by
  unfold e5;rw[h];simp[gI,il,lC,h,h1]
 unfold kind ko eS;simp only[List.length_singleton,stepG,aD,aK];simp[eS]
theorem ZP{m:Model}{p:Nat}(aO:p<m.procs.length){a:Act}(h:jN a (inner m.procs[p] (eN m))=0)(U:a.kind=2)(ay:re a=true):∃v,m.vars[a.to.toNat]? = some v/\v.over=m.procs[p].over:=by
 obtain⟨x,au,bg⟩:∃x,a.index=[x]/\x.op=5:=by
  unfold re at ay;split at ay
  .rename_i x au;exact⟨x,au,by simpa using ay⟩
  .cases ay
 have eU:=JD h;have HL:=((eU.item U).2.2.node 0 (by rw[au];simp)).1.self (by simp[au,bg]);unfold jN at h;rw[if_pos (by omega)] at h;rw[if_neg (by omega:¬a.kind=3)] at h;cases bw:declared (inner m.procs[p] (eN m)).vars a.to (inner m.procs[p] (eN m)) with
 | none=>rw[bw] at h;cases h
 | some wO =>
  rw[bw] at h;obtain⟨v,k⟩:=wO;obtain⟨_,d2,_⟩:=Ke bw;simp only at h;by_cases ag:(v.over≠0)≠(a.kind=2)
  .rw[if_pos ag] at h;cases h
  rw[if_neg ag] at h;by_cases aJ:a.kind=2/\asked a.index (1+v.over) (inner m.procs[p] (eN m))≠0
  .rw[if_pos aJ] at h;exact absurd h aJ.2
  have bO:asked a.index (1+v.over) (inner m.procs[p] (eN m))=0:=Classical.byContradiction fun aD=>aJ ⟨U,aD⟩;refine⟨v,d2,?_⟩;unfold asked at bO;rw[au,ag8 bg HL] at bO;simp only[ne_eq,not_true_eq_false,if_false] at bO;split at bO
  .cases bO
  .rename_i dm
   have:(inner m.procs[p] (eN m)).self=m.procs[p].over:=rfl
   omega
theorem agU{m:Model}{q p:Nat}(bB:gr m q p){v:Nat}(aT:v<m.vars.length){own:Bool}(bc:own=true->m.vars[v].over=(m.procs[p]'(bB.aO)).over/\(m.procs[p]'(bB.aO)).over≠0):∀x∈oB m q v own,0<=x/\x<eA m:=fun x au=>by
 have h1:=ts aT;have U:=rW aT;have ag:=o0 m;unfold oB at au;cases own with
 | false =>
  rw[if_neg (by simp)] at au
  have:=nS.1 au
  omega
 | true =>
  obtain⟨b9,cn⟩:=bc rfl;rw[if_pos rfl] at au;have au:=nS.1 au;have bU:=bB.elem cn;have a6:=bB.ah6 cn;have bK:=ab6 (m:=m) (p:=m.procs[p]'(bB.aO)) (by omega);have b0:=Cy bB.aG;have b3:cells m.vars[v] m.scalars=size (m.procs[p]'(bB.aO)).over m.scalars:=by unfold cells;rw[if_neg (by omega),b9]
  omega
theorem ZN{m:Model}{q p:Nat}(bB:gr m q p){a:Act}(fF:jN a (inner (m.procs[p]'(bB.aO)) (eN m))=0):∀x∈mP m q a,0<=x/\x<eA m:=fun x au=>by
 have bo:=JD fF;have wq:=bB.room;have ag:=o0 m;unfold mP at au;by_cases h1:a.kind=1
 .rw[if_pos h1] at au;obtain⟨_,v,aT,iF⟩:=bo.set h1;have jD:a.to.toNat<m.vars.length:=(List.getElem?_eq_some_iff.1 aT).1;have fQ:m.vars[a.to.toNat]=v:=(List.getElem?_eq_some_iff.1 aT).2
  have:=ts jD
  have e:cells m.vars[a.to.toNat] m.scalars=1:=by rw[fQ];unfold cells;rw[if_pos iF]
  have:=nS.1 au
  omega
 rw[if_neg h1] at au;by_cases U:a.kind=2
 .rw[if_pos U] at au;have jD:a.to.toNat<m.vars.length:=(bo.item U).2.1;refine agU bB jD (fun ay=>?_) x au;obtain⟨v,aT,bc⟩:=ZP bB.aO fF U ay;obtain⟨_,fQ⟩:=List.getElem?_eq_some_iff.1 aT;obtain⟨y,b8,bg⟩:∃y,a.index=[y]/\y.op=5:=by
   unfold re at ay;split at ay
   .rename_i y b8;exact⟨y,b8,by simpa using ay⟩
   .cases ay
  have HL:=((bo.item U).2.2.node 0 (by rw[b8];simp)).1.self (by simp[b8,bg])
  have:(inner (m.procs[p]'(bB.aO)) (eN m)).self=(m.procs[p]'(bB.aO)).over:=rfl
  exact⟨by rw[fQ];exact bc,by omega⟩
 rw[if_neg U] at au;by_cases xX:a.kind=3
 .rw[if_pos xX] at au;have bg:a.to.toNat<(m.procs[p]'(bB.aO)).vars.length:=(bo.loc xX).2
  have:=nS.1 au
  omega
 rw[if_neg xX] at au;by_cases aJ:a.kind=4
 .rw[if_pos aJ] at au
  have:=oY (m:=m) (bo.chan (.inl aJ)).2
  have:=nS.1 au
  omega
 rw[if_neg aJ] at au;by_cases bg:a.kind=5
 .rw[if_pos bg] at au;have bO:a.loc.toNat<(m.procs[p]'(bB.aO)).vars.length:=(bo.recv bg).2
  have:=oY (m:=m) (bo.chan (.inr bg)).2
  rcases List.mem_append.1 au with au | au
  .have:=nS.1 au;omega
  .have:=nS.1 au;omega
 .rw[if_neg bg] at au;cases au
theorem write_lt{m:Model}{ref:Int}{q p k:Nat}(cf:gl m ref q p k):∀x∈mB m q (cL m p k) (cL m p k).cb.length,0<=x/\x<eA m:=fun x au=>by
 have bB:=cf.inst;have UX:=abx cf.ok cf.at_.aO cf.at_.hk;rw[<-xG cf.at_.aO cf.at_.hk] at UX;have wq:=bB.room;unfold mB at au;rw[List.take_length] at au;rcases List.mem_append.1 au with au | au
 .have:=nS.1 au;omega
 .obtain⟨a,bo,Mu⟩:=List.mem_flatMap.1 au;obtain⟨j,aR,rfl⟩:=List.mem_iff_getElem.1 bo;exact ZN bB (UX.act j aR bB.aO) x Mu
theorem J3{m:Model}(h:(check m).cX=0):(data m).cX=0/\(lE m).cX=0/\(oF m).cX=0:=by
 unfold check at h;by_cases h1:(data m).cX≠0
 .rw[if_pos h1] at h;exact absurd h h1
 rw[if_neg h1] at h;by_cases U:(lE m).cX≠0
 .rw[if_pos U] at h;exact absurd h U
 rw[if_neg U] at h;exact⟨by simpa using h1,by simpa using U,h⟩
def p6:List Bool->Nat
 | []=>0
 | b :: r=>b.toNat+2*p6 r
theorem MY:∀l:List Bool,p6 l<2 ^ l.length
 | []=>Nat.one_pos
 | b :: r=>by
  have eV:=MY r;have aC:b.toNat<=1:=by cases b<;>decide
  simp only[p6,List.length_cons,Nat.pow_succ];omega
theorem MX:∀(l:List Bool) (b:Bool),p6 (l++[b])=p6 l+b.toNat*2 ^ l.length
 | [],b=>by simp[p6]
 | c :: r,b=>by
  have eV:=MX r b;simp only[List.cons_append,p6,eV,List.length_cons,Nat.pow_succ];rw[Nat.mul_add,<-Nat.mul_assoc,Nat.mul_comm (b.toNat) (2 ^ r.length*2),Nat.mul_comm (2*b.toNat),Nat.mul_comm (2 ^ r.length) 2];rw[Nat.mul_comm 2 (2 ^ r.length),Nat.mul_assoc,<-Nat.add_assoc]
theorem ahV(l:List Bool):p6 l ||| 2 ^ l.length=p6 (l++[true]):=by
 rw[MX,Nat.or_comm];have h:=Nat.two_pow_add_eq_or_of_lt (MY l) 1;rw[Nat.mul_one] at h;rw[<-h];simp[Nat.add_comm]
theorem ahW(l:List Bool):p6 l=p6 (l++[false]):=by rw[MX];simp
def yT(m:Model)(s:List Int)(e:List Node):Bool:=decide ((eval e (cZ m s (-1))).2=0/\(eval e (cZ m s (-1))).1≠0)
def u7(m:Model)(s:List Int):List Bool:=m.props.map fun p=>yT m s p.expr
def told(m:Model)(s:List Int):Nat:=p6 (u7 m s)
def qk(m:Model)(s:List Int)(k:Nat):Nat:=p6 ((u7 m s).take k)
theorem Yx(m:Model)(s:List Int):(u7 m s).length=m.props.length:=by simp[u7]
theorem alJ(m:Model)(s:List Int):qk m s m.props.length=told m s:=by
 unfold qk told;rw[List.take_of_length_le (by rw[Yx];exact Nat.le_refl _)]
theorem YA{m:Model}{s:List Int}{k:Nat}(h:k<m.props.length):qk m s (k+1)=if yT m s m.props[k].expr then qk m s k ||| 2 ^ k else qk m s k:=by
 have aS:k<(u7 m s).length:=by rw[Yx];exact h
 have hk:((u7 m s).take k).length=k:=by rw[List.length_take];omega
 have aZ:(u7 m s)[k]=yT m s m.props[k].expr:=by simp[u7]
 unfold qk;rw[List.take_succ_eq_append_getElem aS,aZ];cases yT m s m.props[k].expr with
 | true =>
  rw[if_pos rfl,<-ahV,hk]
 | false =>
  rw[if_neg (by simp),<-ahW]
theorem alK(m:Model)(s:List Int)(k:Nat):qk m s k<2 ^ k:=by
 refine Nat.lt_of_lt_of_le (MY _) (Nat.pow_le_pow_right (by decide) ?_);rw[List.length_take];omega
noncomputable def rV(m:Model)(s:List Int):Nat×Int:=open Classical in if (check m).cX≠0 then (0,2) else if Fits m s then (told m s,0) else (0,3)
theorem Xb{m:Model}(h:(check m).cX=0):m.props.length<=8:=by
 obtain⟨_,_,ag⟩:=J3 h;have ba:=It ag;refine Classical.byContradiction fun aD=>?_;have dE:=ba 8 (by omega);rw[CE (by omega),if_pos (by omega)] at dE;cases dE
theorem Nj{m:Model}(h:(check m).cX=0){j:Nat}(aR:j<m.props.length):rp (eN m) m.props[j].expr:=by
 obtain⟨_,_,ag⟩:=J3 h;have dE:=It ag j aR;rw[CE aR] at dE;refine V3 (Classical.byContradiction fun aD=>?_)
 repeat' split at dE
 all_goals first | omega | (exact absurd dE aD) | skip
 all_goals contradiction
theorem ahk{m:Model}{s:List Int}(h:¬(check m).cX=0):rV m s=(0,2):=by unfold rV;rw[if_pos h]
theorem ahl{m:Model}{s:List Int}(h:(check m).cX=0)(aK:¬Fits m s):rV m s=(0,3):=by unfold rV;rw[if_neg (by simpa using h),if_neg aK]
theorem ML{m:Model}{s:List Int}(h:(check m).cX=0)(aK:Fits m s):rV m s=(told m s,0):=by unfold rV;rw[if_neg (by simpa using h),if_pos aK]
theorem alN{m:Model}{s t:List Int}(h:(check m).cX=0)(bo:∀p∈m.props,qn s t (wN m p.expr)):told m s=told m t:=by
 unfold told u7;congr 1;refine List.map_congr_left fun p aO=>?_;obtain⟨j,aR,rfl⟩:=List.mem_iff_getElem.1 aO;unfold yT;rw[aco (sc:=eN m) rfl (Nj h aR) (bo _ aO)]
def qh(m:Model):List Int:=m.props.flatMap fun p=>wN m p.expr
def ni(m:Model):List Bool:=if (check m).cX=0 then (List.range (eA m)).map fun(c:Nat)=>decide ((c:Int)∈qh m) else []
structure nA(n:Nat)(L:List Int)(al:List Bool):Prop where
 len:al.length=n
 at_:∀(c:Nat) (h:c<al.length),al[c]=decide ((c:Int)∈L)
theorem nA.start(n:Nat):nA n [] (List.replicate n false):=⟨by simp,fun c h=>by simp⟩
theorem nA.put{n c:Nat}{L:List Int}{al:List Bool}(h:nA n L al)(aw:c<n):nA n (L++[(c:Int)]) (al.set c true):=by
 refine⟨by rw[List.length_set];exact h.len,fun d bw=>?_⟩;rw[List.length_set] at bw;rw[List.getElem_set];by_cases e:c=d
 .subst e;simp
 .rw[if_neg e,h.at_ d bw]
  have:¬(d:Int)=(c:Int):=by omega
  simp[this]
theorem nA.congr{n:Nat}{L mH:List Int}{al:List Bool}(h:nA n L al)(e:∀x,x∈L↔x∈mH):nA n mH al:=⟨h.len,fun c aw=>by rw[h.at_ c aw];exact decide_eq_decide.2 (e _)⟩
theorem nA.eq{n:Nat}{L:List Int}{al o':List Bool}(h:nA n L al)(bE:nA n L o'):al=o':=by
 refine List.ext_getElem (by rw[h.len,bE.len]) fun c h1 U=>by rw[h.at_ c h1,bE.at_ c U]
theorem nA.akP{m:Model}{al:List Bool}(hk:(check m).cX=0)(h:nA (eA m) (qh m) al):al=ni m:=by
 unfold ni;rw[if_pos hk];exact h.eq ⟨by simp,fun c aw=>by simp⟩
def iw(a b:List Int):Prop := ∃x,x∈a/\x∈b
instance(a b:List Int):Decidable (iw a b):=decidable_of_iff (a.any (fun x=>b.contains x)=true) (by simp[iw,List.any_eq_true])
theorem iw.comm{a b:List Int}:iw a b↔iw b a:=⟨fun⟨x,h1,U⟩=>⟨x,U,h1⟩,fun⟨x,h1,U⟩=>⟨x,U,h1⟩⟩
theorem iw.aif(b:List Int):¬iw [] b:=fun⟨_,h,_⟩=>by cases h
theorem iw.aih(a:List Int):¬iw a []:=fun⟨_,_,h⟩=>by cases h
theorem ajm{a:List Int}(bo:a.Pairwise (· < ·)){i:Nat}(h:i<a.length):∀x∈a.drop i,a[i]<=x:=fun x au=>by
 rw[List.drop_eq_getElem_cons h] at au;rcases List.mem_cons.1 au with e | e
 .omega
 .have aO:=bo.sublist (List.drop_sublist i a);rw[List.drop_eq_getElem_cons h,List.pairwise_cons] at aO
  have:=aO.1 x e
  omega
theorem YF{a b:List Int}(aC:b.Pairwise (· < ·)){i k:Nat}(h1:i<a.length)(U:k<b.length)(h:a[i]<b[k]):iw (a.drop i) (b.drop k)↔iw (a.drop (i+1)) (b.drop k):=by
 constructor
 .rintro⟨x,dc,dd⟩;rw[List.drop_eq_getElem_cons h1] at dc;rcases List.mem_cons.1 dc with e | e
  .have:=ajm aC U x dd;omega
  .exact⟨x,e,dd⟩
 .rintro⟨x,dc,dd⟩;exact⟨x,by rw[List.drop_eq_getElem_cons h1];exact List.mem_cons_of_mem _ dc,dd⟩
theorem Ft{a b:List Int}(bo:a.Pairwise (· < ·)){i k:Nat}(h1:i<a.length)(U:k<b.length)(h:b[k]<a[i]):iw (a.drop i) (b.drop k)↔iw (a.drop i) (b.drop (k+1)):=by
 rw[iw.comm,YF bo U h1 h,iw.comm]
theorem alR{a b:List Int}{i k:Nat}(h1:i<a.length)(U:k<b.length)(h:a[i]=b[k]):iw (a.drop i) (b.drop k) :=
 ⟨a[i],by rw[List.drop_eq_getElem_cons h1];exact List.mem_cons_self ..,by rw[List.drop_eq_getElem_cons U,h];exact List.mem_cons_self ..⟩
theorem alS{a b:List Int}{i k:Nat}(h:¬(i<a.length/\k<b.length)):¬iw (a.drop i) (b.drop k):=by
 by_cases h1:i<a.length
 .have e:b.drop k=[]:=List.drop_eq_nil_of_le (by omega);rw[e];exact iw.aih _
 .have e:a.drop i=[]:=List.drop_eq_nil_of_le (by omega);rw[e];exact iw.aif _
def qt(r w gw w':List Int):Prop:=iw w w'\/iw w gw\/iw r w'
instance(r w gw w':List Int):Decidable (qt r w gw w'):=inferInstanceAs (Decidable (_\/_\/_))
end o
end
section
namespace Go.Proofs.R
open Go Go.RowKit bt
theorem Ft(ee nV:Value)(a b:List Int)(w:World)(bo:eT w ee a)(aC:eT w nV b)(r8:a.Pairwise (· < ·))(q8:b.Pairwise (· < ·)) :
  bu Tryz.prog F.xv #[ee,nV] w fun v w'=>v = .bool (decide (o.iw a b))/\Ext w w':=by
 obtain⟨bl,gO,rfl,oC⟩:=bo.form;obtain⟨yJ,Gp,rfl,ha⟩:=aC.form;refine bL E.xv ?_;refine bG ?_;refine ae ?_;refine K.w3 [0,1] (fun x:Nat×Nat=>[(5,.int .i64 x.1),(6,.int .i64 x.2)]) (0,0) (fun x W=>Ext w W/\x.1<=a.length/\x.2<=b.length/\(o.iw a b↔o.iw (a.drop x.1) (b.drop x.2))) (fun x=>(a.length - x.1)+(b.length - x.2)) bx ⟨Ext.refl _,Nat.zero_le _,Nat.zero_le _,Iff.rfl⟩ ?_;rintro⟨i,k⟩ S av ⟨aB,ad,hk,hm⟩;dsimp only at ad hk hm ⊢;have no:¬(i<a.length/\k<b.length)->decide (o.iw a b)=false:=fun h=>decide_eq_false (by rw[hm];exact o.alS h);refine ae ?_;apply K.cond<;>intro g1;rotate_left
 .refine ae ?_;exact⟨by rw[no (by omega)],aB⟩
 refine ae ?_;apply K.cond<;>intro g2;rotate_left
 .refine ae ?_;exact⟨by rw[no (by omega)],aB⟩
 have ky:i<a.length:=by omega
 have de:k<b.length:=by omega
 obtain⟨kM,rfl⟩:=bo.addr (by omega);obtain⟨mO,rfl⟩:=aC.addr (by omega);have TQ:=bo.ext Flat.ext aB;have cR:=aC.ext Flat.ext aB;refine ae ?_;intro aU aA;have a6:=aB.trans aA;refine ae ?_;apply K.cond<;>intro g3
 .have yes:decide (o.iw a b)=true:=decide_eq_true (by rw[hm];exact o.alR ky de g3);refine ae ?_;exact⟨by rw[yes],a6⟩
 have anJ:=TQ.ext Flat.ext aA;have dQ:=cR.ext Flat.ext aA;clear TQ cR;refine ae ?_;intro bb ax;have bK:=a6.trans ax;refine ae ?_;apply K.cond<;>intro g4
 .refine ae ?_;exact⟨(i+1,k),⟨bk,bk,trivial⟩,⟨bK,by simp only;omega,hk,hm.trans (o.YF q8 ky de g4)⟩,by simp only;omega⟩
 .refine ae ?_;exact⟨(i,k+1),⟨bk,bk,trivial⟩,⟨bK,ad,by simp only;omega,hm.trans (o.Ft r8 ky de (by omega))⟩,by simp only;omega⟩
theorem WY(v1 v2 v3 v4:Value)(a b di ib:List Int)(w:World)(h1:eT w v1 a)(U:eT w v2 b)(ag:eT w v3 di)(aJ:eT w v4 ib)(r8:a.Pairwise (· < ·))(q8:b.Pairwise (· < ·))(ai1:di.Pairwise (· < ·))(W7:ib.Pairwise (· < ·)) :
  bu Tryz.prog F.zv #[.agg #[v1,v2],.agg #[v3,v4]] w fun v w'=>v = .bool (decide (o.qt a b di ib))/\Ext w w':=by
 obtain⟨b9,c1,rfl,_⟩:=h1.form;obtain⟨cn,c2,rfl,_⟩:=U.form;obtain⟨cp,bP,rfl,_⟩:=ag.form;obtain⟨cA,bX,rfl,_⟩:=aJ.form;refine bL E.zv ?_;refine bG ?_;refine ae ?_;intro av cr dQ aB aP;refine ae ?_;intro aU b5 fo aA bz;replace aP:=aA.obj aP;have a6:=aB.trans aA;refine ae ?_;refine K.call (Ft _ _ b ib aU (U.ext Flat.ext a6) (aJ.ext Flat.ext a6) q8 W7) ?_;rintro _ bb ⟨rfl,ax⟩;have bK:=a6.trans ax;replace aP:=ax.obj aP;replace bz:=ax.obj bz;refine ae ?_;apply K.cond<;>intro g1
 .have yes:decide (o.qt a b di ib)=true:=decide_eq_true (.inl g1);refine ae ?_;exact⟨by rw[yes],bK⟩
 refine ae ?_;refine K.call (Ft _ _ b di bb (U.ext Flat.ext bK) (ag.ext Flat.ext bK) q8 ai1) ?_;rintro _ bp ⟨rfl,aN⟩;have b0:=bK.trans aN;replace aP:=aN.obj aP;replace bz:=aN.obj bz;refine ae ?_;apply K.cond<;>intro g2
 .have yes:decide (o.qt a b di ib)=true:=decide_eq_true (.inr (.inl g2));refine ae ?_;exact⟨by rw[yes],b0⟩
 refine ae ?_;refine K.call (Ft _ _ a ib bp (h1.ext Flat.ext b0) (aJ.ext Flat.ext b0) r8 W7) ?_;rintro _ bR ⟨rfl,aW⟩;have b3:=b0.trans aW;have last:decide (o.qt a b di ib)=decide (o.iw a ib):=decide_eq_decide.2 ⟨fun h=>h.elim (fun h=>absurd h g1) fun h=>h.elim (fun h=>absurd h g2) id,fun h=>.inr (.inr h)⟩;refine ae ?_;exact⟨by rw[last],b3⟩
end Go.Proofs.R
end
section
namespace o
open Go
structure mM(m:Model)(n:Nat)(L:List (List Int×List Int)):Prop where
 len:L.length=n
 is:∀i (h:i<L.length),jq m i L[i].1 L[i].2
theorem mM.nil(m:Model):mM m 0 []:=⟨rfl,fun i h=>absurd h (Nat.not_lt_zero _)⟩
theorem mM.snoc{m:Model}{n:Nat}{L:List (List Int×List Int)}{a b:List Int}(h:mM m n L)(ba:jq m n a b):mM m (n+1) (L++[(a,b)]):=by
 refine⟨by rw[List.length_append,h.len];rfl,fun i ad=>?_⟩;by_cases e:i<L.length
 .rw[List.getElem_append_left e];exact h.is i e
 .have a6:i=L.length:=by simp at ad;omega
  subst a6;rw[List.getElem_append_right (Nat.le_refl _)];simp only[Nat.sub_self,List.getElem_cons_zero];rw[h.len];exact ba
theorem mM.eq{m:Model}{n:Nat}{L mH:List (List Int×List Int)}(h:mM m n L)(bE:mM m n mH):L=mH:=by
 refine List.ext_getElem (h.len.trans bE.len.symm) fun i h1 U=>?_;obtain⟨bU,a6⟩:=(h.is i h1).eq (bE.is i U);exact Prod.ext bU a6
end o
namespace Go.Proofs.R
open Go Go.RowKit bt
def FE(w:World)(cs:List Value)(x:List Int×List Int):Prop := ∃v1 v2,cs=[v1,v2]/\eT w v1 x.1/\eT w v2 x.2
def Jw(w:World)(a:Addr)(x:List Int×List Int):Prop := ∃v1 v2,fg w a [v1,v2]/\eT w v1 x.1/\eT w v2 x.2
theorem WV{w:World}{v:Value}{l:List Int}(h:eT w v l):v.oneCell'=true:=by
 obtain⟨al,c,rfl,_⟩:=h.form;rfl
instance:Rel Jw FE 2 where
 out:=fun⟨v1,v2,h,h1,U⟩=>⟨_,h,v1,v2,rfl,h1,U⟩
 oA:=fun h ⟨v1,v2,e,h1,U⟩=>⟨v1,v2,e ▸ h,h1,U⟩
 len:=fun⟨v1,v2,e,_⟩=>by rw[e];rfl
 one:=fun⟨v1,v2,e,h1,U⟩ u hu=>by
  rw[e] at hu;simp only[List.mem_cons,List.not_mem_nil,or_false] at hu;rcases hu with rfl | rfl
  .exact WV h1
  .exact WV U
 ext:=fun he ⟨v1,v2,e,h1,U⟩=>⟨v1,v2,e,h1.ext Flat.ext he,U.ext Flat.ext he⟩
theorem WN{w av:World}{v:Value}{l:List Int}(h:bs eB T.a 1 w.heap.size av v l):eH w (fun W=>eT W v l) av:=fun W m =>
 bs.iW (enc:=eB) (fun _=>rfl) (bs.mod h m fun k hk a=>by have:=(bs.lt h k hk).1;omega)
theorem YK(cs:List Value)(m:o.Model)(w:World)(h:o.ec w cs m)(aZ:m.cQ)(bc:hv w)(c7:o.vm m) :
  bu Tryz.prog F.zu #[.agg cs.toArray] w fun v w'=>(∃L base,o.mM m (o.refs m).length L/\w.heap.size<=base/\base<=w'.heap.size/\fs FE T.oW 2 base w' v L)/\Ext w w':=by
 have dP:=h;obtain⟨cz,bS,b9,c1,cn,c2,cp,bP,cA,bX,rfl,_⟩:=h.form;have kk:=o.wQ c7;refine bL E.zu ?_;refine bG ?_;refine ae ?_;intro av bC cR aB ao;refine ae ?_;refine K.call (E4 _ m av (dP.ext aB) c7) ?_;rintro j0 aU ⟨jk,aA⟩;obtain⟨iI,pM,rfl,_⟩:=jk.form;replace ao:=aA.obj ao;have a6:=aB.trans aA;have z2:=a6.size;clear jk;refine ae ?_;refine K.dj 10 (o.refs m).length [1,9] (fun u:Value=>[(3,u)]) (.slice none 0 0) (fun k u W => ∃L,o.mM m k L/\fs FE T.oW 2 aU.heap.size W u L/\Ext aU W) bx bx ⟨[],o.mM.nil m,fs.nil _ _ _ _ _,Ext.refl _⟩ ?_;rintro k u S bb hk ⟨L,jT,dr,ax⟩;have bK:=a6.trans ax;have gV:=ax.obj ao;refine ae ?_;apply K.cond<;>intro g1;rotate_left
 .have jz:k=(o.refs m).length:=by omega
  rw[jz] at jT;refine ae ?_;exact⟨⟨L,_,jT,z2,ax.size,dr⟩,bK⟩
 have de:k<(o.refs m).length:=by omega
 have TM:=jT.len;obtain⟨uV,sA,rfl,_⟩:=dr.form;refine ae ?_;refine K.call (Qt _ m k bb (dP.ext bK) aZ (bc.ext bK)) ?_;rintro _ bp ⟨⟨ee,nV,a,b,rfl,iE,L1,G2⟩,aN⟩;have aD:=((WN iE).and (WN L1)).imp (q:=fun W=>FE W [ee,nV] (a,b)) fun W h=>⟨ee,nV,rfl,h.1,h.2⟩;obtain⟨bl,gO,rfl,_⟩:=iE.form;obtain⟨yJ,Gp,rfl,_⟩:=L1.form;have z3:=ax.size;have z4:=aN.size;clear iE L1;refine ae ?_;intro bR am8 kR aW cD;have z5:=aW.size;have CX:=(dr.ext aN).ext aW;refine ae ?_;refine K.zq CX (hl cD) ((eH.ext aD aW z4).own dr z3) rfl (by simp[Value.oneCell']) (by omega) (by unfold maxLen;omega) (by omega) fun ck bY G1 jU=>?_;have a8:=CX.mc ((ax.trans aN).trans aW) jU (Nat.le_refl _);refine ae ?_;exact⟨de,bk,_,⟨rfl,trivial⟩,_,jT.snoc G2,G1,a8⟩
end Go.Proofs.R
end
section
namespace o
open Go
def Jv(s:Scope)(x:Node):Prop:=x.op=3->∃v,s.vars[x.n.toNat]? = some v/\v.over≠0
theorem ahz{s:Scope}{x:Node}{top:Int}(h:(il x s top).2=0):Jv s x:=by
 intro bK;unfold il at h;rw[if_neg (by omega),if_pos (by omega)] at h;simp only at h;by_cases aG:(fP (if x.op=4 then s.locals else s.vars) x.n s).2.2=false
 .rw[if_pos aG] at h;cases h
 rw[if_neg aG] at h;obtain⟨v,dc,dd,gv,iH,uG,Az⟩:=Wd (by simpa using aG);obtain⟨b9,cn,cp⟩:=V5 Az;rw[iH] at h;simp only at h;by_cases ag:(x.op=3/\((gR v.over s).1=0\/top≠(gR v.over s).1))\/(x.op≠3/\(gR v.over s).1≠0)
 .rw[if_pos ag] at h;cases h
 .refine⟨v,?_,fun ak=>ag (.inl ⟨bK,.inl ?_⟩)⟩
  .rw[if_neg (by omega)] at dd;exact dd
  .rw[cp,if_pos ak]
theorem ag7{e:List Node}{s:Scope}(h:(kind e s).2=0):∀k (hk:k<e.length),Jv s e[k]:=by
 unfold kind ko at h;by_cases h1:e.length > 24
 .rw[if_pos h1] at h;cases h
 rw[if_neg h1] at h;by_cases U:e.length=0
 .exact fun k hk=>by omega
 rw[if_neg U] at h;by_cases ag:(eS (e5 s) e []).1≠0
 .rw[if_pos ag] at h;exact absurd h ag
 have ag:(eS (e5 s) e []).1=0:=by simpa using ag
 intro k hk;have qW:∀j,(eS (e5 s) (e.take j) []).1=0:=fun j=>Classical.byContradiction fun aD=>by
  have:=NU (f:=e5 s) (e:=e) (k:=j) rfl aD
  rw[this] at ag;exact aD ag
 have kB:eS (e5 s) (e.take k) []=(0,(eS (e5 s) (e.take k) []).2):=Prod.ext (qW k) rfl;have aJ:=wT hk kB;have bg:=qW (k+1);rw[aJ] at bg;unfold stepG at bg;by_cases dH:e0 e[k].op<0
 .rw[if_pos dH] at bg;cases bg
 rw[if_neg dH] at bg;by_cases dM:((eS (e5 s) (e.take k) []).2.length:Int)<e0 e[k].op
 .rw[if_pos dM] at bg;cases bg
 rw[if_neg dM] at bg;by_cases eh:(e5 s e[k] (eS (e5 s) (e.take k) []).2).2≠0
 .rw[if_pos eh] at bg;exact absurd bg eh
 have eh:(e5 s e[k] (eS (e5 s) (e.take k) []).2).2=0:=by simpa using eh
 by_cases bc:wA e[k].op=false
 .unfold e5 at eh;rw[M9 bc] at eh;exact ahz eh
 .intro bK;simp only[wA,decide_eq_false_iff_not] at bc;omega
theorem ajg{m:Model}(h:(check m).cX=0){j:Nat}(aR:j<m.props.length):(kind m.props[j].expr (eN m)).2=0:=by
 obtain⟨_,_,ag⟩:=J3 h;have dE:=It ag j aR;rw[CE aR] at dE;refine Classical.byContradiction fun aD=>?_
 repeat' split at dE
 all_goals first | omega | (exact absurd dE aD) | skip
 all_goals contradiction
theorem Vz{m:Model}{q:Nat}(h:q<(insts m).length):eg m q+1<=eA m:=by
 obtain⟨p,aO⟩:=HY h
 have:=aO.room
 omega
theorem IW{m:Model}{v:Nat}(h:v<m.vars.length):gT m v+oD m v<=eA m:=by
 have:=ts h
 rw[rW h]
 have:=o0 m
 omega
theorem R0{m:Model}{c:Nat}(h:c<m.aM.length):df m c+(1+ju m c)<=eA m:=by
 have:=xE h
 rw[od h]
 have:=o0 m
 omega
structure vu(m:Model)(x:Node):Prop where
 node:zd (eN m) x
 over:Jv (eN m) x
theorem vu.var{m:Model}(bq:eF m){x:Node}(h:vu m x)(e:x.op=2):∃aD:x.n.toNat<m.vars.length,0<=x.n/\oD m x.n.toNat=1:=by
 obtain⟨ak,v,aT,iF⟩:=h.node.var e;have e7:m.vars[x.n.toNat]? = some v:=aT;obtain⟨h1,U⟩:=List.getElem?_eq_some_iff.1 e7;refine⟨h1,ak,?_⟩;rw[rW h1,U];unfold cells;rw[if_pos iF];rfl
theorem vu.item{m:Model}(bq:eF m){x:Node}(h:vu m x)(e:x.op=3):∃aD:x.n.toNat<m.vars.length,0<=x.n/\∃bc:((m.vars[x.n.toNat]).over - 1).toNat<m.scalars.length,1<=(m.vars[x.n.toNat]).over/\(m.scalars[((m.vars[x.n.toNat]).over - 1).toNat]).size=(oD m x.n.toNat:Nat)/\oD m x.n.toNat<=4:=by
 obtain⟨ak,_⟩:=h.node.item e;obtain⟨v,aT,iF⟩:=h.over e;have e7:m.vars[x.n.toNat]? = some v:=aT;obtain⟨h1,U⟩:=List.getElem?_eq_some_iff.1 e7;have dt:=bq.var _ (List.getElem_mem h1);have ay:size (m.vars[x.n.toNat]).over m.scalars≠0:=by
  rcases dt.e1 with q | q
  .rw[U] at q;exact absurd q iF
  .exact q
 have aw:cells (m.vars[x.n.toNat]) m.scalars=size (m.vars[x.n.toNat]).over m.scalars:=by
  unfold cells;rw[if_neg (by rw[U];exact iF)]
 refine⟨h1,ak,?_⟩;rw[rW h1,aw];unfold size at ay ⊢;cases hk:m.scalars[((m.vars[x.n.toNat]).over - 1).toNat]? with
 | none=>rw[hk] at ay;exact absurd rfl ay
 | some y =>
  rw[hk] at ay;simp only at ay ⊢;obtain⟨g1,g2⟩:=List.getElem?_eq_some_iff.1 hk;by_cases q:1<=(m.vars[x.n.toNat]).over/\1<=y.size/\y.size<=4
  .rw[if_pos q];refine⟨g1,q.1,?_,?_⟩
   .rw[g2];omega
   .omega
  .rw[if_neg q] at ay;exact absurd rfl ay
theorem Xc{m:Model}(h:(check m).cX=0){j:Nat}(aR:j<m.props.length){x:Node}(au:x∈m.props[j].expr):vu m x:=by
 obtain⟨k,hk,rfl⟩:=List.mem_iff_getElem.1 au;exact⟨((Nj h aR).node k hk).1,ag7 (ajg h aR) k hk⟩
theorem vu.lt{m:Model}(bq:eF m){x:Node}(h:vu m x):∀z∈fU m 0 false x,0<=z/\z<eA m:=by
 intro z bQ;unfold fU at bQ;by_cases U:x.op=2
 .rw[if_pos U] at bQ;obtain⟨aD,_,aS⟩:=h.var bq U
  have:=IW aD
  have:=nS.1 bQ
  omega
 rw[if_neg U] at bQ;by_cases ag:x.op=3
 .rw[if_pos ag] at bQ;obtain⟨aD,_⟩:=h.item bq ag
  have:=IW aD
  unfold oB at bQ;rw[if_neg (by simp)] at bQ
  have:=nS.1 bQ
  omega
 rw[if_neg ag] at bQ;by_cases aJ:x.op=4
 .obtain⟨_,bg⟩:=h.node.loc aJ
  have:(eN m).locals=[]:=rfl
  rw[this] at bg;cases bg
 rw[if_neg aJ] at bQ;by_cases bO:x.op=6
 .rw[if_pos bO] at bQ;have aw:x.n.toNat<m.aM.length:=(h.node.len bO).2
  have:=R0 aw
  have:=nS.1 bQ
  omega
 rw[if_neg bO] at bQ;by_cases cj:x.op=7
 .rw[if_pos cj] at bQ;unfold nD at bQ;obtain⟨j,aR,bQ⟩:=List.mem_flatMap.1 bQ;split at bQ
  .have:=Vz (m:=m) (List.mem_range.1 aR)
   have:=nS.1 bQ
   omega
  .cases bQ
 .rw[if_neg cj] at bQ;cases bQ
theorem akO{m:Model}(h:(check m).cX=0)(bq:eF m):∀z∈qh m,0<=z/\z<eA m:=by
 intro z bQ;unfold qh wN at bQ;obtain⟨p,aO,HX⟩:=List.mem_flatMap.1 bQ;obtain⟨x,au,s6⟩:=List.mem_flatMap.1 HX;obtain⟨j,aR,rfl⟩:=List.mem_iff_getElem.1 aO;exact(Xc h aR au).lt bq z s6
def ab8(x:Nat×Nat):List Value:=[.slice (some ⟨x.1,0,none⟩) x.2 x.2]
def aeX(m:Model)(b4:List Nat):List (Nat×Nat):=b4.zip (m.procs.map fun p=>p.cx.toNat)
end o
namespace Go.Proofs.R
open Go Go.RowKit bt
structure amI(m:o.Model)(base:Nat)(b4:List Nat)(aby:Nat->List Int)(v:Value)(W:World):Prop where
 row:bs o.ab8 T.c 1 base W v (o.aeX m b4)
 low:∀b∈b4,base<=b
 nodup:b4.Nodup
 aV:∀p (h:p<b4.length),W.heap[b4[p]]? = some (.cells (nQ (aby p)).toArray T.a)
end Go.Proofs.R
end
section
namespace bt
open Go Go.RowKit
def Zh(_:World)(cs:List Value)(x:Nat):Prop:=cs=sD x
instance aoS:Rel (Flat sD) Zh 1 where
 out h:=⟨_,h,rfl⟩
 oA h k:=by cases k;exact h
 len h:=by cases h;rfl
 one h:=by cases h;exact ab7 _
 ext _ h:=h
end bt
end
section
namespace bt
open Go Go.RowKit
section
variable{P:Program}{aI:Value->Prop}{ty:TypeId}{c3 c6:Operand}
theorem K.akX{n:Nat}{k:IntKind}{t}(aD:n<64)(hk:aI (.int .u64 ((2 ^ n:Nat):Int))):gq P .shl ty c3 c6 (.int .u64 1) (.int k (n:Int)) aI t:=by
 refine K.bin (v:=.int .u64 ((2 ^ n:Nat):Int)) (fun w=>?_) hk;have U:(2:Nat) ^ n<2 ^ 64:=Nat.pow_lt_pow_right (by decide) aD;have ag:IntKind.u64.wrap ((2:Int) ^ n)=((2 ^ n:Nat):Int):=by
  rw[show(2:Int) ^ n=((2 ^ n:Nat):Int) from by simp];generalize (2:Nat) ^ n=y at U;exact IntWalk.u64_in _ (by omega)
 have aJ:¬(n:Int)<0:=by omega
 have bg:min n 64=n:=by omega
 simp[eqGuard,binOp,Op.shift,IntKind.bits,aJ,bg,ag]
theorem K.aiR{x y:Nat}{t}(au:x<18446744073709551616)(b8:y<18446744073709551616)(hk:aI (.int .u64 ((x ||| y:Nat):Int))):gq P .or ty c3 c6 (.int .u64 (x:Int)) (.int .u64 (y:Int)) aI t:=by
 refine K.bin (v:=.int .u64 ((x ||| y:Nat):Int)) (fun w=>?_) hk;have h:=bits_or_u64_nat x y au b8;rw[<-h];simp[eqGuard,binOp,Op.intBits,bits]
end
end bt
namespace o
open Go
theorem alL{m:Model}{s:List Int}{k:Nat}(h:k<=8):qk m s k<256:=Nat.lt_of_lt_of_le (alK m s k) (by
 have:=Nat.pow_le_pow_right (n:=2) (by decide) h
 exact this)
theorem aje{k:Nat}(h:k<8):2 ^ k<256:=by
 have:=Nat.pow_lt_pow_right (a:=2) (by decide) h
 exact this
theorem alM{m:Model}{s:List Int}{k:Nat}(h:k<m.props.length)(aL:(eval m.props[k].expr (cZ m s (-1))).2=0/\(eval m.props[k].expr (cZ m s (-1))).1≠0):qk m s (k+1)=qk m s k ||| 2 ^ k:=by
 rw[YA h,if_pos];unfold yT;exact decide_eq_true aL
theorem Yz{m:Model}{s:List Int}{k:Nat}(h:k<m.props.length)(aL:¬((eval m.props[k].expr (cZ m s (-1))).2=0/\(eval m.props[k].expr (cZ m s (-1))).1≠0)):qk m s (k+1)=qk m s k:=by
 rw[YA h,if_neg];unfold yT;simpa using aL
theorem aiq{α:Type}(l:List α):nth l (-1)=none:=by unfold nth;rw[if_neg (by omega)]
theorem ach{m:Model}(bq:eF m){s:List Int}(aK:Fits m s):Jj (cZ m s (-1)):=by
 have eU:=Tb bq aK;have hx:=DV bq;have e:wZ m s (-1)=([],0):=by unfold wZ;rw[aiq]
 refine⟨fun l aS x au=>?_,fun x au=>?_,fun x au=>?_,fun l aS x au=>?_,?_⟩
 .simp only[cZ,List.mem_map] at aS;obtain⟨k,_,rfl⟩:=aS;exact eU x (List.mem_of_mem_drop (List.mem_of_mem_take au))
 .simp only[cZ,List.mem_map] at au;obtain⟨k,_,rfl⟩:=au;rw[List.getElem!_eq_getElem?_getD];cases hk:s[df m k]? with
  | none=>simp[ez]
  | some y=>exact eU y (List.mem_of_getElem? hk)
 .simp only[cZ,e] at au;cases au
 .simp only[cZ,List.mem_map] at aS;obtain⟨k,_,rfl⟩:=aS;unfold js at au;obtain⟨d,_,rfl⟩:=List.mem_map.1 au
  have:=JJ m s k d (insts m).length
  unfold ez;omega
 .simp only[cZ,e];unfold ez;omega
end o
end
section
namespace bt
open Go Go.RowKit
def j7(al:List Bool):List Value:=al.map Value.bool
theorem amD(n:Nat):n1 (Value.bool false).cells (n*1)=(j7 (List.replicate n false)).toArray:=by
 apply Array.ext_getElem?;intro i;by_cases h:i<n
 .simp[n1,j7,Value.cells,h,Nat.mod_one]
 .simp[n1,j7,h]
theorem K.WE{da:Value->World->Prop}{w:World}{e:TypeId}{n:Int}{t}(N:Nat)(aD:n=N)(aC:N<=1000000)(hk:∀av b,w.heap.size<=b->Ext w av->av.heap[b]? = some (.cells (j7 (List.replicate N false)).toArray e)->da (.slice (some ⟨b,0,none⟩) N N) av) :
  xc e 1 1 (.bool false) (.int .i64 n) (.int .i64 n) w da t:=by
 subst aD;refine K.p7 ⟨by omega,by omega,by omega,by omega⟩ ?_;have h:=hk (w.alloc (.cells (j7 (List.replicate N false)).toArray e)) _ (Nat.le_refl _) ((Ext.refl w).alloc _) (heap_alloc_new w _);rw[Int.toNat_natCast,amD];exact h
theorem K.als{b c:Nat}{al:List Bool}{w:World}{e:TypeId}{gm:World->Prop}{t}(h:w.heap[b]? = some (.cells (j7 al).toArray e))(aw:c<al.length)
  (hk:∀av,dC b w av->av.heap[b]? = some (.cells (j7 (al.set c true)).toArray e)->gm av):qw (.pointer (some (Addr.add ⟨b,0,none⟩ (c*1)))) (.bool true) w gm t:=by
 have ay:c<(j7 al).toArray.size:=by simp[j7];exact aw
 rw[Nat.mul_one];refine K.st (e8 h (Array.getElem?_eq_getElem ay)) (by rw[add_eq];simp[World.frozen?,h]) rfl (hk _ ?_ ?_)
 .have:=dC.setCell w (Addr.add ⟨b,0,none⟩ c) (.bool true)
  rwa[Gd] at this
 .rw[Fb h ay];simp[j7,List.map_set]
end bt
namespace Go.Proofs.R
open Go Go.RowKit bt
structure lN(w:World)(bW b N:Nat)(L:List Int):Prop where
 box:w.heap[bW]? = some (.cells #[.slice (some ⟨b,0,none⟩) N N] T.z)
 row:∃al,w.heap[b]? = some (.cells (j7 al).toArray T.p)/\o.nA N L al
theorem lN.ne{w:World}{bW b N:Nat}{L:List Int}(h:lN w bW b N L):¬bW=b:=fun e=>by
 obtain⟨al,h1,_⟩:=h.row;subst e;have U:=h.box;rw[h1] at U;injection U with U
 injection U with _ U
 revert U;decide
theorem lN.ext{w w':World}{bW b N:Nat}{L:List Int}(h:lN w bW b N L)(he:Ext w w'):lN w' bW b N L:=by
 obtain⟨al,h1,U⟩:=h.row;exact⟨he.obj h.box,al,he.obj h1,U⟩
theorem lN.other{w:World}{bW b N k:Nat}{L:List Int}{cs:Array Value}{t:TypeId}(h:lN w bW b N L)(hk:w.heap[k]? = some (.cells cs t))(aL:t≠T.p):¬k=b:=fun e=>by
 obtain⟨al,h1,_⟩:=h.row;subst e;rw[h1] at hk;injection hk with hk
 injection hk with _ hk
 exact aL hk.symm
theorem lN.congr{w:World}{bW b N:Nat}{L mH:List Int}(h:lN w bW b N L)(e:∀x,x∈L↔x∈mH):lN w bW b N mH:=by
 obtain⟨al,h1,U⟩:=h.row;exact⟨h.box,al,h1,U.congr e⟩
theorem IC(c bW b N:Nat)(L:List Int)(x:Int)(w:World)(h:lN w bW b N L)(au:x=c)(aw:c<N)(gi:N<=1000000) :
  bu Tryz.prog F.zA #[.int .i64 x,.pointer (some ⟨bW,0,none⟩)] w fun _ w'=>lN w' bW b N (L++o.gf c 1)/\Mod (fun k=>k=b) w w':=by
 subst au;have c5:=h.ne;obtain⟨al,h1,U⟩:=h.row;have mW:=h.box;have aS:=U.len;refine bL E.zA ?_;refine bG ?_;refine ae ?_;refine K.als h1 (by omega) fun av na ao=>?_;refine ae ?_;refine⟨⟨na.obj mW c5,_,ao,?_⟩,na.mod rfl⟩;rw[o.Bi];exact U.put aw
theorem ab0(x:o.Node)(cs ys:List Value)(cy:Value)(bW b:Nat)(L:List Int)(m:o.Model)(w0 w:World)(h:o.ec w0 cs m)(c7:o.ja w0 ys (o.layout m))(bB:kK w0 cy (o.insts m))(he:Ext w0 w)(sL:w0.heap.size<=b)
  (cg:lN w bW b (o.eA m) L)(bq:o.eF m)(au:o.vu m x)(dt:x.ok) :
  bu Tryz.prog F.Cl #[.agg cs.toArray,.agg ys.toArray,cy,.agg x.enc.toArray,.func (.func F.zA) #[] #[.pointer (some ⟨bW,0,none⟩)]] w fun _ w'=>lN w' bW b (o.eA m) (L++o.fU m 0 false x)/\Mod (fun k=>k=b) w w':=by
 have Mx:=dt.op;have Mw:=dt.n;unfold o.ez at Mx Mw;obtain⟨gp,d0,eO,d1,fz,d2,gb,d3,gA,d4,rfl,ak,h1,U,ag,aJ,eI,ej,eo,dX,ep⟩:=h.form;obtain⟨cz,bS,b9,c1,cn,c2,cp,bP,cA,bX,rfl,gx,fA,gd,ir,k0⟩:=c7.form;obtain⟨cU,ci,rfl,_⟩:=bB.form;obtain⟨f5,f6,f8⟩:=o.Ia m;have pU:o.eA m<=64:=o.nf bq;refine bL E.Cl ?_;refine bG ?_;refine ae ?_;intro av dR kR aB cD;refine ae ?_;intro aU ek e6 aA ct;replace cD:=aA.obj cD;refine ae ?_;intro bb kN qK ax cK;replace cD:=ax.obj cD;replace ct:=ax.obj ct;have fj:=(aB.trans aA).trans ax;have w9:=he.trans fj;have vX:=cg.ext fj;have n5:=vX.other cD (by decide);have n6:=vX.other ct (by decide);have n8:=vX.other cK (by decide);unfold o.Node.enc at cK;refine ae ?_;apply K.cond<;>intro g2
 .obtain⟨aD,gk,aS⟩:=au.var bq g2;obtain⟨a0,rfl⟩:=gx.addr (by omega);have apB:=gx.ext Flat.ext w9;obtain⟨fy,lx⟩:=o.Bt aD;have ba:=o.IW aD;have iM:x.n=(x.n.toNat:Nat):=by omega
  rw[iM] at cK;have a6:o.fU m 0 false x=o.gf (o.gT m x.n.toNat) 1:=by unfold o.fU;rw[if_pos g2]
  rw[a6];refine ae ?_;refine K.mS (first:=[]) (cap:=[.pointer (some ⟨bW,0,none⟩)]) (by kernel_rfl) (IC (o.gT m x.n.toNat) bW b _ L _ bb vX (by rw[lx]) (by omega) (by omega)) ?_;rintro _ bp ⟨kW,kh⟩;refine ae ?_;exact⟨kW,fj.mod.trans kh⟩
 refine ae ?_;apply K.cond<;>intro g3
 .obtain⟨aD,gk,afG,qS,dn,aoo⟩:=au.item bq g3;obtain⟨a0,rfl⟩:=gx.addr (by omega);obtain⟨am0,rfl⟩:=ak.addr (by omega);obtain⟨am1,rfl⟩:=h1.addr (by omega);obtain⟨fy,lx⟩:=o.Bt aD;have ba:=o.IW aD;have iM:x.n=(x.n.toNat:Nat):=by omega
  have bK:o.fU m 0 false x=o.gf (o.gT m x.n.toNat) (o.oD m x.n.toNat):=by
   unfold o.fU o.oB;rw[if_neg g2,if_pos g3,if_neg (by simp)]
  rw[iM] at cK;rw[bK];refine ae ?_;refine K.dp _ (by omega) afG ?_;refine ae ?_;intro bp aN;have et:=w9.trans aN;have CY:=vX.ext aN;have Lf:=aN.obj ct;have Lh:=aN.obj cK;clear ct cK cD;refine ae ?_;refine K.dj 40 (o.oD m x.n.toNat) [4,6,8,39] (fun _:Unit=>[]) () (fun k _ W=>lN W bW b (o.eA m) (L++o.gf (o.gT m x.n.toNat) k)/\Mod (fun k=>k=b) bp W) bx bx ⟨by rw[o.XO,List.append_nil];exact CY,Mod.refl _ _⟩ ?_;rintro k _ S bR hk ⟨oq,lr⟩;have ct:=lr.obj n6 Lf;have cK:=lr.obj n8 Lh;have Nw:=gx.ext Flat.ext (lr.ext et fun i ad e=>by omega);refine ae ?_;apply K.cond<;>intro g4
  .refine ae ?_;refine K.mS (first:=[]) (cap:=[.pointer (some ⟨bW,0,none⟩)]) (by kernel_rfl) (IC (o.gT m x.n.toNat+k) bW b _ _ _ bR oq (by rw[lx];omega) (by omega) (by omega)) ?_;rintro _ bY ⟨As,lU⟩;refine ae ?_;refine⟨by omega,bk,(),trivial,?_,lr.trans lU⟩;rw[o.Bi] at As;rw[o.Xg];exact As
  .have jz:k=o.oD m x.n.toNat:=by omega
   rw[jz] at oq;refine ae ?_;exact⟨oq,(fj.mod.trans aN.mod).trans lr⟩
 refine ae ?_;apply K.cond<;>intro g6
 .obtain⟨gk,e7⟩:=au.node.len g6;have fQ:x.n.toNat<m.aM.length:=e7;obtain⟨dD,rfl⟩:=fA.addr (by omega);have apE:=fA.ext Flat.ext w9;obtain⟨lS,fh⟩:=o.vB fQ;have ba:=o.R0 fQ;have iM:x.n=(x.n.toNat:Nat):=by omega
  rw[iM] at cK;have cV:o.fU m 0 false x=o.gf (o.df m x.n.toNat) 1:=by
   unfold o.fU;rw[if_neg g2,if_neg g3,if_neg (by omega),if_pos g6]
  rw[cV];refine ae ?_;refine K.mS (first:=[]) (cap:=[.pointer (some ⟨bW,0,none⟩)]) (by kernel_rfl) (IC (o.df m x.n.toNat) bW b _ L _ bb vX (by rw[fh]) (by omega) (by omega)) ?_;rintro _ bp ⟨kW,kh⟩;refine ae ?_;exact⟨kW,fj.mod.trans kh⟩
 refine ae ?_;apply K.cond<;>intro g7;rotate_left
 .have dW:o.fU m 0 false x=[]:=by
   unfold o.fU;by_cases g4:x.op=4
   .have:=(au.node.loc g4).2
    have e:(o.eN m).locals=[]:=rfl;rw[e] at this;cases this
   rw[if_neg g2,if_neg g3,if_neg g4,if_neg g6,if_neg g7]
  rw[dW,List.append_nil];refine ae ?_;exact⟨vX,fj.mod⟩
 have dw:o.fU m 0 false x=o.nD m (x.n.tdiv 16) (o.insts m).length:=by unfold o.fU;rw[if_neg g2,if_neg g3,if_neg (by omega),if_neg g6,if_pos g7]
 rw[dw];obtain⟨gk,L4⟩:=au.node.at_ g7;have afK:(x.n.tdiv 16).toNat<m.procs.length:=L4;have afV:=Int.tdiv_nonneg gk (show(0:Int)<=16 by omega);have afN:=bq.procs;have afT : -9223372036854775808<=x.n.tdiv 16/\x.n.tdiv 16<=9223372036854775807:=by omega
 have hx:=o.DV bq;have qJ:∀{W},Mod (fun k=>k=b) bb W->Ext w0 W:=fun hm=>hm.ext w9 fun k hk e=>by omega
 have Lf:=ct;have Lh:=cK;clear ct cK cD;refine ae ?_;refine K.dj 68 (o.insts m).length [2,4,6,8,66,67] (fun _:Unit=>[]) () (fun k _ W=>Mod (fun i=>i=b) bb W/\lN W bW b (o.eA m) (L++o.nD m (x.n.tdiv 16) k)) bx bx ⟨Mod.refl _ _,by simpa[o.nD] using vX⟩ ?_;rintro k _ S bp hk ⟨kh,CY⟩;have ct:=kh.obj n6 Lf;have cK:=kh.obj n8 Lh;have Ty:=bB.ext Flat.ext (qJ kh);refine ae ?_;apply K.cond<;>intro g1
 .have de:k<(o.insts m).length:=by omega
  obtain⟨jc,rfl⟩:=bB.addr (by omega);obtain⟨LM,rN⟩:=o.ym de;have LO:=o.Vz de;obtain⟨a2,rfl⟩:=gd.addr (by omega);have wP:=gd.ext Flat.ext (qJ kh);refine ae ?_;intro wn B5 sM gH fG;refine ae ?_;intro bR eZ ug;have aW:Ext bp bR:=eZ.ext gH sM;replace ct:=aW.obj ct;replace cK:=aW.obj cK;replace wP:=wP.ext Flat.ext aW;have oq:=CY.ext aW;have lr:=kh.trans aW.mod;clear CY Ty;refine ae ?_;refine K.quo (by omega) ?_;refine ae ?_;apply K.cond<;>intro g2
  .refine ae ?_;refine K.mS (first:=[]) (cap:=[.pointer (some ⟨bW,0,none⟩)]) (by kernel_rfl) (IC (o.eg m k) bW b _ _ _ bR oq (by rw[rN]) (by omega) (by omega)) ?_;rintro _ bY ⟨As,lU⟩;refine ae ?_;refine⟨de,bk,(),trivial,lr.trans lU,?_⟩;rw[o.B4 de,if_pos g2,<-List.append_assoc];exact As
  .refine ae ?_;refine⟨de,bk,(),trivial,lr,?_⟩;rw[o.B4 de,if_neg g2,List.append_nil];exact oq
 .have jz:(o.insts m).length=k:=by omega
  rw[jz];refine ae ?_;exact⟨CY,fj.mod.trans kh⟩
end Go.Proofs.R
end
section
namespace o
open Go
def Ir(x y:List Int×List Int):Bool:=decide (qt x.1 x.2 y.1 y.2)
def tQ(L:List (List Int×List Int))(x:List Int×List Int):List Bool:=L.map (Ir x)
def lR(L:List (List Int×List Int)):List (List Bool):=L.map (tQ L)
theorem GH(L:List (List Int×List Int)):(lR L).length=L.length:=by simp[lR]
theorem Kg(L:List (List Int×List Int))(x:List Int×List Int):(tQ L x).length=L.length:=by simp[tQ]
end o
namespace bt
open Go Go.RowKit
theorem amF(n:Nat):n1 (Value.slice none 0 0).cells (n*1)=(List.replicate n (Value.slice none 0 0)).toArray:=by
 apply Array.ext_getElem?;intro i;by_cases h:i<n
 .simp[n1,Value.cells,h,Nat.mod_one]
 .simp[n1,h]
theorem K.ah3{da:Value->World->Prop}{w:World}{e:TypeId}{n:Int}{t}(N:Nat)(aD:n=N)(aC:N<=1000000)(hk:∀av b,w.heap.size<=b->Ext w av->av.heap[b]? = some (.cells (List.replicate N (Value.slice none 0 0)).toArray e)->da (.slice (some ⟨b,0,none⟩) N N) av) :
  xc e 1 24 (.slice none 0 0) (.int .i64 n) (.int .i64 n) w da t:=by
 subst aD;refine K.p7 ⟨by omega,by omega,by omega,by omega⟩ ?_;have h:=hk (w.alloc (.cells (List.replicate N (Value.slice none 0 0)).toArray e)) _ (Nat.le_refl _) ((Ext.refl w).alloc _) (heap_alloc_new w _);rw[Int.toNat_natCast,amF];exact h
theorem K.Yo{b c:Nat}{cur:Array Value}{w:World}{e:TypeId}{v:Value}{gm:World->Prop}{t}(h:w.heap[b]? = some (.cells cur e))(aw:c<cur.size)(aT:v.oneCell'=true)
  (hk:∀av,dC b w av->av.heap[b]? = some (.cells (cur.set c v aw) e)->gm av):qw (.pointer (some (Addr.add ⟨b,0,none⟩ (c*1)))) v w gm t:=by
 rw[Nat.mul_one];refine K.st (e8 h (Array.getElem?_eq_getElem aw)) (by rw[add_eq];simp[World.frozen?,h]) aT (hk _ ?_ ?_)
 .have:=dC.setCell w (Addr.add ⟨b,0,none⟩ c) v
  rwa[Gd] at this
 .exact Fb h aw v
end bt
namespace Go.Proofs.R
open Go Go.RowKit bt
structure lO(w:World)(fE n base:Nat)(b4:List Nat)(M:List (List Bool)):Prop where
 len:b4.length=M.length
 le:b4.length<=n
 row:w.heap[fE]? = some (.cells (b4.map (fun b=>Value.slice (some ⟨b,0,none⟩) n n)++List.replicate (n - b4.length) (Value.slice none 0 0)).toArray T.z)
 rows:∀j (h:j<b4.length) (bE:j<M.length),w.heap[b4[j]]? = some (.cells (j7 M[j]).toArray T.p)/\M[j].length=n
 low:∀b∈b4,base<=b
theorem lO.ext{w w':World}{fE n base:Nat}{b4:List Nat}{M:List (List Bool)}(h:lO w fE n base b4 M)(he:Ext w w'):lO w' fE n base b4 M :=
 ⟨h.len,h.le,he.obj h.row,fun j h1 U=>⟨he.obj (h.rows j h1 U).1,(h.rows j h1 U).2⟩,h.low⟩
theorem lO.lt{w:World}{fE n base:Nat}{b4:List Nat}{M:List (List Bool)}(h:lO w fE n base b4 M):∀b∈b4,b<w.heap.size:=fun b aC=>by
 obtain⟨j,aR,rfl⟩:=List.mem_iff_getElem.1 aC;exact cH (h.rows j aR (by have:=h.len;omega)).1
theorem lO.snoc{w w':World}{fE n base b:Nat}{b4:List Nat}{M:List (List Bool)}{r:List Bool}(h:lO w fE n base b4 M)(aS:b4.length<n)(he:dC fE w w')(aw:w'.heap[fE]? = some (.cells (b4.map (fun b=>Value.slice (some ⟨b,0,none⟩) n n)++Value.slice (some ⟨b,0,none⟩) n n :: List.replicate (n - (b4.length+1)) (Value.slice none 0 0)).toArray T.z))
  (aC:w'.heap[b]? = some (.cells (j7 r).toArray T.p))(ba:r.length=n)(jA:base<=b)(C8:∀c∈b4,c≠fE):lO w' fE n base (b4++[b]) (M++[r]):=by
 refine⟨by simp[h.len],by simp;omega,?_,fun j h1 U=>?_,fun c aw=>?_⟩
 .rw[aw];simp
 .by_cases e:j<b4.length
  .rw[List.getElem_append_left e,List.getElem_append_left (by have:=h.len;omega)];obtain⟨dc,dd⟩:=h.rows j e (by have:=h.len;omega);exact⟨he.obj dc (C8 _ (List.getElem_mem e)),dd⟩
  .have a6:j=b4.length:=by simp at h1;omega
   subst a6;rw[List.getElem_append_right (Nat.le_refl _),List.getElem_append_right (by rw[h.len];exact Nat.le_refl _)];simp only[Nat.sub_self,h.len,List.getElem_cons_zero];exact⟨aC,ba⟩
 .rcases List.mem_append.1 aw with aw | aw
  .exact h.low c aw
  .rw[List.mem_singleton] at aw;subst aw;exact jA
theorem lO.last{w w':World}{fE n base b:Nat}{b4:List Nat}{M:List (List Bool)}{r gw:List Bool}(h:lO w fE n base (b4++[b]) (M++[r]))(he:dC b w w')(aC:w'.heap[b]? = some (.cells (j7 gw).toArray T.p))(ba:gw.length=n)(aD:b∉b4)(C8:fE≠b) :
  lO w' fE n base (b4++[b]) (M++[gw]):=by
 have aS:=h.len;simp only[List.length_append,List.length_singleton] at aS;refine⟨by simp;omega,h.le,he.obj h.row C8,fun j h1 U=>?_,h.low⟩;by_cases e:j<b4.length
 .obtain⟨dc,dd⟩:=h.rows j h1 (by simp;omega);rw[List.getElem_append_left e,List.getElem_append_left (by omega)] at dc;rw[List.getElem_append_left (by omega)] at dd;rw[List.getElem_append_left e,List.getElem_append_left (by omega)];exact⟨he.obj dc (fun a6=>aD (a6 ▸ List.getElem_mem e)),dd⟩
 .have a6:j=b4.length:=by simp at h1;omega
  subst a6;rw[List.getElem_append_right (Nat.le_refl _),List.getElem_append_right (by omega)];simp only[Nat.sub_self,show b4.length - M.length=0 from by omega,List.getElem_cons_zero];exact⟨aC,ba⟩
end Go.Proofs.R
namespace o
open Go
theorem jq.kZ{m:Model}{ref:Int}{a b:List Int}(h:jq m ref a b):a.Pairwise (· < ·)/\b.Pairwise (· < ·):=by
 by_cases aL:Told m ref
 .obtain⟨q,p,k,cf⟩:=tM aL;obtain⟨h1,U⟩:=h.there q p k cf;exact⟨h1.kZ,U.kZ⟩
 .obtain⟨rfl,rfl⟩:=h.none aL;exact⟨List.Pairwise.nil,List.Pairwise.nil⟩
def ra(L:List (List Int×List Int))(x:List Int×List Int)(k:Nat):List Bool:=(tQ L x).take k++List.replicate (L.length - k) false
theorem akl(L:List (List Int×List Int))(x:List Int×List Int):ra L x 0=List.replicate L.length false:=by simp[ra]
theorem NP{L:List (List Int×List Int)}{x:List Int×List Int}{k:Nat}(h:k<=L.length):(ra L x k).length=L.length:=by simp[ra,Kg];omega
theorem akj(L:List (List Int×List Int))(x:List Int×List Int):ra L x L.length=tQ L x:=by
 unfold ra;rw[List.take_of_length_le (by rw[Kg];exact Nat.le_refl _),Nat.sub_self];simp
theorem akk{L:List (List Int×List Int)}{x:List Int×List Int}{k:Nat}(h:k<L.length):(ra L x k).set k (Ir x L[k])=ra L x (k+1):=by
 have U:k<(tQ L x).length:=by rw[Kg];exact h
 have ag:(tQ L x)[k]=Ir x L[k]:=by simp[tQ]
 unfold ra;rw[List.take_succ_eq_append_getElem U,ag,List.set_append_right _ _ (by simp;omega)]
 have:L.length - k=(L.length - (k+1))+1:=by omega
 rw[this,List.replicate_succ];simp[Nat.min_eq_left (Nat.le_of_lt U)]
end o
end
section
namespace Go.Proofs.R
open Go Go.RowKit bt
theorem akW(l:List Value)(n:Nat)(z v:Value){i:Nat}(ad:i=l.length)(aD:0<n)(h:i<(l++List.replicate n z).toArray.size):(l++List.replicate n z).toArray.set i v h=(l++v :: List.replicate (n - 1) z).toArray:=by
 subst ad;obtain⟨k,rfl⟩:∃k,n=k+1:=⟨n - 1,by omega⟩;simp[List.replicate_succ]
theorem lO.cell{w:World}{fE n base b:Nat}{b4:List Nat}{M:List (List Bool)}(h:lO w fE n base (b4++[b]) M){i:Nat}(ad:i=b4.length):w.cell? (Addr.add ⟨fE,0,none⟩ (i*1))=some (.slice (some ⟨b,0,none⟩) n n):=by
 subst ad;refine e8 h.row ?_;rw[Nat.mul_one];simp
theorem abO(cs:List Value)(m:o.Model)(w:World)(h:o.ec w cs m)(aZ:m.cQ)(bc:hv w) :
  bu Tryz.prog F.c2 #[.agg cs.toArray] w fun u w'=>(((o.check m).cX≠0/\u = .slice none 0 0)\/((o.check m).cX=0/\∃L fE b4,o.mM m (o.refs m).length L/\u = .slice (some ⟨fE,0,none⟩) L.length L.length/\lO w' fE L.length w.heap.size b4 (o.lR L)))/\Ext w w':=by
 have dP:=h;obtain⟨cz,bS,b9,c1,cn,c2,cp,bP,cA,bX,rfl,_⟩:=h.form;refine bL E.c2 ?_;refine bG ?_;refine ae ?_;intro av bC cR aB ao;refine ae ?_;refine K.call (AX _ m av (dP.ext aB) aZ (bc.ext aB)) ?_;rintro _ aU ⟨rfl,aA⟩;replace ao:=aA.obj ao;have a6:=aB.trans aA;refine ae ?_;refine K.jf (v:=.int .i64 (o.check m).cX) rfl ?_;refine ae ?_;apply K.cond<;>intro g1;rotate_left
 .refine ae ?_;exact⟨.inl ⟨g1,bk⟩,a6⟩
 have kc:=o.lZ g1;have kk:=o.wQ kc.lim;refine ae ?_;refine K.call (YK _ m aU (dP.ext a6) aZ (bc.ext a6) kc.lim) ?_;rintro _ bb ⟨⟨L,base,jT,sL,ad9,dr⟩,ax⟩;obtain⟨aiw,aaL,rfl,_⟩:=dr.form;have vY:bF 2 Jw bb _ L:=dr.pq;have bK:=a6.trans ax;have TM:=jT.len;have z3:=bK.size;refine ae ?_;refine K.ah3 L.length rfl (by omega) fun bp fE C8 aN bA=>?_;have ad0:lO bp fE L.length bb.heap.size [] ((o.lR L).take 0):=⟨rfl,Nat.zero_le _,by simpa using bA,fun j h=>absurd h (Nat.not_lt_zero _),fun b aC=>by cases aC⟩;have jA:=cH bA;clear bA;refine ae ?_;refine K.dj 18 L.length [3,4,17] (fun _:Unit=>[]) () (fun i _ W => ∃b4,lO W fE L.length bb.heap.size b4 ((o.lR L).take i)/\Ext bb W) bx bx ⟨[],ad0,aN⟩ ?_;rintro i _ S bR ad ⟨b4,fX,aW⟩;have b3:=bK.trans aW;have z7:=fX.len;rw[List.length_take,o.GH,Nat.min_eq_left ad] at z7;refine ae ?_;apply K.cond<;>intro g2;rotate_left
 .have rN:i=L.length:=by omega
  rw[rN,List.take_of_length_le (by rw[o.GH];exact Nat.le_refl _)] at fX;refine ae ?_;exact⟨.inr ⟨g1,L,fE,b4,jT,bk,⟨fX.len,fX.le,fX.row,fX.rows,fun b aC=>by have:=fX.low b aC;omega⟩⟩,b3⟩
 have ky:i<L.length:=by omega
 have aef:∀c∈b4,c≠fE:=fun c aw e=>by
  obtain⟨j,aR,rfl⟩:=List.mem_iff_getElem.1 aw;have dc:=(fX.rows j aR (by have:=fX.len;omega)).1;rw[e,fX.row] at dc;injection dc with dc
  injection dc with _ dc
  revert dc;decide
 have aeh:=fX.lt;refine ae ?_;refine K.WE L.length rfl (by omega) fun bY b aC a8 ct=>?_;have G6:=fX.ext a8;have anY:=cH G6.row;have anX:=cH fX.row;refine ae ?_;refine K.Yo G6.row (by simp;omega) rfl fun cd dB cS=>?_;have ae9:i=b4.length:=z7.symm;rw[akW _ _ _ _ (by simp;omega) (by omega)] at cS;have aee:b∉b4:=fun aw=>by have:=aeh b aw;omega
 have TS:fE≠b:=by omega
 have ad1:lO cd fE L.length bb.heap.size (b4++[b]) ((o.lR L).take i++[o.ra L L[i] 0]) :=
  G6.snoc (by omega) dB (by rw[cS];simp[Nat.sub_sub]) (by rw[o.akl];exact dB.obj ct (Ne.symm TS)) (by rw[o.NP (Nat.zero_le _)]) (by have:=aW.size;omega) aef
 have bJ:Ext bb cd:=dB.ext (aW.trans a8) C8;clear G6 ct cS;refine ae ?_;refine K.dj 29 L.length [3,4,5,17,18,28] (fun _:Unit=>[]) () (fun k _ W=>lO W fE L.length bb.heap.size (b4++[b]) ((o.lR L).take i++[o.ra L L[i] k])/\Ext bb W) bx bx ⟨ad1,bJ⟩ ?_;rintro k _ kt dg hk ⟨KW,bV⟩;have dW:=bK.trans bV;refine ae ?_;apply K.cond<;>intro g3;rotate_left
 .have LS:k=L.length:=by omega
  rw[LS,o.akj] at KW;refine ae ?_;refine⟨ky,bk,(),trivial,b4++[b],?_,bV⟩;rw[List.take_succ_eq_append_getElem (by rw[o.GH];exact ky)]
  have:(o.lR L)[i]'(by rw[o.GH];exact ky)=o.tQ L L[i]:=by simp[o.lR]
  rw[this];exact KW
 have de:k<L.length:=by omega
 obtain⟨ZJ,rfl⟩:=vY.addr (by omega);obtain⟨j1,j2,jy,kl,hA⟩:=vY.at i ky;obtain⟨kI,kq,Lt,agB,agD⟩:=vY.at k de;obtain⟨Nn,No⟩:=(jT.is i ky).kZ;obtain⟨Np,Nq⟩:=(jT.is k de).kZ;refine ae ?_;intro ea b1;have x9:=bV.trans b1;have TK:=KW.ext b1;have h0:=TK.cell ae9;have an9:=jy.ext x9;have aob:=Lt.ext x9;refine ae ?_;refine K.ld h0 ?_;refine ae ?_;refine K.call (WY j1 j2 kI kq _ _ _ _ ea (kl.ext Flat.ext x9) (hA.ext Flat.ext x9) (agB.ext Flat.ext x9) (agD.ext Flat.ext x9) Nn No Np Nq) ?_;rintro _ e3 ⟨rfl,cv⟩;have G5:=TK.ext cv;refine⟨cv,?_⟩;have nP:=G5.rows b4.length (by simp) (by have:=G5.len;simp at this ⊢;omega);have ad2:=G5.len;simp only[List.length_append,List.length_singleton] at ad2;rw[List.getElem_append_right (Nat.le_refl _),List.getElem_append_right (by omega)] at nP;simp only[Nat.sub_self,show b4.length - ((o.lR L).take i).length=0 from by omega,List.getElem_cons_zero] at nP;refine ae ?_;refine K.Yo nP.1 (by simp[j7,o.NP hk];exact de) rfl fun gg gZ mj=>?_;have DK:gg.heap[b]? = some (.cells (j7 (o.ra L L[i] (k+1))).toArray T.p):=by
  rw[mj,<-o.akk de];simp[j7,List.map_set,o.Ir]
 have adZ:=G5.last gZ DK (by rw[o.NP (by omega)]) aee TS;have fo:bb.heap.size<=b:=by have:=aW.size;omega
 have fH:Ext bb gg:=gZ.ext (x9.trans cv) fo;refine ae ?_;exact⟨de,bk,(),trivial,adZ,fH⟩
end Go.Proofs.R
end
section
namespace o
open Go
def mz(x y:Node):Prop:=x.op<y.op\/(x.op=y.op/\x.n<y.n)
def A3(x y:Node):Int:=if x.op=y.op/\x.n=y.n then 0 else if x.op<y.op\/(x.op=y.op/\x.n<y.n) then -1 else 1
theorem WQ{x y:Node}(h1:x.op=y.op)(U:x.n=y.n):x=y:=by cases x;cases y;simp_all
theorem aii(x:Node):¬mz x x:=by unfold mz;omega
theorem aij(x y z:Node)(h:mz x y)(k:mz y z):mz x z:=by unfold mz at *;omega
theorem Ik(x y:Node):A3 x y<0↔mz x y:=by
 unfold A3 mz;split
 .omega
 .split<;>omega
def sf (op:Int):Bool:=decide (op=2\/op=3\/op=4\/op=6\/op=7)
structure F9(e r:List Node):Prop where
 kZ:r.Pairwise mz
 mem:∀x,x∈r↔x∈e/\sf x.op=true
def comp:List Node->List Node
 | []=>[]
 | [x]=>[x]
 | x :: y :: r=>if x.op=y.op/\x.n=y.n then comp (y :: r) else x :: comp (y :: r)
theorem J9:∀(l:List Node) (x:Node),x∈comp l↔x∈l
 | [],x=>Iff.rfl
 | [y],x=>Iff.rfl
 | y :: z :: r,x=>by
  unfold comp;have eV:=J9 (z :: r) x;split
  .rename_i h
   have:y=z:=WQ h.1 h.2
   subst this;rw[eV];simp
  .rw[List.mem_cons,eV,List.mem_cons (b:=y)]
theorem Sc:∀(l:List Node),l.Pairwise (fun x y => ¬mz y x)->(comp l).Pairwise mz
 | [],_=>List.Pairwise.nil
 | [y],_=>by unfold comp;simp
 | y :: z :: r,h=>by
  unfold comp;rw[List.pairwise_cons] at h;have eV:=Sc (z :: r) h.2;split
  .exact eV
  .rename_i c5;rw[List.pairwise_cons];refine⟨fun x au=>?_,eV⟩;rw[J9] at au;have aoF:=h.1 z (List.mem_cons_self ..);have cw:mz y z:=by unfold mz at *;omega
   rcases List.mem_cons.1 au with e | e
   .rw[e];exact cw
   .have U:=h.2;rw[List.pairwise_cons] at U
    have:=U.1 x e
    unfold mz at *;omega
structure amO(l:List Int)(n:Int)(r:List Int):Prop where
 kZ:r.Pairwise (· < ·)
 mem:∀x,x∈r↔x∈l\/x=n
 len:r.length<=l.length+1
structure amQ(e:List Node)(op:Int)(l:List Int):Prop where
 kZ:l.Pairwise (· < ·)
 mem:∀n,n∈l↔∃x∈e,x.op=op/\x.n=n
 len:l.length<=e.length
def opsL:List Int:=[2,3,4,6,7]
structure amY(e:List Node)(k:Nat)(r:List Node):Prop where
 kZ:r.Pairwise mz
 mem:∀x,x∈r↔x∈e/\x.op∈opsL.take k
 len:r.length<=k*e.length
theorem Ka:∀(l:List Node) (x y:Node),comp (l++[x,y])=if x.op=y.op/\x.n=y.n then comp (l++[x]) else comp (l++[x])++[y]
 | [],x,y=>by
  by_cases h:x.op=y.op/\x.n=y.n
  .have:x=y:=WQ h.1 h.2
   subst this;simp[comp]
  .simp[comp,h]
 | [a],x,y=>by
  have eV:=Ka [] x y;simp only[List.nil_append,List.cons_append] at eV ⊢;unfold comp;rw[eV];by_cases h:a.op=x.op/\a.n=x.n
  .simp only[if_pos h]
  .simp only[if_neg h];by_cases U:x.op=y.op/\x.n=y.n
   .simp[U,comp]
   .simp[U,comp]
 | a :: b :: l,x,y=>by
  have eV:=Ka (b :: l) x y;simp only[List.cons_append] at eV ⊢;unfold comp;rw[eV];by_cases h:a.op=b.op/\a.n=b.n
  .simp only[if_pos h]
  .simp only[if_neg h];by_cases U:x.op=y.op/\x.n=y.n
   .simp only[if_pos U]
   .simp only[if_neg U,List.cons_append]
theorem Kb{l:List Node}{n:Nat}(h1:1<=n)(U:n<l.length):comp (l.take (n+1))=if l[n - 1].op=l[n].op/\l[n - 1].n=l[n].n then comp (l.take n) else comp (l.take n)++[l[n]]:=by
 obtain⟨k,rfl⟩:∃k,n=k+1:=⟨n - 1,by omega⟩;have bU:l.take (k+1)=l.take k++[l[k]]:=List.take_succ_eq_append_getElem (by omega);have a6:l.take (k+1+1)=l.take k++[l[k],l[k+1]]:=by rw[List.take_succ_eq_append_getElem U,bU,List.append_assoc];rfl
 rw[a6,Ka,bU];rfl
theorem J8:∀l:List Node,(comp l).length<=l.length
 | []=>Nat.le_refl _
 | [x]=>Nat.le_refl _
 | x :: y :: r=>by
  have:=J8 (y :: r)
  unfold comp;split
  .simp only[List.length_cons] at this ⊢;omega
  .simp only[List.length_cons] at this ⊢;omega
theorem Sb{l:List Node}(h:l.length<2):comp l=l:=by
 match l,h with
 | [],_=>rfl
 | [x],_=>rfl
 | x :: y :: r,h=>simp at h;omega
theorem abE{l:List Node}:comp (l.take 1)=l.take 1:=Sb (by rw[List.length_take];omega)
end o
namespace bt
open Go Go.RowKit
theorem NZ:∀(cs:List Value) (w:World) (b al i:Nat) (cur:Array Value) (e:TypeId),w.heap[b]? = some (.cells cur e)->al+i+cs.length<=cur.size ->
  ∃sB,(kG w ⟨b,al,none⟩ cs i).heap[b]? = some (.cells sB e)/\sB.size=cur.size/\(∀j,j<al+i\/al+i+cs.length<=j->sB[j]? = cur[j]?)/\∀j (h:j<cs.length),sB[al+i+j]? = some cs[j]
 | [],w,b,al,i,cur,e,aC,_=>⟨cur,aC,rfl,fun _ _=>rfl,fun j h=>absurd h (Nat.not_lt_zero _)⟩
 | c :: cs,w,b,al,i,cur,e,aC,aS=>by
  have aR:al+i<cur.size:=by simp at aS;omega
  have h1:=Fb aC aR c;have ln:Addr.add ⟨b,0,none⟩ (al+i)=Addr.add ⟨b,al,none⟩ i:=by rw[add_eq,add_eq,Nat.zero_add]
  rw[ln] at h1;obtain⟨sB,dc,dd,gv,iH⟩:=NZ cs _ b al (i+1) _ e h1 (by simp at aS ⊢;omega);refine⟨sB,dc,by simpa using dd,fun j pc=>?_,fun j h=>?_⟩
  .rw[gv j (by simp at pc ⊢;omega),Array.getElem?_set_ne _ (by simp at pc;omega)]
  .cases j with
   | zero =>
    rw[Nat.add_zero,gv (al+i) (by omega),Array.getElem?_set_self];rfl
   | succ j =>
    have:=iH j (by simpa using h)
    rw[show al+i+(j+1)=al+(i+1)+j from by omega,this];rfl
end bt
namespace Go.Proofs.R
open Go Go.RowKit bt
theorem Ce{w:World}{b j:Nat}{c:Array Value}{t:TypeId}{v:Value}(h:w.heap[b]? = some (.cells c t))(aR:c[j]? = some v):w.cell? ⟨b,j,none⟩=some v:=by
 simp[World.cell?,h,aR]
structure gM(w:World)(b:Nat)(l:List o.Node):Prop where
 ex:∃cur,w.heap[b]? = some (.cells cur T.f)/\2*l.length<=cur.size/\∀i (h:i<l.length),cur[2*i]? = some (.int .i64 l[i].op)/\cur[2*i+1]? = some (.int .i64 l[i].n)
theorem gM.mod{w w':World}{b:Nat}{l:List o.Node}{A:Nat->Prop}(h:gM w b l)(hm:Mod A w w')(eL:¬A b):gM w' b l:=by
 obtain⟨cur,h1,U,ag⟩:=h.ex;exact⟨cur,hm.obj eL h1,U,ag⟩
theorem gM.ext{w w':World}{b:Nat}{l:List o.Node}(h:gM w b l)(he:Ext w w'):gM w' b l:=by
 obtain⟨cur,h1,U,ag⟩:=h.ex;exact⟨cur,he.obj h1,U,ag⟩
theorem gM.at_{w:World}{b:Nat}{l:List o.Node}(h:gM w b l){i:Nat}(ad:i<l.length):fg w ⟨b,2*i,none⟩ l[i].enc:=by
 obtain⟨cur,h1,U,ag⟩:=h.ex;have e:(⟨b,2*i,none⟩:Addr)=Addr.add ⟨b,0,none⟩ (2*i):=by rw[add_eq,Nat.zero_add]
 intro j v aR;obtain⟨dc,dd⟩:=ag i ad;rw[e,add_eq,add_eq,Nat.zero_add]
 match j,aR with
 | 0,aR =>
  have:v = .int .i64 l[i].op:=by simpa[o.Node.enc] using aR.symm
  subst this;exact Ce h1 dc
 | 1,aR =>
  have:v = .int .i64 l[i].n:=by simpa[o.Node.enc] using aR.symm
  subst this;exact Ce h1 dd
 | n+2,aR=>simp[o.Node.enc] at aR
theorem gM.take{w:World}{b:Nat}{l:List o.Node}(h:gM w b l)(k:Nat):gM w b (l.take k):=by
 obtain⟨cur,h1,U,ag⟩:=h.ex;refine⟨cur,h1,by rw[List.length_take];omega,fun i ad=>?_⟩;rw[List.length_take] at ad
 have:=ag i (by omega)
 simpa using this
theorem gM.Ye{w:World}{b c:Nat}{l:List o.Node}(h:gM w b l)(aw:l.length<=c)(hm:c<=maxLen):bF 2 (Flat o.Node.enc) w (.slice (some ⟨b,0,none⟩) l.length c) l :=
 ⟨_,_,rfl,aw,hm,fun _=>rfl,fun a bo i ad=>by
  injection bo with bo;subst bo
  have:=h.at_ ad
  rw[show(⟨b,2*i,none⟩:Addr)=Addr.add ⟨b,0,none⟩ (i*2) from by rw[add_eq,Nat.zero_add,Nat.mul_comm]] at this;exact this⟩
theorem gM.set{w:World}{b i:Nat}{l:List o.Node}(h:gM w b l)(ad:i<l.length)(x:o.Node):gM (kG w ⟨b,2*i,none⟩ x.enc 0) b (l.set i x):=by
 obtain⟨cur,h1,U,ag⟩:=h.ex;obtain⟨sB,dc,dd,gv,iH⟩:=NZ x.enc w b (2*i) 0 cur _ h1 (by simp[o.Node.enc];omega);refine⟨sB,dc,by rw[List.length_set,dd];exact U,fun j aR=>?_⟩;rw[List.length_set] at aR;have a0:=iH 0 (by simp[o.Node.enc]);have dD:=iH 1 (by simp[o.Node.enc]);by_cases e:i=j
 .subst e;rw[List.getElem_set_self];simp only[Nat.add_zero,o.Node.enc] at a0 dD;exact⟨a0,dD⟩
 .rw[List.getElem_set_ne e,gv _ (by simp[o.Node.enc];omega),gv _ (by simp[o.Node.enc];omega)];exact ag j aR
theorem gM.cut{w:World}{b k:Nat}{l:List o.Node}{zs:List Value}(h:gM w b l)(bQ:2*k+zs.length<=2*l.length):gM (kG w ⟨b,2*k,none⟩ zs 0) b (l.take k):=by
 obtain⟨cur,h1,U,ag⟩:=h.ex;obtain⟨sB,dc,dd,gv,_⟩:=NZ zs w b (2*k) 0 cur _ h1 (by omega);refine⟨sB,dc,by rw[List.length_take,dd];omega,fun j aR=>?_⟩;rw[List.length_take] at aR;rw[List.getElem_take,gv _ (by omega),gv _ (by omega)];exact ag j (by omega)
theorem amC{P:Program}{ty:TypeId}{z:Value}(h:(P.info? ty).bind (·.zero)=some z)(w:World):(zeroValue ty).run P w = .ok z w:=by
 cases ad:P.info? ty with
 | none=>rw[ad] at h;cases h
 | some i =>
  rw[ad] at h;have U:i.zero=some z:=h;simp[zeroValue,ti ad,U]
theorem aic(x:o.Node):∀c∈x.enc.toArray.toList,c.oneCell'=true:=by simp[o.Node.enc,Value.oneCell']
theorem gM.free{w:World}{b:Nat}{l:List o.Node}(h:gM w b l){j:Nat}(aR:j<2*l.length):(∃kC,w.cell? ⟨b,j,none⟩=some kC)/\w.frozen? ⟨b,j,none⟩=false:=by
 obtain⟨cur,h1,U,_⟩:=h.ex;exact⟨⟨cur[j]'(by omega),Ce h1 (Array.getElem?_eq_getElem (by omega))⟩,by simp[World.frozen?,h1]⟩
theorem K.alr{w:World}{b i:Nat}{l:List o.Node}{x:o.Node}{a:Addr}{gm:World->Prop}{t}(h:gM w b l)(bo:a=⟨b,2*i,none⟩)(ad:i<l.length)(hk:∀av,dC b w av->gM av b (l.set i x)->gm av) :
  zk 2 (.pointer (some a)) (.agg x.enc.toArray) w gm t:=by
 subst bo;refine K.rh rfl (fun j aR=>?_) (aic x) (hk _ (dC.kG _ w ⟨b,2*i,none⟩ 0) (h.set ad x));rw[add_eq];exact h.free (by omega)
theorem K.abp{S:Fr}{w:World}{b k n cap:Nat}{l:List o.Node}{x:Operand}{bl:Option Addr}{da:Value->World->Prop}{ty:TypeId}{t}(h:gM w b l)(au:bn S x = .slice bl n cap)(aD:k+n=l.length)(bo:0<n->bl=some ⟨b,2*k,none⟩)
  (hk:∀v av,Mod (fun i=>i=b) w av->gM av b (l.take k)->da v av):tB Tryz.prog (.call ⟨.builtin .clear,#[x],#[T.kM]⟩) ty S w da t:=by
 have bQ:∀w:World,(zeroValue T.f).run Tryz.prog w = .ok (.agg #[.int .i64 0,.int .i64 0]) w:=amC (by kernel_rfl);have hu:Tryz.prog.underlying T.kM=some (.slice T.f):=by kernel_rfl
 cases n with
 | zero =>
  refine K.raw (v:=.tuple #[]) (w':=w) ?_ (hk _ _ (Mod.refl _ _) (h.take k));cases bl<;>simp[execOp,resolve,invoke,builtin,au,Builtin.clear_,run_underlying hu]
 | succ n =>
  obtain rfl:=bo (by omega);refine K.raw (v:=.tuple #[]) (w':=kG w ⟨b,2*k,none⟩ (Builtin.zeroCells #[.int .i64 0,.int .i64 0] (n+1)).toList 0) ?_ (hk _ _ ((dC.kG _ w ⟨b,2*k,none⟩ 0).mod rfl) (h.cut ?_))
  .have ay:=NV Tryz.prog ⟨b,2*k,none⟩ (Builtin.zeroCells #[.int .i64 0,.int .i64 0] (n+1)).toList 0 w (fun j aR=>?_) ?_
   .simp[execOp,resolve,invoke,builtin,au,Builtin.clear_,run_underlying hu,bQ,Value.cells,ay]
   .rw[add_eq];exact h.free (by simp[Builtin.zeroCells] at aR;omega)
   .intro c aw;simp only[Builtin.zeroCells,Array.toList_map,List.mem_map] at aw;obtain⟨i,_,rfl⟩:=aw;show((#[Value.int .i64 0,.int .i64 0]:Array Value)[i % 2]!).oneCell'=true;rcases Nat.mod_two_eq_zero_or_one i with e | e<;>rw[e]<;>rfl
  .simp[Builtin.zeroCells];omega
theorem GB(x y:Int):qD [.i,.i] [.int .i64 x,.int .i64 y]:=⟨⟨_,rfl⟩,⟨_,rfl⟩,trivial⟩
theorem SL{x y:o.Node}:x.enc=y.enc↔x.op=y.op/\x.n=y.n:=by simp[o.Node.enc]
theorem abG(b c:Nat)(l:List o.Node)(w:World)(h:gM w b l)(aw:l.length<=c)(hm:c<=maxLen) :
  bu Tryz.prog F.mO #[.slice (some ⟨b,0,none⟩) l.length c] w fun v w'=>v = .slice (some ⟨b,0,none⟩) (o.comp l).length c/\gM w' b (o.comp l)/\Mod (fun i=>i=b) w w':=by
 have eM:=o.J8 l;unfold maxLen at hm;refine bL E.mO ?_;refine bG ?_;refine ae ?_;apply K.cond<;>intro g1
 .have e:=o.Sb (l:=l) (by omega);refine ae ?_;exact⟨by rw[e],by rw[e];exact h,Mod.refl _ _⟩
 refine ae ?_;refine K.w3 [0] (fun k:Nat=>[(3,.int .i64 k)]) 1 (fun k W=>1<=k/\k<=l.length/\o.comp (l.take k)=l.take k/\Ext w W) (fun k=>l.length - k) bx ⟨by omega,by omega,o.abE,Ext.refl _⟩ ?_;rintro k S av ⟨yd,de,qO,aB⟩;have kj:=h.ext aB;have zZ:=kj.Ye aw hm;refine ae ?_;apply K.cond<;>intro g2;rotate_left
 .have jz:k=l.length:=by omega
  rw[jz,List.take_length] at qO;refine ae ?_;exact⟨by rw[qO],by rw[qO];exact kj,aB.mod⟩
 have rO:k<l.length:=by omega
 refine ae ?_;refine K.dp (k - 1) (by omega) (by omega) ?_;refine ae ?_;refine K.ack (sig:=[.i,.i]) (by kernel_rfl) (GB _ _) (GB _ _) fun r ba=>?_;rw[SL] at ba;refine ae ?_;intro aU aA;have jj:=kj.ext aA;have a6:=aB.trans aA;cases r with
 | false =>
  have c5:¬(l[k - 1].op=l[k].op/\l[k - 1].n=l[k].n):=fun e=>by have:=ba.2 ⟨e.1.symm,e.2.symm⟩;cases this
  have aff:o.comp (l.take (k+1))=l.take (k+1):=by rw[o.Kb yd rO,if_neg c5,qO,List.take_succ_eq_append_getElem rO]
  refine ae ?_;exact⟨k+1,⟨bk,trivial⟩,⟨by omega,by omega,aff,a6⟩,by omega⟩
 | true =>
  obtain⟨dH,dM⟩:=ba.1 rfl;have ye:o.comp (l.take (k+1))=l.take k:=by rw[o.Kb yd rO,if_pos ⟨dH.symm,dM.symm⟩,qO]
  have kS:¬c=k:=by omega
  clear zZ;refine ae ?_;refine K.hQ k l.length c (by simp[fl,ft,cu]) (by simp[fl]) (by simp[fl]) ⟨by omega,aw,Nat.le_refl _⟩ (by simp) ?_;rw[if_neg kS,Option.map_some];refine ae ?_;refine K.w3 [0,4] (fun x:Nat×Nat×List o.Node=>[(3,.int .i64 x.1),(5,.int .i64 x.2.1)]) (k,1,l) (fun x W=>1<=x.2.1/\k+x.2.1<=l.length/\1<=x.1/\x.1+1<=k+x.2.1/\x.2.2.length=l.length/\gM W b x.2.2/\Mod (fun i=>i=b) w W/\x.2.2.take x.1=o.comp (l.take (k+x.2.1))/\∀j,x.1<=j->x.2.2[j]? = l[j]?) (fun x=>l.length - (k+x.2.1)) bx ⟨Nat.le_refl _,by simp only;omega,yd,Nat.le_refl _,rfl,jj,a6.mod,ye.symm,fun _ _=>rfl⟩ ?_;rintro⟨uJ,dd,R⟩ Jx bb ⟨nb,ph,uF,ag0,MF,DZ,H0,Ay,D0⟩;dsimp only at nb ph uF ag0 MF DZ H0 Ay D0 ⊢;refine ae ?_;apply K.cond<;>intro g3
  .have fp:k+dd<l.length:=by omega
   have sr:∀i,(Addr.add ⟨b,0,none⟩ (k*2)).add (i*2)=⟨b,2*(k+i),none⟩:=fun i=>by
    rw[add_eq,add_eq];congr 1;omega
   have j1:R[k+dd]'(by omega)=l[k+dd]:=by
    have:=D0 (k+dd) (by omega)
    rw[List.getElem?_eq_getElem (by omega),List.getElem?_eq_getElem (by omega)] at this;injection this
   have j2:R[k+dd - 1]'(by omega)=l[k+dd - 1]:=by
    have:=D0 (k+dd - 1) (by omega)
    rw[List.getElem?_eq_getElem (by omega),List.getElem?_eq_getElem (by omega)] at this;injection this
   have d1:fg bb ((Addr.add ⟨b,0,none⟩ (k*2)).add (dd*2)) l[k+dd].enc:=by
    rw[sr,<-j1];exact DZ.at_ _
   have d2:fg bb ((Addr.add ⟨b,0,none⟩ (k*2)).add ((dd - 1)*2)) l[k+dd - 1].enc:=by
    rw[sr,<-j2,show k+(dd - 1)=k+dd - 1 from by omega];exact DZ.at_ _
   have v7:=o.Kb (l:=l) (n:=k+dd) (by omega) fp;refine ae ?_;refine K.dp (dd - 1) (by omega) (by omega) ?_;refine ae ?_;refine K.WK (sig:=[.i,.i]) (by kernel_rfl) (GB _ _) (GB _ _) fun r ba=>?_;rw[ne_eq,SL] at ba;refine ae ?_;intro bp aN;have VS:=DZ.ext aN;have ant:=d1.ext aN;cases r with
   | false =>
    have heq:l[k+dd - 1].op=l[k+dd].op/\l[k+dd - 1].n=l[k+dd].n:=Classical.byContradiction fun e=>by have:=ba.2 (fun a6=>e ⟨a6.1.symm,a6.2.symm⟩);cases this
    rw[if_pos heq] at v7;refine ae ?_;refine⟨(uJ,dd+1,R),⟨bk,bk,trivial⟩,⟨by simp only;omega,by simp only;omega,uF,by simp only;omega,MF,VS,H0.trans aN.mod,?_,D0⟩,by simp only;omega⟩;simp only;rw[<-Nat.add_assoc,v7,Ay]
   | true =>
    have c5:¬(l[k+dd - 1].op=l[k+dd].op/\l[k+dd - 1].n=l[k+dd].n):=fun e=>(ba.1 rfl) ⟨e.1.symm,e.2.symm⟩;rw[if_neg c5] at v7;refine ae ?_;refine K.alr (i:=uJ) VS (by rw[add_eq,Nat.zero_add,Nat.mul_comm]) (by omega) fun bR eZ LZ=>?_;refine ae ?_;refine⟨(uJ+1,dd+1,R.set uJ l[k+dd]),⟨bk,bk,trivial⟩,⟨by simp only;omega,by simp only;omega,by simp only;omega,by simp only;omega,by rw[List.length_set];exact MF,LZ,(H0.trans aN.mod).trans (eZ.mod rfl),?_,fun j aR=>?_⟩,by simp only;omega⟩
    .simp only;rw[<-Nat.add_assoc,v7,<-Ay,List.take_succ_eq_append_getElem (by rw[List.length_set];omega),List.getElem_set_self,List.take_set_of_le (Nat.le_refl _)]
    .simp only at aR;rw[List.getElem?_set_ne (by omega)];exact D0 j (by omega)
  .have LS:k+dd=l.length:=by omega
   rw[LS,List.take_length] at Ay;have qP:(o.comp l).length=uJ:=by rw[<-Ay,List.length_take];omega
   refine ae ?_;refine K.hQ uJ l.length c (by simp[fl,ft,cu]) (by simp[fl]) (by simp[fl]) ⟨by omega,aw,Nat.le_refl _⟩ (by simp) ?_;rw[if_neg (show ¬c=uJ by omega),Option.map_some];refine ae ?_;refine K.abp (k:=uJ) DZ (by simp only[ft,cu];rfl) (by omega) (fun _=>by rw[add_eq,Nat.zero_add,Nat.mul_comm]) fun v bp kh ox=>?_;rw[Ay] at ox;refine ae ?_;refine K.hQ 0 uJ c (by simp[fl]) (by simp[fl,ft,cu]) (by simp[fl]) ⟨by omega,by omega,Nat.le_refl _⟩ (by simp) ?_;rw[if_neg (show ¬c=0 by omega),Option.map_some];refine ae ?_;exact⟨by rw[qP,add_eq];rfl,ox,H0.trans kh⟩
end Go.Proofs.R
end
section
namespace Go.Proofs
open Go.Shelf
def Tryz.ala:Go.Shelf.Ren:=⟨fun | 6=>149 | 15=>206 | 14=>205 | 28=>250 | 29=>251 | 20=>242 | 21=>243 | 22=>244 | 23=>245 | 24=>246 | 25=>247 | 26=>248 | 27=>249 | 46=>292 | 47=>293 | 48=>294 | 49=>295 | 50=>296 | 57=>310 | n=>n,fun | 22=>50 | 24=>85 | 25=>218 | 3=>3 | 39=>186 | 0=>0 | 53=>301 | 55=>63 | 4=>4 | 46=>295 | 45=>294 | 50=>187 | 5=>5 | 9=>9 | 66=>327 | 70=>331 | 76=>339 | 77=>134 | n=>n,fun | n=>n⟩
theorem Tryz.Yf:Go.Proofs.SlLaysF0.n6 Tryz.prog Tryz.ala:={
 mixed:=by kernel_rfl
 f6:=⟨Tryz.f149.name,by decide,Tryz.func149.trans (congrArg some (by kernel_rfl))⟩
 f14:=⟨Tryz.f205.name,by decide,Tryz.func205.trans (congrArg some (by kernel_rfl))⟩
 f15:=Tryz.func206.trans (congrArg some (by kernel_rfl))
 f20:=⟨Tryz.f242.name,by decide,Tryz.func242.trans (congrArg some (by kernel_rfl))⟩
 f21:=⟨Tryz.f243.name,by decide,Tryz.func243.trans (congrArg some (by kernel_rfl))⟩
 f22:=⟨Tryz.f244.name,by decide,Tryz.func244.trans (congrArg some (by kernel_rfl))⟩
 f23:=⟨Tryz.f245.name,by decide,Tryz.func245.trans (congrArg some (by kernel_rfl))⟩
 f24:=⟨Tryz.f246.name,by decide,Tryz.func246.trans (congrArg some (by kernel_rfl))⟩
 f25:=⟨Tryz.f247.name,by decide,Tryz.func247.trans (congrArg some (by kernel_rfl))⟩
 f26:=⟨Tryz.f248.name,by decide,Tryz.func248.trans (congrArg some (by kernel_rfl))⟩
 f27:=⟨Tryz.f249.name,by decide,Tryz.func249.trans (congrArg some (by kernel_rfl))⟩
 f28:=Tryz.func250.trans (congrArg some (by kernel_rfl))
 f29:=Tryz.func251.trans (congrArg some (by kernel_rfl))
 f46:=⟨Tryz.f292.name,by decide,Tryz.func292.trans (congrArg some (by kernel_rfl))⟩
 f47:=Tryz.func293.trans (congrArg some (by kernel_rfl))
 f48:=Tryz.func294.trans (congrArg some (by kernel_rfl))
 f49:=⟨Tryz.f295.name,by decide,Tryz.func295.trans (congrArg some (by kernel_rfl))⟩
 f50:=⟨Tryz.f296.name,by decide,Tryz.func296.trans (congrArg some (by kernel_rfl))⟩
 f57:=⟨Tryz.f310.name,by decide,Tryz.func310.trans (congrArg some (by kernel_rfl))⟩
 t0:=Tryz.underlying0
 a0:=Tryz.isAgg0
 z0:=Tryz.sizeOf0
 v0:=Tryz.zeroValue0
 t3:=Tryz.underlying3
 a3:=Tryz.isAgg3
 z3:=Tryz.sizeOf3
 v3:=Tryz.zeroValue3
 t4:=Tryz.underlying4
 a4:=Tryz.isAgg4
 z4:=Tryz.sizeOf4
 v4:=Tryz.zeroValue4
 t5:=Tryz.underlying5
 a5:=Tryz.isAgg5
 z5:=Tryz.sizeOf5
 v5:=Tryz.zeroValue5
 t9:=Tryz.underlying9
 a9:=Tryz.isAgg9
 z9:=Tryz.sizeOf9
 v9:=Tryz.zeroValue9
 t22:=Tryz.underlying50
 a22:=Tryz.isAgg50
 z22:=Tryz.sizeOf50
 v22:=Tryz.zeroValue50
 t25:=Tryz.underlying218
 a25:=Tryz.isAgg218
 z25:=Tryz.sizeOf218
 v25:=Tryz.zeroValue218
 t39:=Tryz.underlying186
 a39:=Tryz.isAgg186
 z39:=Tryz.sizeOf186
 v39:=Tryz.zeroValue186
 t45:=Tryz.underlying294
 a45:=Tryz.isAgg294
 z45:=Tryz.sizeOf294
 v45:=Tryz.zeroValue294
 t46:=Tryz.underlying295
 a46:=Tryz.isAgg295
 z46:=Tryz.sizeOf295
 v46:=Tryz.zeroValue295
 t50:=Tryz.underlying187
 a50:=Tryz.isAgg187
 z50:=Tryz.sizeOf187
 v50:=Tryz.zeroValue187
 t53:=Tryz.underlying301
 a53:=Tryz.isAgg301
 z53:=Tryz.sizeOf301
 v53:=Tryz.zeroValue301
 t55:=Tryz.underlying63
 a55:=Tryz.isAgg63
 z55:=Tryz.sizeOf63
 v55:=Tryz.zeroValue63
 t66:=Tryz.underlying327
 a66:=Tryz.isAgg327
 z66:=Tryz.sizeOf327
 v66:=Tryz.zeroValue327
 t70:=Tryz.underlying331
 a70:=Tryz.isAgg331
 z70:=Tryz.sizeOf331
 v70:=Tryz.zeroValue331
 t76:=Tryz.underlying339
 a76:=Tryz.isAgg339
 z76:=Tryz.sizeOf339
 v76:=Tryz.zeroValue339
 t77:=Tryz.underlying134
 a77:=Tryz.isAgg134
 z77:=Tryz.sizeOf134
 v77:=Tryz.zeroValue134 }
end Go.Proofs
end
section
namespace Go.Proofs.R
open Go Go.RowKit Go.Sort Go.Shelf Go.Lib
theorem al8(x y:o.Node)(W:World):Calls Tryz.prog 150 #[.agg #[.int .i64 x.op,.int .i64 x.n],.agg #[.int .i64 y.op,.int .i64 y.n]] W fun e w'=>e = .returned (.int .i64 (o.A3 x y))/\∃q aiT,w'=grow (W.drewN q) aiT:=by
 go_enter Tryz.func150,Tryz.ntmps150
 go_wp2
 all_goals go_ret
 all_goals refine⟨?_,0,_,by rw[alloc_eq_grow,alloc_eq_grow,grow_grow];rfl⟩
 all_goals (congr 2;unfold o.A3;repeat' split)
 all_goals first | omega | rfl
theorem ain:SWO (ltOf o.A3) where
 irrefl x:=by
  have:=o.aii x
  rw[<-o.Ik] at this;simpa[ltOf] using this
 trans x y z h1 U:=by
  simp only[ltOf,decide_eq_true_eq] at h1 U ⊢;rw[o.Ik] at *;exact o.aij x y z h1 U
 ntrans x y z h1 U:=by
  simp only[ltOf,decide_eq_false_iff_not] at h1 U ⊢;rw[o.Ik] at *;unfold o.mz at *;omega
instance:Inhabited o.Node:=⟨⟨0,0⟩⟩
theorem ajj{w:World}{b:Nat}{cur:Array Value}{e:TypeId}{d:Array Value}(h:w.heap[b]? = some (.cells cur e)):(putRow id w b 0 d).heap[b]? = some (.cells (putCells id 0 d cur) e):=by
 unfold putRow mapBlock;simp only[Array.getElem?_modify,if_true,h,Option.map_some,onCells]
theorem ajk{w:World}{b k:Nat}{d:Array Value}(h:k≠b):(putRow id w b 0 d).heap[k]? = w.heap[k]? := by
 unfold putRow mapBlock;simp only[Array.getElem?_modify];rw[if_neg (fun e=>h e.symm)]
theorem Xf{w:World}{b:Nat}{d:Array Value}:(putRow id w b 0 d).heap.size=w.heap.size:=by
 unfold putRow mapBlock;simp
theorem Te{d:Array o.Node}{i:Nat}(h:i<d.size):(flatK o.Node.enc 2 d)[2*i]! = .int .i64 d[i].op/\(flatK o.Node.enc 2 d)[2*i+1]! = .int .i64 d[i].n:=by
 constructor
 .rw[get_flatK _ _ _ _ (by omega),show 2*i / 2=i from by omega,show 2*i % 2=0 from by omega,getElem!_pos _ i h];rfl
 .rw[get_flatK _ _ _ _ (by omega),show(2*i+1) / 2=i from by omega,show(2*i+1) % 2=1 from by omega,getElem!_pos _ i h];rfl
theorem alb{w:World}{b n:Nat}{l:List o.Node}{d:Array o.Node}{os:Array Obj}(h:gM w b l)(bw:d.size=l.length):gM (sortWorldK o.Node.enc 2 w b 0 n d os) b d.toList/\bt.Mod (fun i=>i=b) w (sortWorldK o.Node.enc 2 w b 0 n d os):=by
 obtain⟨cur,h1,U,ag⟩:=h.ex;have cw:=bt.cH h1;have pR:(Sort.ahead w n).heap[b]? = some (.cells cur T.f):=h1;have aZ:∀k,k<w.heap.size->(sortWorldK o.Node.enc 2 w b 0 n d os).heap[k]? = (putRow id (Sort.ahead w n) b 0 (flatK o.Node.enc 2 d)).heap[k]? := fun k hk=>by
  unfold sortWorldK grow putRowK;exact Array.getElem?_append_left (by rw[Xf];exact hk)
 constructor
 .refine⟨_,(aZ b cw).trans (ajj pR),by simp[putCells];omega,fun i ad=>?_⟩;have cO:i<d.size:=by simpa using ad
  obtain⟨f1,f2⟩:=Te cO;simp only[putCells,Array.getElem?_mapIdx,size_flatK,Array.getElem_toList];constructor
  .rw[Array.getElem?_eq_getElem (show 2*i<cur.size by omega),Option.map_some,if_pos (by omega),Nat.sub_zero,f1];rfl
  .rw[Array.getElem?_eq_getElem (show 2*i+1<cur.size by omega),Option.map_some,if_pos (by omega),Nat.sub_zero,f2];rfl
 .refine⟨rfl,rfl,rfl,?_,fun k hk aD=>(aZ k hk).trans (ajk aD)⟩;unfold sortWorldK grow putRowK;rw[Array.size_append,Xf];exact Nat.le_add_right _ _
theorem ak0{P:Program}{t:TypeId}{k:Nat}(h:(P.info? t).map (·.size)=some k)(w:World):(Go.sizeOf t).run P w = .ok k w:=by
 cases ad:P.info? t with
 | none=>rw[ad] at h;cases h
 | some i =>
  rw[ad] at h;have U:i.size=k:=by simpa using h
  simp[Go.sizeOf,bt.ti ad,U]
theorem ak9(b c:Nat)(l:List o.Node)(w:World)(h:gM w b l)(aS:l.length<=1000000) :
  bt.bu Tryz.prog F.CO #[.slice (some ⟨b,0,none⟩) l.length c,.func (.func F.CP) #[] #[]] w fun _ w' => ∃r:List o.Node,r.Perm l/\r.Pairwise (fun x y => ¬o.mz y x)/\gM w' b r/\bt.Mod (fun i=>i=b) w w':=by
 obtain⟨cur,h1,U,ag⟩:=h.ex;have Lp:=AnyQ.slices_SortFunc Tryz.Yf 2 (fun w=>bt.wU (t:=T.f) (b:=true) (by kernel_rfl) w) (fun w=>ak0 (t:=T.f) (by kernel_rfl) w) o.Node.enc (fun _=>rfl) (fun x v aT=>by simp[o.Node.enc] at aT;rcases aT with rfl | rfl<;>rfl) o.A3 ain F.CP #[] b 0 c l.toArray w
  (enters_of Tryz.func150 (by kernel_rfl) rfl) (fun _ _ _ _ x y=>al8 x y _) ?_ (bt.cH h1) (by simp;omega)
 .change Calls Tryz.prog F.CO _ _ _ at Lp;simp only[List.size_toArray] at Lp;refine Calls.mono Lp ?_;rintro e w' ⟨rfl,tP,n,os,aO,ay,rfl⟩;have dn:tP.size=l.length:=by simpa using aO.1
  obtain⟨dc,dd⟩:=alb (n:=n) (os:=os) h dn;refine⟨_,rfl,tP.toList,?_,?_,dc,dd⟩
  .have:=aO.2.2
   rw[show tP.extract 0 l.length=tP from by rw[<-dn];simp,show l.toArray.extract 0 l.length=l.toArray from by simp] at this;simpa using this
  .rw[List.pairwise_iff_getElem];intro i j ad aR Aj;have cO:i<tP.size:=by simpa using ad
   have eP:j<tP.size:=by simpa using aR
   have:=ay i j (Nat.zero_le _) Aj (by omega)
   rw[getElem!_pos _ i cO,getElem!_pos _ j eP] at this;simp only[ltOf,decide_eq_false_iff_not] at this;rw[o.Ik] at this;simpa using this
 .unfold HoldsK Holds;intro j aR;rw[size_flatK] at aR;have pc:j<2*l.length:=by simp at aR;omega
  have ad:j / 2<l.length:=by omega
  obtain⟨f1,f2⟩:=Te (d:=l.toArray) (i:=j / 2) (by simpa using ad);obtain⟨g1,g2⟩:=ag (j / 2) ad;have sV:w.frozen? ⟨b,0+j,none⟩=false:=by simp[World.frozen?,h1]
  refine⟨?_,sV⟩;rw[Nat.zero_add];rcases Nat.mod_two_eq_zero_or_one j with e | e
  .have pN:2*(j / 2)=j:=by omega
   rw[pN] at f1 g1;rw[f1];exact Ce h1 (by simpa using g1)
  .have pN:2*(j / 2)+1=j:=by omega
   rw[pN] at f2 g2;rw[f2];exact Ce h1 (by simpa using g2)
end Go.Proofs.R
end