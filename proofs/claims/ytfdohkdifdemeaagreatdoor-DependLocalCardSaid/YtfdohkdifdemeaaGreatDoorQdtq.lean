/- Texts joined: DepJ DepQ DepK LiteY DepL DepS DepM DepN Open1 Open5 DepY LiteQ. -/
import Derived.Test.YtfdohkdifdemeaaGreatDoorQdtc
import Derived.Test.YtfdohkdifdemeaaGreatDoorQdtd
import Derived.Test.YtfdohkdifdemeaaGreatDoorQdtg
import Derived.Test.YtfdohkdifdemeaaGreatDoorQdth
import Derived.Test.YtfdohkdifdemeaaGreatDoorQdti
import Derived.Test.YtfdohkdifdemeaaGreatDoorQdtj
import Derived.Test.YtfdohkdifdemeaaGreatDoorQdto
import Derived.Test.YtfdohkdifdemeaaGreatDoorQdtp
import Derived.SizedLaws
import Derived.JoinedCond
set_option linter.all false
set_option maxRecDepth 8000
set_option maxHeartbeats 32000000
section
theorem o.jl.go{m:o.Model}{ref:Int}{q p k:Nat}(cv:o.hf m ref q p k)(h:(o.da m p k).to≤(o.da m p k).from_):o.jl m ref true :=
 ⟨fun aH=>absurd cv.told aH,fun gF hC k' cX gk J2 _=>by
  obtain⟨rfl,rfl,rfl⟩:=cv.one J2;exact⟨fun _=>.inl h,fun _=>rfl⟩⟩
namespace Go.Proofs.R
open Go Go.RowKit bt
theorem ahH(cs:List Value)(m:o.Model)(ref:Int)(w:World)(h:o.dM w cs m)(aV:m.cG) :
  bw Tryz.prog F.Eh #[.agg cs.toArray,.int .i64 ref] w fun u w'=>(∃t,u = .bool t∧o.jl m ref t)∧Ext w w':=by
 have dk:=h;obtain⟨cz,bV,cj,c1,cq,c2,cr,bJ,cC,bW,rfl,ao,h1,U,ah,aJ,eH,dB,dH,ee,ei⟩:=h.form;refine bP E.Eh ?_;refine bM ?_;refine ad ?_;intro aq cp dT aC aK;refine ad ?_;refine K.call (HB _ m aq (dk.ext aC) aV) ?_;rintro _ aU ⟨rfl,aA⟩;replace aK:=aA.obj aK;have ba:=aC.trans aA;refine ad ?_;apply K.cond<;>intro g1;rotate_left
 ·refine ad ?_;exact⟨⟨false,bf,o.jl.no fun h=>g1 h.1⟩,ba⟩
 have h6:=o.mP g1;have j6:=o.oV h6.lim;refine ad ?_;refine K.call (EA _ m aU (dk.ext ba) aV h6.lim) ?_;rintro vr aY ⟨gN,ax⟩;obtain⟨ma,lS,rfl,_⟩:=gN.form;have p2:bG 2 (Flat o.Ref.enc) aY _ _:=bg.fB (enc:=o.Ref.enc) (fun _=>rfl) gN;replace aK:=ax.obj aK;have bz:=ba.trans ax;clear gN;refine ad ?_;apply K.cond<;>intro g2
 ·refine ad ?_;exact⟨⟨false,bf,o.jl.no fun h=>by have:=h.2.1;omega⟩,bz⟩
 refine ad ?_;apply K.cond<;>intro g3
 ·refine ad ?_;exact⟨⟨false,bf,o.jl.no fun h=>by have:=h.2.2;omega⟩,bz⟩
 obtain⟨q,p,k,cv⟩:=o.rX (m:=m) (ref:=ref) ⟨g1,by omega,by omega⟩;obtain⟨r,rfl⟩:=Int.eq_ofNat_of_zero_le (show 0≤ref by omega);have bd:r<(o.refs m).length:=by omega
 have l5:(o.refs m)[r].inst=(q:Int):=cv.at_.uA;have nX:(o.refs m)[r].cmd=(k:Int):=cv.at_.vX;obtain⟨kW,rfl⟩:=p2.addr (by omega);have aR:=cv.at_.af;have aW:=cv.at_.aW;have k1:=cv.at_.hk;have mD:=cv.at_.ip;obtain⟨a3,rfl⟩:=ah.addr (by omega);obtain⟨mI,cx,eg,dU,eL,fU⟩:=ah.at p aW;obtain⟨En,BM,rfl,DM⟩:=fU.form;obtain⟨ac,rfl⟩:=fU.addr (by omega);obtain⟨fT,fV,va,fS,kn,hM⟩:=fU.at k k1;obtain⟨hq,gl,rfl,_⟩:=kn.form;obtain⟨ur,ta,rfl,_⟩:=hM.form;have nU:=o.w2 aW k1;rw[←nU] at fS;unfold o.dt.enc at dU;unfold o.dL.enc at fS;have Di:=dU.ext bz;have GJ:=fS.ext bz;refine eh ?_;refine K.gK [1,2] (fun dY:Nat=>[(6,.pointer (some ⟨dY,0,none⟩))]) (fun dY W=>(∃hq gl bm gJ,W.heap[dY]? = some (.cells #[.string (o.da m p k).name,.int .i64 (o.da m p k).from_,.int .i64 (o.da m p k).to,.slice hq (o.da m p k).guard.length gl,.slice bm (o.da m p k).cn.length gJ,.bool (o.da m p k).fair] T.j))∧Ext aY W) ?_ ?_
 ·have p6:∀{W},Ext aY W→bw Tryz.prog F.oR #[.agg #[.slice cz m.scalars.length bV,.slice cj m.vars.length c1,.slice cq m.a7.length c2,.slice (some a3) m.procs.length bJ,.slice cC m.props.length bW]] W fun v w'=>(∃gB ci,v = .slice (some gB) (o.insts m).length ci∧jX w' v (o.insts m))∧Ext W w':=fun {W} he=>(vW _ m W (dk.ext (bz.trans he)) aV).mono fun v w' ⟨aO,gx⟩=>by
   have bs:jX w' v (o.insts m):=bg.fB (enc:=o.cU.enc) (fun _=>rfl) aO;obtain⟨dd,ci,rfl,_⟩:=bs.form;obtain⟨gB,rfl⟩:=bs.addr (by omega);exact⟨⟨gB,ci,rfl,bs⟩,gx⟩
  refine ad ?_;intro bo aF;replace aK:=aF.obj aK;have aci:=p2.ext Flat.ext aF;have bX:=bz.trans aF;refine ad ?_;refine⟨?_,?_⟩
  ·refine K.call (p6 aF) ?_;rintro _ bD ⟨⟨gB,ci,rfl,bs⟩,aM⟩;have w7:=aF.trans aM;have ca:=bz.trans w7;refine⟨aM,?_⟩;refine ad ?_;refine K.dx q (by rw[l5]) aR ?_;have Hc:=Di.ext w7;have Kw:=GJ.ext w7;refine ad ?_;refine⟨?_,?_⟩
   ·refine ad ?_;refine⟨aM,?_⟩;refine ad ?_;refine K.dx p (by rw[mD]) aW ?_;refine ad ?_;refine⟨?_,?_⟩
    ·refine ad ?_;refine⟨aM,?_⟩;refine ad ?_;refine K.dx k (by rw[nX]) k1 ?_;refine ad ?_;refine⟨?_,?_⟩
     ·refine ad ?_;refine⟨aM,?_⟩;refine ad ?_;intro bQ dY eK aN b5;refine⟨aM.trans aN,?_⟩;refine K.hT b5 rfl rfl u7 fun cd dC dq=>?_;have dw:=dC.ext aN eK;refine ad ?_;exact⟨dY,⟨bf,trivial⟩,⟨_,_,_,_,dq⟩,w7.trans dw⟩
     ·refine K.new ?_;intro bQ dY eK aN b5;refine⟨aM.trans aN,?_⟩;have q5:=Kw.ext aN;refine ad ?_;refine⟨aM.trans aN,?_⟩;refine K.hT b5 rfl rfl u7 fun dF hp dm=>?_;have gu:=hp.ext aN eK;refine ad ?_;exact⟨dY,⟨bf,trivial⟩,⟨_,_,_,_,dm⟩,w7.trans gu⟩
    ·refine K.new ?_;intro bQ dY eK aN b5;refine⟨aM.trans aN,?_⟩;have tS:=Hc.ext aN;have q5:=Kw.ext aN;refine ad ?_;refine⟨aM.trans aN,?_⟩;refine ad ?_;refine K.dx k (by rw[nX]) k1 ?_;refine ad ?_;refine⟨aM.trans aN,?_⟩;refine K.hT b5 rfl rfl u7 fun dF hp dm=>?_;have gu:=hp.ext aN eK;refine ad ?_;exact⟨dY,⟨bf,trivial⟩,⟨_,_,_,_,dm⟩,w7.trans gu⟩
   ·refine K.new ?_;intro bQ dY eK aN b5;refine⟨aM.trans aN,?_⟩;have tS:=Hc.ext aN;have q5:=Kw.ext aN;have akX:=bs.ext Flat.ext aN;refine ad ?_;refine⟨aM.trans aN,?_⟩;refine ad ?_;refine K.dx p (by rw[mD]) aW ?_;refine ad ?_;refine⟨aM.trans aN,?_⟩;refine ad ?_;refine K.dx k (by rw[nX]) k1 ?_;refine ad ?_;refine⟨aM.trans aN,?_⟩;refine K.hT b5 rfl rfl u7 fun dF hp dm=>?_;have gu:=hp.ext aN eK;refine ad ?_;exact⟨dY,⟨bf,trivial⟩,⟨_,_,_,_,dm⟩,w7.trans gu⟩
  ·refine K.new ?_;intro bD dY eK aM b5;refine⟨aM,?_⟩;refine ad ?_;refine K.call (p6 (aF.trans aM)) ?_;rintro _ bQ ⟨⟨gB,ci,rfl,bs⟩,aN⟩;have RX:=(aF.trans aM).trans aN;refine⟨aM.trans aN,?_⟩;refine ad ?_;refine K.dx q (by rw[l5]) aR ?_;have tS:=Di.ext RX;have q5:=GJ.ext RX;refine ad ?_;refine⟨aM.trans aN,?_⟩;refine ad ?_;refine K.dx p (by rw[mD]) aW ?_;refine ad ?_;refine⟨aM.trans aN,?_⟩;refine ad ?_;refine K.dx k (by rw[nX]) k1 ?_;refine ad ?_;refine⟨aM.trans aN,?_⟩;refine K.hT (aN.obj b5) rfl rfl u7 fun dF hp dm=>?_;have gu:=hp.ext (aM.trans aN) eK;refine ad ?_;exact⟨dY,⟨bf,trivial⟩,⟨_,_,_,_,dm⟩,aF.trans gu⟩
 rintro dY S bo ⟨⟨amG,akL,iR,akI,b5⟩,aF⟩;replace aK:=aF.obj aK;have bX:=bz.trans aF;refine ad ?_;apply K.cond<;>intro g5
 ·refine ad ?_;exact⟨⟨true,bf,o.jl.go cv g5⟩,bX⟩
 refine ad ?_;refine K.call (aih _ m bo (dk.ext bX) aV) ?_;rintro ajQ bD ⟨⟨b9,n,aO⟩,aM⟩;have ca:=bX.trans aM;replace aK:=aM.obj aK;have hlen:=WR g1;have j7:∃p,ajQ = .slice p n n∧(0<(o.il m).length→p=some ⟨b9,0,none⟩∧n=(o.il m).length∧bD.heap[b9]? = some (.cells (im (o.il m)).toArray T.l)):=by
  rcases aO with ⟨aG,rfl,rfl⟩ | ⟨rfl,aH,_,mG⟩
  ·exact⟨none,rfl,fun aB=>by rw[aG] at aB;simp at aB⟩
  ·exact⟨_,rfl,fun _=>⟨rfl,aH,mG⟩⟩
 obtain⟨agZ,rfl,Lk⟩:=j7;refine ad ?_;refine K.call (Wc _ m (r:Int) bD (dk.ext ca) aV) ?_;rintro _ bQ ⟨⟨ag,b4,a,b,rfl,ed,jN,er⟩,aN⟩;have c7:=ca.trans aN;have e5:=o.XK cv er;have J1:bG 1 (Flat c4) bQ b4 b:=bg.fB (enc:=c4) (fun _=>rfl) jN;obtain⟨rz,pW,rfl,gy⟩:=J1.form;clear aK b5;refine ad ?_;refine K.cR 10 b.length [1,7,9] (fun _:Unit=>[]) () (fun i _ W=>Ext bQ W∧∀j (aI:j<b.length),j<i→nu (o.il m) b[j]=false) bp bp ⟨Ext.refl _,fun j _ aI=>by omega⟩ ?_;rintro i _ iH cd af ⟨bC,jR⟩;have akW:=J1.ext Flat.ext bC;refine ad ?_;apply K.cond<;>intro g6;rotate_left
 ·refine ad ?_;refine⟨⟨false,bf,o.jl.of cv er ?_⟩,c7.trans bC⟩;refine⟨fun h=>(by cases h),fun h=>?_⟩;rcases h with h | h
  ·omega
  ·obtain⟨x,av,aG⟩:=List.any_eq_true.1 ((Na g1 e5).2 h);obtain⟨j,aI,rfl⟩:=List.mem_iff_getElem.1 av;rw[jR j aI (by omega)] at aG;cases aG
 have KY:i<b.length:=by omega
 obtain⟨kV,rfl⟩:=J1.addr (by omega);obtain⟨Eu,dQ⟩:=e5 _ (List.getElem_mem KY);obtain⟨rfl,rfl,mG⟩:=Lk (by omega);have gh:cd.cell? (Addr.add ⟨b9,0,none⟩ ((b[i]).toNat*1))=some (.bool (nu (o.il m) b[i])):=eN ((aN.trans bC).obj mG) (by rw[Nat.mul_one];simp[im,nu,show(b[i]).toNat<(o.il m).length by omega]);refine ad ?_;refine K.dx (b[i]).toNat (by omega) (by omega) ?_;refine ad ?_;refine K.ld gh ?_;refine ad ?_;cases g7:nu (o.il m) b[i] with
 | true =>
  refine ad ?_;exact⟨⟨true,bf,o.jl.of cv er ⟨fun _=>.inr ((Na g1 e5).1 (List.any_eq_true.2 ⟨_,List.getElem_mem KY,g7⟩)),fun _=>rfl⟩⟩,c7.trans bC⟩
 | false =>
  refine ad ?_;refine⟨KY,bf,(),trivial,bC,fun j aI gi=>?_⟩;rcases Nat.lt_or_ge j i with h | h
  ·exact jR j aI h
  ·obtain rfl:j=i:=by omega
   exact g7
end Go.Proofs.R
end
section
namespace o
open Go
def oq(m:Model)(q l:Int)(i:Nat):Prop := ∃(gF p k:Nat),hf m i gF p k∧(gF:Int)=q∧(da m p k).from_=l
def nD(m:Model)(q l:Int):Prop:=(check m).cM=0∧∃(gF p:Nat) (h:fW m gF p),(gF:Int)=q∧0≤l∧l<(m.procs[p]'(h.aW)).cW
def Bj(m:Model)(L:List (List Int×List Int))(q l:Int):Prop :=
 ∀i,oq m q l i→∀j (aI:j<(refs m).length),(refs m)[j].inst≠q→∀x y,L[i]? = some x→L[j]? = some y→¬jk x.1 x.2 y.1 y.2
structure iX(m:Model)(q l:Int)(t:Bool):Prop where
 off:¬nD m q l→t=false
 there:nD m q l→∀L,iZ m (refs m).length L→(t=true↔Bj m L q l)
theorem iX.no{m:Model}{q l:Int}(h:¬nD m q l):iX m q l false:=⟨fun _=>rfl,fun k=>absurd k h⟩
theorem iX.of{m:Model}{q l:Int}{t:Bool}{L:List (List Int×List Int)}(ed:nD m q l)(eJ:iZ m (refs m).length L)(h:t=true↔Bj m L q l):iX m q l t :=
 ⟨fun k=>absurd ed k,fun _ lu Kf=>by rw[←eJ.eq Kf];exact h⟩
theorem Hz{m:Model}{q p:Nat}{l:Int}(hk:(check m).cM=0)(bs:fW m q p)(ao:0≤l)(h1:l<(m.procs[p]'bs.aW).cW):nD m q l:=⟨hk,q,p,bs,rfl,ao,h1⟩
theorem fW.one{m:Model}{q p hC:Nat}(h:fW m q p)(bK:fW m q hC):p=hC:=by
 have a:=h.eq;have b:=bK.eq;omega
theorem nD.lt{m:Model}{q p:Nat}{l:Int}(h:nD m q l)(bs:fW m q p):0≤l∧l<(m.procs[p]'bs.aW).cW:=by
 obtain⟨_,gF,hC,ab2,e,ao,h1⟩:=h
 have:gF=q:=by omega
 subst this
 have:=bs.one ab2
 subst this;exact⟨ao,h1⟩
theorem nD.bA{m:Model}{q l:Int}(h:nD m q l):0≤q∧q<(insts m).length∧0≤l:=by
 obtain⟨_,gF,hC,bs,e,ao,h1⟩:=h
 have:=bs.aR
 omega
theorem Sx{m:Model}{q l:Int}{i gF p k:Nat}(cv:hf m i gF p k):oq m q l i↔((gF:Int)=q∧(da m p k).from_=l):=by
 constructor
 ·rintro⟨a,b,c,h,h1,U⟩;obtain⟨rfl,rfl,rfl⟩:=cv.one h;exact⟨h1,U⟩
 ·rintro⟨h1,U⟩;exact⟨gF,p,k,cv,h1,U⟩
theorem oq.lt{m:Model}{q l:Int}{i:Nat}(h:oq m q l i):i<(refs m).length:=by
 obtain⟨_,_,_,cv,_⟩:=h
 have:=cv.told.2.2
 omega
theorem MZ:∀l:List Int,∃r,na l r
 | []=>⟨[],List.Pairwise.nil,fun _=>Iff.rfl⟩
 | x :: l=>by
  obtain⟨r,bd⟩:=MZ l;by_cases av:x∈r
  ·exact⟨r,bd.jx,fun y=>by
    rw[bd.mem,List.mem_cons];exact⟨.inr,fun h=>h.elim (fun e=>e ▸ (bd.mem x).1 av) id⟩⟩
  ·refine⟨r.filter (· < x)++x :: r.filter (x < ·),?_,fun y=>?_⟩
   ·refine List.pairwise_append.2 ⟨bd.jx.sublist List.filter_sublist,List.pairwise_cons.2 ⟨fun y bS=>?_,bd.jx.sublist List.filter_sublist⟩,fun y bS z bL=>?_⟩
    ·simpa using(List.mem_filter.1 bS).2
    ·have h1:y<x:=by simpa using(List.mem_filter.1 bS).2
     rcases List.mem_cons.1 bL with e | e
     ·omega
     ·have U:x<z:=by simpa using(List.mem_filter.1 e).2
      omega
   ·rw[List.mem_append,List.mem_cons,List.mem_filter,List.mem_filter,List.mem_cons,←bd.mem y];simp only[decide_eq_true_eq];constructor
    ·rintro(h | h | h)
     ·exact .inr h.1
     ·exact .inl h
     ·exact .inr h.1
    ·rintro(h | h)
     ·exact .inr (.inl h)
     ·have:y≠x:=fun e=>av (e ▸ h)
      rcases Int.lt_or_lt_of_ne this with k | k
      ·exact .inl ⟨h,k⟩
      ·exact .inr (.inr ⟨h,k⟩)
theorem HT(m:Model)(ref:Int):∃a b,iG m ref a b:=by
 by_cases aL:Told m ref
 ·obtain⟨q,p,k,cv⟩:=rX aL;obtain⟨a,bu⟩:=MZ (n4 m q (da m p k) (da m p k).cn.length);obtain⟨b,aB⟩:=MZ (jA m q (da m p k) (da m p k).cn.length);exact⟨a,b,iG.of cv bu aB⟩
 ·exact⟨[],[],iG.nil aL⟩
theorem Xv(m:Model):∀n,∃L,iZ m n L
 | 0=>⟨[],iZ.nil m⟩
 | n+1=>by
  obtain⟨L,h⟩:=Xv m n;obtain⟨a,b,er⟩:=HT m n;exact⟨_,h.snoc er⟩
noncomputable def HA(m:Model)(q l:Int):Bool := @decide (nD m q l∧∀L,iZ m (refs m).length L→Bj m L q l) (Classical.propDecidable _)
theorem iX.is{m:Model}{q l:Int}{t:Bool}(h:iX m q l t):t=HA m q l:=by
 unfold HA;by_cases ed:nD m q l
 ·obtain⟨L,eJ⟩:=Xv m (refs m).length;have h1:=h.there ed L eJ;refine Bool.eq_iff_iff.2 (h1.trans ?_);rw[@decide_eq_true_iff _ (Classical.propDecidable _)];exact⟨fun k=>⟨ed,fun lu Kf=>eJ.eq Kf ▸ k⟩,fun k=>k.2 L eJ⟩
 ·rw[h.off ed];exact(@decide_eq_false _ (Classical.propDecidable _) fun k=>ed k.1).symm
noncomputable def H8(m:Model)(ref:Int):Bool := @decide (∃q p k a b,hf m ref q p k∧iG m ref a b∧((da m p k).to≤(da m p k).from_∨∃x∈b,x∈qp m)) (Classical.propDecidable _)
theorem jl.is{m:Model}{ref:Int}{t:Bool}(h:jl m ref t):t=H8 m ref:=by
 unfold H8;refine Bool.eq_iff_iff.2 ?_;rw[@decide_eq_true_iff _ (Classical.propDecidable _)];constructor
 ·intro e;have aL:Told m ref:=Classical.byContradiction fun aH=>by rw[h.none aH] at e;cases e
  obtain⟨q,p,k,cv⟩:=rX aL;obtain⟨a,b,er⟩:=HT m ref;exact⟨q,p,k,a,b,cv,er,(h.there q p k a b cv er).1 e⟩
 ·rintro⟨q,p,k,a,b,cv,er,hk⟩;exact(h.there q p k a b cv er).2 hk
def Gj:List Node:=[⟨1,1⟩]
def tp:Act:=⟨3,0,0,[],Gj⟩
def pg:dL:=⟨⟨#[103,111]⟩,0,1,[],[tp],false⟩
def r4:Var:=⟨⟨#[110]⟩,0,0,0,1,0⟩
def zp:dt:=⟨⟨#[80]⟩,0,2,[r4],[pg]⟩
def zq:dt:=⟨⟨#[81]⟩,0,2,[r4],[pg]⟩
def e8:Model:=⟨[],[],[],[zp,zq],[]⟩
def tm:dL:=⟨⟨#[103,111]⟩,1,0,[],[],false⟩
def vh:dt:=⟨⟨#[80]⟩,0,2,[],[tm]⟩
def kD:Model:=⟨[],[],[],[vh],[]⟩
theorem Cn:(check e8).cM=0:=by decide +kernel
theorem Cm:insts e8=[⟨0,0⟩,⟨1,0⟩]:=by decide +kernel
theorem tn:refs e8=[⟨0,0⟩,⟨1,0⟩]:=by decide +kernel
theorem aaS:(check kD).cM=0:=by decide +kernel
theorem R9:insts kD=[⟨0,0⟩]:=by decide +kernel
theorem Sa:refs kD=[⟨0,0⟩]:=by decide +kernel
theorem JL:hf e8 0 0 0 0:=⟨Cn,by decide,by rw[tn];decide,by
 have e:∀h,(refs e8)[(0:Int).toNat]'h=⟨0,0⟩:=fun h=>by simp[tn]
 rw[e];exact⟨by rw[Cm];decide,rfl,by simp[Cm],by decide,rfl,by decide⟩⟩
theorem Sb:hf e8 1 1 1 0:=⟨Cn,by decide,by rw[tn];decide,by
 have e:∀h,(refs e8)[(1:Int).toNat]'h=⟨1,0⟩:=fun h=>by simp[tn]
 rw[e];exact⟨by rw[Cm];decide,rfl,by simp[Cm],by decide,rfl,by decide⟩⟩
theorem aaQ:hf kD 0 0 0 0:=⟨aaS,by decide,by rw[Sa];decide,by
 have e:∀h,(refs kD)[(0:Int).toNat]'h=⟨0,0⟩:=fun h=>by simp[Sa]
 rw[e];exact⟨by rw[R9];decide,rfl,by simp[R9],by decide,rfl,by decide⟩⟩
theorem aaY:n4 e8 0 (da e8 0 0) (da e8 0 0).cn.length=[0]:=by decide +kernel
theorem aa3:jA e8 0 (da e8 0 0) (da e8 0 0).cn.length=[0,1]:=by decide +kernel
theorem aaZ:n4 e8 1 (da e8 1 0) (da e8 1 0).cn.length=[2]:=by decide +kernel
theorem aa4:jA e8 1 (da e8 1 0) (da e8 1 0).cn.length=[2,3]:=by decide +kernel
theorem aa0:qp e8=[]:=by decide +kernel
theorem Se{L:List (List Int×List Int)}(h:iZ e8 (refs e8).length L):L=[([0],[0,1]),([2],[2,3])]:=by
 have a1:=h.len;rw[tn] at a1
 match L,a1 with
 | [x,y],_ =>
  obtain⟨h1,U⟩:=(h.is 0 (by simp)).there _ _ _ JL;obtain⟨ah,aJ⟩:=(h.is 1 (by simp)).there _ _ _ Sb;rw[aaY] at h1;rw[aa3] at U;rw[aaZ] at ah;rw[aa4] at aJ;have b2:=AQ _ [0] h1.jx (by decide) h1.mem;have ba:=AQ _ [0,1] U.jx (by decide) U.mem;have bz:=AQ _ [2] ah.jx (by decide) ah.mem;have bX:=AQ _ [2,3] aJ.jx (by decide) aJ.mem;simp only[List.getElem_cons_zero,List.getElem_cons_succ] at b2 ba bz bX;obtain⟨jB,jC⟩:=x;obtain⟨mf,lL⟩:=y;simp only at b2 ba bz bX;subst b2 ba bz bX;rfl
theorem Sc:fW e8 0 0:=JL.inst
theorem aaV:fW e8 1 1:=Sb.inst
theorem Sd{q:Nat}(aR:q<2){t:Bool}{L:List (List Int×List Int)}(eJ:iZ e8 (refs e8).length L)(h:iX e8 q 0 t):t=true:=by
 have ed:nD e8 q 0:=by
  match q,aR with
  | 0,_=>exact Hz Cn Sc (by decide) (by decide)
  | 1,_=>exact Hz Cn aaV (by decide) (by decide)
 have dg:=Se eJ;refine(h.there ed L eJ).2 ?_;intro i af j aI cH x y av bS;subst dg;have lE:j<2:=by rw[tn] at aI;exact aI
 obtain⟨gF,p,k,cv,b2,_⟩:=af;have eP:i<2:=by have:=cv.told.2.2;rw[tn] at this;simp at this;omega
 have l5:=cv.at_.uA;simp only[tn] at cH l5
 match i,eP,j,lE with
 | 0,_,0,_=>simp at cH l5;omega
 | 1,_,1,_=>simp at cH l5;omega
 | 0,_,1,_ =>
  simp only[List.getElem?_cons_zero,List.getElem?_cons_succ,Option.some.injEq] at av bS;subst av bS;decide
 | 1,_,0,_ =>
  simp only[List.getElem?_cons_zero,List.getElem?_cons_succ,Option.some.injEq] at av bS;subst av bS;decide
theorem aaX{t:Bool}(h:iX e8 2 0 t):t=false:=h.off fun k=>by
 have:=k.bA.2.1
 rw[Cm] at this;simp at this
theorem aaW{t:Bool}(h:iX e8 0 2 t):t=false:=h.off fun k=>by
 have:=(k.lt Sc).2
 revert this
 decide
theorem aa1{t:Bool}{a b:List Int}(er:iG e8 0 a b)(h:jl e8 0 t):t=false:=by
 refine Bool.eq_false_iff.2 fun e=>?_;rcases(h.there _ _ _ _ _ JL er).1 e with k | ⟨x,_,k⟩
 ·revert k;decide
 ·rw[aa0] at k;cases k
theorem aa2{t:Bool}(h:jl e8 2 t):t=false:=h.none fun k=>by
 have:=k.2.2
 rw[tn] at this;simp at this
theorem aaT{t:Bool}{a b:List Int}(er:iG kD 0 a b)(h:jl kD 0 t):t=true :=
 (h.there _ _ _ _ _ aaQ er).2 (.inl (by decide))
theorem aa7:tp.cG:=by
 exact⟨k7 (by simp[tp]),k7 (by simp[tp]),k7 (by simp[tp]),by simp[tp,dD],by simp[tp,Gj,dD]⟩
theorem aa5:pg.cG:=by
 refine⟨k7 (by simp[pg]),k7 (by simp[pg]),by simp[pg,dD],by simp[pg,dD],?_⟩;intro b aB;simp[pg] at aB;subst aB;exact aa7
theorem aaU:e8.cG:=by
 refine⟨by simp[e8,dD],by simp[e8,dD],by simp[e8,dD],by simp[e8,dD],by simp[e8,dD],by simp[e8],by simp[e8],by simp[e8],?_,by simp[e8]⟩;have aO:∀a∈[r4],a.cG:=by
  intro a bu;simp at bu;subst bu;exact⟨k7 (by simp[r4]),k7 (by simp[r4]),k7 (by simp[r4]),k7 (by simp[r4]),k7 (by simp[r4])⟩
 have aw:∀c∈[pg],c.cG:=by
  intro c aw;simp at aw;subst aw;exact aa5
 intro a bu;simp[e8] at bu;rcases bu with rfl | rfl
 ·exact⟨k7 (by simp[zp]),k7 (by simp[zp]),by simp[zp,dD],by simp[zp,dD],aO,aw⟩
 ·exact⟨k7 (by simp[zq]),k7 (by simp[zq]),by simp[zq,dD],by simp[zq,dD],aO,aw⟩
theorem aaR:kD.cG:=by
 refine⟨by simp[kD,dD],by simp[kD,dD],by simp[kD,dD],by simp[kD,dD],by simp[kD,dD],by simp[kD],by simp[kD],by simp[kD],?_,by simp[kD]⟩;intro a bu;simp[kD] at bu;subst bu;refine⟨k7 (by simp[vh]),k7 (by simp[vh]),by simp[vh,dD],by simp[vh,dD],by simp[vh],?_⟩;intro c aw;simp[vh] at aw;subst aw;exact⟨k7 (by simp[tm]),k7 (by simp[tm]),by simp[tm,dD],by simp[tm,dD],by simp[tm]⟩
end o
end
section
namespace Go.Proofs.R
open Go Go.RowKit bt
theorem ahE(cs:List Value)(m:o.Model)(q l:Int)(w:World)(h:o.dM w cs m)(aV:m.cG) :
  bw Tryz.prog F.Ef #[.agg cs.toArray,.int .i64 q,.int .i64 l] w fun u w'=>(∃t,u = .bool t∧o.iX m q l t)∧Ext w w':=by
 have dk:=h;obtain⟨cz,bV,cj,c1,cq,c2,cr,bJ,cC,bW,rfl,ao,h1,U,ah,aJ,eH,dB,dH,ee,ei⟩:=h.form;refine bP E.Ef ?_;refine bM ?_;refine ad ?_;intro aq ch fE aC bB;refine ad ?_;refine K.call (HB _ m aq (dk.ext aC) aV) ?_;rintro _ aU ⟨rfl,aA⟩;replace bB:=aA.obj bB;have ba:=aC.trans aA;refine ad ?_;apply K.cond<;>intro g1;rotate_left
 ·refine ad ?_;exact⟨⟨false,bf,o.iX.no fun k=>g1 k.1⟩,ba⟩
 have h6:=o.mP g1;refine ad ?_;refine K.call (vW _ m aU (dk.ext ba) aV) ?_;rintro vr aY ⟨gN,ax⟩;have bs:jX aY vr (o.insts m):=bg.fB (enc:=o.cU.enc) (fun _=>rfl) gN;obtain⟨dd,ci,rfl,_⟩:=bs.form;replace bB:=ax.obj bB;have bz:=ba.trans ax;clear gN;refine ad ?_;apply K.cond<;>intro g2
 ·refine ad ?_;exact⟨⟨false,bf,o.iX.no fun k=>by have:=k.bA;omega⟩,bz⟩
 refine ad ?_;apply K.cond<;>intro g3
 ·refine ad ?_;exact⟨⟨false,bf,o.iX.no fun k=>by have:=k.bA;omega⟩,bz⟩
 obtain⟨kc,rfl⟩:=Int.eq_ofNat_of_zero_le (show 0≤q by omega);have aR:kc<(o.insts m).length:=by omega
 obtain⟨p,hIn⟩:=o.DB aR;have aW:=hIn.aW;have mD:=hIn.eq;obtain⟨gB,rfl⟩:=bs.addr (by omega);obtain⟨a3,rfl⟩:=ah.addr (by omega);obtain⟨mI,cx,eg,dU,eL,fU⟩:=ah.at p aW;obtain⟨fz,ir,rfl,_⟩:=eL.form;obtain⟨En,BM,rfl,DM⟩:=fU.form;unfold o.dt.enc at dU;have Di:=dU.ext bz;refine ad ?_;intro bo aF;have bX:=bz.trans aF;have Gt:=bs.ext Flat.ext aF;have T6:=Di.ext aF;replace bB:=aF.obj bB;refine ad ?_;refine K.dx p (by rw[mD]) aW ?_;refine ad ?_;intro bD kA oE aM c5;refine⟨aM,?_⟩;refine ad ?_;intro bQ fy b5;have aN:=fy.ext aM oE;have al6:=cy bB;replace bB:=aN.obj bB;have c7:=bX.trans aN;clear c5 bs Gt T6 Di;refine ad ?_;apply K.cond<;>intro g4
 ·refine ad ?_;exact⟨⟨false,bf,o.iX.no fun k=>by have:=k.bA;omega⟩,c7⟩
 refine ad ?_;apply K.cond<;>intro g5
 ·refine ad ?_;exact⟨⟨false,bf,o.iX.no fun k=>by have:=k.lt hIn;omega⟩,c7⟩
 have ed:o.nD m kc l:=o.Hz g1 hIn (by omega) (by omega);have j6:=o.oV h6.lim;refine ad ?_;intro cd bC;have dw:=c7.trans bC;replace bB:=bC.obj bB;refine ad ?_;refine K.call (EA _ m cd (dk.ext dw) aV h6.lim) ?_;rintro vr c9 ⟨gN,bU⟩;obtain⟨ma,lS,rfl,_⟩:=gN.form;have p2:bG 2 (Flat o.Ref.enc) c9 _ _:=bg.fB (enc:=o.Ref.enc) (fun _=>rfl) gN;clear gN;have eX:=dw.trans bU;refine⟨bU,?_⟩;refine ad ?_;refine K.call (WJ _ m c9 (dk.ext eX) aV h6.lim) ?_;rintro _ dF ⟨⟨L,base,eJ,p4,Kl,er⟩,cL⟩;obtain⟨Mp,Jb,rfl,_⟩:=er.form;have nn:bG 2 Bv dF _ L:=er.od;have gu:=eX.trans cL;have aaq:=(bC.trans bU).trans cL;have xm:=eJ.len;have dm:=aaq.obj b5;have Gv:=p2.ext Flat.ext cL;clear bB b5 er p2;refine ad ?_;refine K.cR 11 (o.refs m).length [1,2,8,9,10] (fun _:Unit=>[]) () (fun i _ W=>Ext dF W∧∀j,j<i→o.oq m kc l j→∀k (hk:k<(o.refs m).length),(o.refs m)[k].inst≠kc→∀x y,L[j]? = some x→L[k]? = some y→¬o.jk x.1 x.2 y.1 y.2) bp bp ⟨Ext.refl _,fun j h=>absurd h (Nat.not_lt_zero _)⟩ ?_;rintro i _ S fe af ⟨dj,jR⟩;have nL:=gu.trans dj;have nQ:=dj.obj dm;have ach:=Gv.ext Flat.ext dj;refine ad ?_;apply K.cond<;>intro g6;rotate_left
 ·refine ad ?_;exact⟨⟨true,bf,o.iX.of ed eJ ⟨fun _ j aI=>jR j (by have:=aI.lt;omega) aI,fun _=>rfl⟩⟩,nL⟩
 have zQ:i<(o.refs m).length:=by omega
 obtain⟨gF,hC,k',cv⟩:=o.rX (m:=m) (ref:=i) ⟨g1,by omega,by omega⟩;have l5:(o.refs m)[i].inst=(gF:Int):=cv.at_.uA;have nX:(o.refs m)[i].cmd=(k':Int):=cv.at_.vX;have xz:=o.Sx (q:=kc) (l:=l) cv;obtain⟨kW,rfl⟩:=Gv.addr (by omega);have skip:(¬o.oq m kc l i)→∀j,j<i+1→o.oq m kc l j→∀k (hk:k<(o.refs m).length),(o.refs m)[k].inst≠kc→∀x y,L[j]? = some x→L[k]? = some y→¬o.jk x.1 x.2 y.1 y.2:=fun aH j aI aT=>by
  rcases Nat.lt_or_ge j i with h | h
  ·exact jR j h aT
  ·obtain rfl:j=i:=by omega
   exact absurd aT aH
 refine ad ?_;apply K.cond<;>intro g7;rotate_left
 ·refine ad ?_;intro fQ hn;refine ad ?_;exact⟨zQ,bf,(),trivial,dj.trans hn,skip fun aT=>by rw[xz] at aT;rw[l5] at g7;omega⟩
 have aeo:gF=kc:=by rw[l5] at g7;omega
 subst aeo;obtain rfl:=hIn.one cv.inst;have k1:=cv.at_.hk;obtain⟨ac,rfl⟩:=fU.addr (by omega);obtain⟨fT,fV,va,fS,kn,hM⟩:=fU.at k' k1;obtain⟨hq,gl,rfl,_⟩:=kn.form;obtain⟨ur,ta,rfl,_⟩:=hM.form;have nU:=o.w2 aW k1;rw[←nU] at fS;unfold o.dL.enc at fS;have ac5:=fS.ext nL;refine ad ?_;refine K.dx k' (by rw[nX]) k1 ?_;refine ad ?_;intro fQ hn;refine ad ?_;apply K.cond<;>intro g8;rotate_left
 ·refine ad ?_;exact⟨zQ,bf,(),trivial,dj.trans hn,skip fun aT=>by rw[xz] at aT;omega⟩
 have r1:=nL.trans hn;have OF:=dj.trans hn;have akZ:=Gv.ext Flat.ext OF;have KX:i<L.length:=by omega
 obtain⟨IV,rfl⟩:=nn.addr (by omega);obtain⟨jB,jC,h7,Dv,Dw⟩:=nn.at i KX;clear fS ac5 nQ dU ach;refine ad ?_;refine K.cR 12 (o.refs m).length [1,2,8,9,10,11] (fun _:Unit=>[]) () (fun j _ W=>Ext dF W∧∀k,k<j→∀(hk:k<(o.refs m).length),(o.refs m)[k].inst≠(gF:Int)→∀y,L[k]? = some y→¬o.jk L[i].1 L[i].2 y.1 y.2) bp bp ⟨OF,fun k h=>absurd h (Nat.not_lt_zero _)⟩ ?_;rintro j _ iH kO aI ⟨en,zV⟩;have qU:=gu.trans en;have ak0:=Gv.ext Flat.ext en;refine ad ?_;apply K.cond<;>intro g9;rotate_left
 ·refine ad ?_;refine⟨zQ,bf,(),trivial,en,fun k hk aT b aB cH x y av bS=>?_⟩;rcases Nat.lt_or_ge k i with h | h
  ·exact jR k h aT b aB cH x y av bS
  ·obtain rfl:k=i:=by omega
   rw[List.getElem?_eq_getElem KX] at av;injection av with av
   subst av;exact zV b (by omega) aB cH y bS
 have vA:j<(o.refs m).length:=by omega
 have p7:j<L.length:=by omega
 refine ad ?_;apply K.cond<;>intro g10
 ·refine ad ?_;intro mU gC;refine ad ?_;refine⟨vA,bf,(),trivial,en.trans gC,fun k hk C9 cH y bS=>?_⟩;rcases Nat.lt_or_ge k j with h | h
  ·exact zV k h C9 cH y bS
  ·obtain rfl:k=j:=by omega
   exact absurd g10 cH
 obtain⟨mf,lL,xv,Dx,Dy⟩:=nn.at j p7;have alq:=h7.ext en;have alv:=xv.ext en;refine ad ?_;refine K.gm (.bool (decide (o.jk L[i].1 L[i].2 L[j].1 L[j].2))) (fun w' e=>Xr jB jC mf lL _ _ _ _ w' (Dv.ext Flat.ext (en.trans e)) (Dw.ext Flat.ext (en.trans e)) (Dx.ext Flat.ext (en.trans e)) (Dy.ext Flat.ext (en.trans e))) ?_;refine ad ?_;intro mU gC;refine ad ?_;apply K.cond<;>intro g11
 ·refine ad ?_;refine⟨⟨false,bf,o.iX.of ed eJ ⟨(fun h=>by cases h),fun h=>?_⟩⟩,qU.trans gC⟩;exact absurd g11 (h i (xz.2 ⟨rfl,by omega⟩) j vA g10 _ _ (List.getElem?_eq_getElem KX) (List.getElem?_eq_getElem p7))
 ·refine ad ?_;refine⟨vA,bf,(),trivial,en.trans gC,fun k hk C9 cH y bS=>?_⟩;rcases Nat.lt_or_ge k j with h | h
  ·exact zV k h C9 cH y bS
  ·obtain rfl:k=j:=by omega
   rw[List.getElem?_eq_getElem p7] at bS;injection bS with bS
   subst bS;exact g11
end Go.Proofs.R
end
section
namespace bt
open Go Go.RowKit
section
variable{P:Program}{S:Fr}{w:World}
theorem fL.ah8{α:Type}{enc:α→Value}{g:Operand}{p:Nat}{a b:e1}{Q:Option Nat→dS→Fr→World→Prop}{jL:Nat}{gy:Array Value}{hv:World→World→Prop}{mq ov:List α→Prop}{N:Nat}{w0:World}
  (aV:bj S g = .func (.func jL) #[] gy)(dA:okF P jL=true)(rf:SeqStopsK Fence.wide 0 P jL gy (fun x=>#[enc x]) hv mq ov N w0)(he:Ext w0 w)(q1:Bg hv w.heap.size)
  (ep Fm:List α→World→Prop)(bs:OwnFrom w.heap.size ep)(ab4:OwnFrom w.heap.size Fm)(ao:ep [] w)
  (Dk:∀pre x W,ep pre W→pre.length<N→dR P a (hb (fun rL hI=>KeepsFrom w.heap.size W hI∧hv W hI∧∀eE,rK w.heap.size hI eE →
   dR P b (hb (fun _ b8=>KeepsFrom w.heap.size eE b8∧hv eE b8∧ep (pre++[x]) b8) (fun e _ b8=>e = .ret∧KeepsFrom w.heap.size eE b8∧Fm (pre++[x]) b8) ⟨⟩) rL eE ⟨⟩) (fun _ _ _=>False) ⟨⟩) (cc S p (enc x)) W ⟨⟩)
  (xw:∀D xs W,w.heap.size≤D→mq xs→ep xs W→W.heap[D]? = some (.deferred (some []))→Q (some D) .normal S W)
  (aet:∀D xs W,w.heap.size≤D→Fm xs W→W.heap[D]? = some (.deferred (some []))→Q (some D) .ret S W):mS P (.rD g p a b) Q S w:=by
 refine⟨α,enc,jL,gy,hv,mq,ov,N,w0,aV,dA,rf,he,q1,ep,fun e xs W=>e = .ret∧Fm xs W,bs,fun e s A B row aG ps bd=>⟨aG.1,ab4 s A B row aG.2 ps bd⟩,ao,fun pre x W af a1=>?_,xw,fun D e pre W _ hj _ h bx=>?_⟩
 ·have h:=Dk pre x W af a1;unfold dR hb at h;refine og a _ _ _ W (fun e rL hI _ h1=>?_) h;cases e with
  | normal =>
   obtain⟨dc,cY,gW⟩:=h1;refine⟨dc,cY,fun eE bd=>?_⟩;have U:=gW eE bd;refine og b _ _ _ eE (fun e iH mu _ ah=>?_) U;cases e with
   | normal=>exact ah
   | exit _=>exact absurd ah.1 (by simp)
   | ret=>exact⟨ah.2.1,rfl,ah.2.2⟩
   | fA _=>exact absurd ah.1 (by simp)
  | exit _=>exact h1.elim
  | ret=>exact h1.elim
  | fA _=>exact h1.elim
 ·obtain⟨rfl,af⟩:=h;exact aet D pre W hj af bx
theorem fL.gK{β:Type}{a:e1}{b:qE}{Q:Option Nat→dS→Fr→World→Prop}(cD:List Nat)(M:β→List (Nat×Value))(N:β→World→Prop)(h1:dR P a (hb (fun fh b1 => ∃x,Has fh (M x)∧N x b1) (Q none) ⟨⟩) S w ⟨⟩)
  (U:∀x a8 w',N x w'→mS P b Q (sN (M x) (sw S cD a8)) w')(bx:(cD.all fun t => !a.fi.contains t)=true:=by rfl):mS P (.hS a b) Q S w:=by
 unfold dR hb at h1;show eg P a (sQ (fun S w=>mS P b Q S w) (Q none)) S w;refine og a _ _ _ w (fun e rL hI hk h=>?_) h1;cases e with
 | normal =>
  obtain⟨x,bq,fN⟩:=h;have h:=U x rL hI fN;rw[DJ cD fun t aL=>hk t (HG bx t aL),EJ _ bq] at h;exact h
 | exit _=>exact h
 | ret=>exact h
 | fA _=>exact h
theorem lq.mod{gO:Nat}{cD:List TypeId}{W b8:World}(h:lq gO cD W b8):Mod (fun k => ¬∃c t f,W.heap[k]? = some (.cells c t f)∧t∈cD) W b8 :=
 ⟨h.1.os,h.1.tape,h.1.output,h.1.size,fun k _ aH=>by
  obtain⟨c,t,f,h1,U⟩:=Classical.not_not.1 aH;exact h.2 k c t f h1 U⟩
theorem lq.ext{w:World}{cD:List TypeId}{W b8:World}(h:lq w.heap.size cD W b8)(he:Ext w W):Ext w b8:=Below.trans he h.1
theorem lq.own{α:Type}{enc:α→List Value}{e:TypeId}{sz base gO:Nat}{cD:List TypeId}{W b8:World}{v:Value}{xs:List α}(h:lq gO cD W b8)(aZ:bg enc e sz base W v xs)(he:e∈cD):bg enc e sz base b8 v xs :=
 aZ.mod h.mod fun k hk a=>by
  obtain⟨cur,aw⟩:=aZ.aQ k hk;exact a ⟨_,_,_,aw,he⟩
theorem lq.obj{gO:Nat}{cD:List TypeId}{W b8:World}(h:lq gO cD W b8){k:Nat}{c:Array Value}{t:TypeId}{f:Nat×Nat}(hk:W.heap[k]? = some (.cells c t f))(aL:t∈cD):b8.heap[k]? = some (.cells c t f):=(h.2 k c t f hk aL).trans hk
end
end bt
end
section
namespace o
open Go
abbrev Bx(m:Model)(q l:Int):={i:Nat // i<(refs m).length∧oq m q l i}
end o
namespace Go.Proofs.R
open Go Go.RowKit bt
abbrev abr:List TypeId:=[T.ak,T.n,T.a,T.b]
theorem abt{nx w0:World}{cF pV s7:Nat}{cs:List Value}{m:o.Model}{q l:Int}(nT:w0.heap[cF]? = some (.cells cs.toArray T.b))(CS:w0.heap[pV]? = some (.cells #[.int .i64 q] T.a))(gh:w0.heap[s7]? = some (.cells #[.int .i64 l] T.a))
  (h:o.dM nx cs m)(oL:Ext nx w0)(aV:m.cG)(C7:(o.check m).cM=0) :
  SeqStopsK Fence.wide 0 Tryz.prog F.gB #[.pointer (some ⟨cF,0,none⟩),.pointer (some ⟨pV,0,none⟩),.pointer (some ⟨s7,0,none⟩)] (fun x:o.Bx m q l=>#[.int .i64 (x.1:Nat)]) (lq nx.heap.size abr) (fun xs => ∀i,o.oq m q l i→i∈xs.map Subtype.val) (fun _=>True) (o.refs m).length w0:=by
 intro uk hZ IH W aB pj ab5 bS G4;have zJ:Ext nx W:=oL.trans aB;have Ts:=Ext.obj (w:=w0) aB nT;have Tv:=Ext.obj (w:=w0) aB CS;have Tp:=Ext.obj (w:=w0) aB gh;have dk:=h;have h6:=o.mP C7;have j6:=o.oV h6.lim;obtain⟨cz,bV,cj,c1,cq,c2,cr,bJ,cC,bW,rfl,ao,h1,U,ah,aJ,eH,dB,dH,ee,ei⟩:=h.form;refine callsIn_wide.2 (Calls.mono (show bw Tryz.prog F.gB #[.func (.yield uk) #[] #[],.pointer (some ⟨cF,0,none⟩),.pointer (some ⟨pV,0,none⟩),.pointer (some ⟨s7,0,none⟩)] W (fun _ b8=>(∃xs,(∀i,o.oq m q l i→i∈xs.map Subtype.val)∧hZ xs b8)∨(∃pre:List (o.Bx m q l),True∧IH pre b8)) from ?_) fun e b8 ⟨v,b2,ba⟩=>⟨⟨v,b2⟩,ba⟩);have zB:∀{pre:List (o.Bx m q l)} {w w':World},hZ pre w→Ext w w'→hZ pre w':=fun {pre w w'} aI e=>pj pre w w' none aI e.SB (fun r e=>by cases e);clear nT CS gh;refine bP E.gB ?_;refine bM ?_;refine ad ?_;refine K.call (Ae _ m W (dk.ext zJ) aV) ?_;rintro cw aq ⟨fq,aC⟩;obtain⟨dd,ci,rfl,_⟩:=fq.form;have b2:=zJ.trans aC;refine ad ?_;refine K.call (EB _ m aq (dk.ext b2) h6.lim) ?_;rintro vr aU ⟨gN,aA⟩;obtain⟨ma,lS,rfl,_⟩:=gN.form;have ba:=b2.trans aA;have qU:=aC.trans aA;have GM:=qU.obj Ts;have GN:=qU.obj Tv;have GL:=qU.obj Tp;have aeK:=fq.ext aA;have lE:=zB G4 qU;clear Ts Tv Tp fq G4;refine ad ?_;refine K.cR 13 (o.refs m).length [0,1,2,3,5,11,12] (fun _=>[]) ([]:List (o.Bx m q l)) (fun k pre w'=>(Ext nx w'∧w'.heap[cF]? = aU.heap[cF]? ∧ w'.heap[pV]? = aU.heap[pV]? ∧ w'.heap[s7]? = aU.heap[s7]? ∧ bg o.cU.enc T.n 2 W.heap.size w' (.slice dd (o.insts m).length ci) (o.insts m)∧bg o.Ref.enc T.ak 2 aq.heap.size w' (.slice ma (o.refs m).length lS) (o.refs m)∧hZ pre w')∧pre.length≤k∧∀i,i<k→o.oq m q l i→i∈pre.map Subtype.val) bp bp
  ⟨⟨ba,rfl,rfl,rfl,aeK,gN,lE⟩,Nat.le_refl _,fun i h=>absurd h (Nat.not_lt_zero _)⟩ ?_
 rintro k pre S aY hk ⟨⟨bz,KB,KG,Kz,LH,LK,p7⟩,qa,e5⟩;rw[GM] at KB;rw[GN] at KG;rw[GL] at Kz;refine ad ?_;apply K.cond<;>intro g1;rotate_left
 ·refine ad ?_;exact .inl ⟨pre,fun i af=>e5 i (by have:=af.lt;omega) af,p7⟩
 have cT:k<(o.refs m).length:=by omega
 have p2:bG 2 (Flat o.Ref.enc) aY _ _:=bg.fB (enc:=o.Ref.enc) (fun _=>rfl) LK;have SM:jX aY _ (o.insts m):=bg.fB (enc:=o.cU.enc) (fun _=>rfl) LH;obtain⟨kW,rfl⟩:=p2.addr (by omega);obtain⟨gF,hC,k',cv⟩:=o.rX (m:=m) (ref:=k) ⟨C7,by omega,by omega⟩;have l5:(o.refs m)[k].inst=(gF:Int):=cv.at_.uA;have nX:(o.refs m)[k].cmd=(k':Int):=cv.at_.vX;have xz:=o.Sx (q:=q) (l:=l) cv;have iw:=p2.at k cT;obtain⟨x,av⟩:∃x,x=(o.refs m)[k]:=⟨_,rfl⟩;rw[←av] at l5 nX iw;have iw:eB aY (kW.add (k*2)) x.enc:=iw;unfold o.Ref.enc at iw;refine ad ?_;intro wn kX iM fF fT;refine ad ?_;intro bo eu dq;replace dq:bo.heap[kX]? = some (.cells #[.int .i64 x.inst,.int .i64 x.cmd] T.ak):=by rw[av];exact dq
 have aF:Ext aY bo:=eu.ext fF iM;have bX:=bz.trans aF;have Tq:=aF.obj KB;have Tt:=aF.obj KG;have Tn:=aF.obj Kz;have SN:=SM.ext Flat.ext aF;clear fT fF KB KG Kz;refine ad ?_;intro bD aM;have ca:=bX.trans aM;have KC:=aM.obj Tq;have KH:=aM.obj Tt;have KA:=aM.obj Tn;have xr:=aM.obj dq;have SO:=SN.ext Flat.ext aM;have IB:=aF.trans aM;have C6:=zB p7 IB;have LI:=LH.ext IB;have LL:=LK.ext IB;clear Tq Tt Tn dq SN LH LK;have skip:¬o.oq m q l k→∀i,i<k+1→o.oq m q l i→i∈pre.map Subtype.val:=fun aH i af aT=>by
  rcases Nat.lt_or_ge i k with h | h
  ·exact e5 i h aT
  ·obtain rfl:i=k:=by omega
   exact absurd aT aH
 refine ad ?_;apply K.cond<;>intro g2;rotate_left
 ·refine ad ?_;exact⟨cT,bf,pre,trivial,⟨ca,KC.trans GM.symm,KH.trans GN.symm,KA.trans GL.symm,LI,LL,C6⟩,by omega,skip fun aT=>by rw[xz] at aT;omega⟩
 refine ad ?_;have ew:bw Tryz.prog F.k #[.agg #[.slice cz m.scalars.length bV,.slice cj m.vars.length c1,.slice cq m.a7.length c2,.slice cr m.procs.length bJ,.slice cC m.props.length bW],.slice dd (o.insts m).length ci,.agg #[.int .i64 x.inst,.int .i64 x.cmd]] bD fun u w'=>(∃hq gl bm gJ,u = .agg #[.string (o.da m hC k').name,.int .i64 (o.da m hC k').from_,.int .i64 (o.da m hC k').to,.slice hq (o.da m hC k').guard.length gl,.slice bm (o.da m hC k').cn.length gJ,.bool (o.da m hC k').fair])∧Ext bD w':=(RC _ _ m k gF hC k' bD (dk.ext ca) SO cv x l5 nX).mono fun u w' ⟨⟨fV,va,hu,aH,bu⟩,gx⟩=>by
  obtain⟨hq,gl,rfl,_⟩:=aH.form;obtain⟨bm,gJ,rfl,_⟩:=bu.form;exact⟨⟨hq,gl,bm,gJ,hu⟩,gx⟩
 refine K.call ew ?_;clear ew;rintro _ bQ ⟨⟨hq,gl,bm,gJ,rfl⟩,aN⟩;have c7:=ca.trans aN;have zR:=zB C6 aN;have Tr:=aN.obj KC;have Tu:=aN.obj KH;have To:=aN.obj KA;have Un:=LI.ext aN;have Uo:=LL.ext aN;refine⟨aN,?_⟩;clear KC KH KA xr LI LL SO p2 SM iw;refine ad ?_;refine K.jd (v:=.int .i64 (o.da m hC k').from_) rfl ?_;refine ad ?_;apply K.cond<;>intro g3;rotate_left
 ·refine ad ?_;exact⟨cT,bf,pre,trivial,⟨c7,Tr.trans GM.symm,Tu.trans GN.symm,To.trans GL.symm,Un,Uo,zR⟩,by omega,skip fun aT=>by rw[xz] at aT;omega⟩
 have aT:o.oq m q l k:=xz.2 ⟨by omega,g3⟩;refine ad ?_;refine K.yield (bS pre ⟨k,cT,aT⟩ bQ zR (by omega)) ?_;rintro e cd (⟨rfl,K0,zS⟩ | ⟨rfl,K0⟩)
 ·refine⟨.bool true,rfl,?_⟩;refine ad ?_;refine⟨cT,bf,pre++[⟨k,cT,aT⟩],trivial,⟨zS.ext c7,(zS.obj Tr (by decide)).trans GM.symm,(zS.obj Tu (by decide)).trans GN.symm,(zS.obj To (by decide)).trans GL.symm,zS.own Un (by decide),zS.own Uo (by decide),K0⟩,by simp;omega,fun i af KT=>?_⟩;rw[List.map_append,List.mem_append];rcases Nat.lt_or_ge i k with h | h
  ·exact .inl (e5 i h KT)
  ·obtain rfl:i=k:=by omega
   exact .inr (by simp)
 ·refine⟨.bool false,rfl,?_⟩;refine ad ?_;exact .inr ⟨_,trivial,K0⟩
theorem afO(x:o.Ref)(pV:Nat)(q:Int)(w:World)(h:w.heap[pV]? = some (.cells #[.int .i64 q] T.a)) :
  bw Tryz.prog F.y2 #[.agg #[.int .i64 x.inst,.int .i64 x.cmd],.pointer (some ⟨pV,0,none⟩)] w fun v w'=>v = .bool (!decide (x.inst=q))∧Ext w w':=by
 refine bP E.y2 ?_;refine bM ?_;refine ad ?_;intro aq bE c8 aC ar;have aen:=aC.obj h;refine ad ?_;exact⟨bf,aC⟩
theorem abq(cs:List Value)(m:o.Model)(q l:Int)(w:World)(h:o.dM w cs m) :
  bw Tryz.prog F.cV #[.agg cs.toArray,.int .i64 q,.int .i64 l] w fun v w'=>(∃cF pV s7,v = .func (.func F.gB) #[] #[.pointer (some ⟨cF,0,none⟩),.pointer (some ⟨pV,0,none⟩),.pointer (some ⟨s7,0,none⟩)]∧w'.heap[cF]? = some (.cells cs.toArray T.b)∧w'.heap[pV]? = some (.cells #[.int .i64 q] T.a)∧w'.heap[s7]? = some (.cells #[.int .i64 l] T.a))∧Ext w w':=by
 obtain⟨cz,bV,cj,c1,cq,c2,cr,bJ,cC,bW,rfl,_⟩:=h.form;refine bP E.cV ?_;refine bM ?_;refine ad ?_;intro aq ch fE aC ar;refine ad ?_;intro aU db gw aA aK;refine ad ?_;intro aY dX jf ax bB;refine ad ?_;exact⟨⟨_,_,_,bf,(aA.trans ax).obj ar,ax.obj aK,bB⟩,(aC.trans aA).trans ax⟩
def XY(m:o.Model)(q:Int)(L:List (List Int×List Int))(i:Nat):Prop := ∀j (aI:j<(o.refs m).length),(o.refs m)[j].inst≠q→∀x y,L[i]? = some x→L[j]? = some y→¬o.jk x.1 x.2 y.1 y.2
theorem RD(cs:List Value)(m:o.Model)(q l:Int)(w:World)(h:o.dM w cs m)(aV:m.cG)(aZ:gH w) :
  bw Tryz.prog F.i #[.agg cs.toArray,.int .i64 q,.int .i64 l] w fun u w'=>(∃t,u = .bool t∧o.iX m q l t)∧Ext w w':=by
 have dk:=h;obtain⟨cz,bV,cj,c1,cq,c2,cr,bJ,cC,bW,rfl,ao,h1,U,ah,aJ,eH,dB,dH,ee,ei⟩:=h.form;refine fL.start l3 Bd.i (args:=[_,_,_]) (Nat.le_of_ble_eq_true rfl) ?_;dsimp only[D.i,ab,ai,b4,bh,nz,ay,dh,hd,uM,I,aj,ag,ae,bc,ys,bI,an,aP,cu,bl,az,du,ct,J,aD,a6,cf,ht,bZ,bb,eS,e0,aS,au,al,List.map_cons,List.map_nil];refine fL.hS ?_;refine ad ?_;intro aq ch fE aC bB;refine ad ?_;intro aU db gw aA bH;refine ad ?_;intro aY dY eK ax b5;have bz:=(aC.trans aA).trans ax;replace bB:=(aA.trans ax).obj bB;replace bH:=ax.obj bH;have mf:=aC.size;have lL:=aA.size;have tz:w.heap.size≤dY:=by omega
 refine ad ?_;refine fL.hS ?_;refine ad ?_;refine K.call (AA _ m aY (dk.ext bz) aV (aZ.ext bz)) ?_;rintro _ bo ⟨rfl,aF⟩;replace bB:=aF.obj bB;replace bH:=aF.obj bH;replace b5:=aF.obj b5;have bX:=bz.trans aF;refine ad ?_;refine K.jd (v:=.int .i64 (o.check m).cM) rfl ?_;refine ad ?_;apply K.cond<;>intro g1;rotate_left
 ·refine ad ?_;intro bD eU b3;have aM:=eU.ext bX tz;refine fL.Cd ?_;refine ad ?_;exact⟨⟨false,bf,o.iX.no fun k=>g1 k.1⟩,aM⟩
 have h6:=o.mP g1;have j6:=o.oV h6.lim;refine ad ?_;refine fL.gK [1,2,3,4,6] (fun x:(Option Addr×Nat)×Nat=>[(7,.slice x.1.1 (o.insts m).length x.1.2),(8,.pointer (some ⟨x.2,0,none⟩))]) (fun x W=>(∃ma lS,W.heap[x.2]? = some (.cells #[.slice ma (o.refs m).length lS] T.t)∧FD W (.slice ma (o.refs m).length lS) (o.refs m))∧jX W (.slice x.1.1 (o.insts m).length x.1.2) (o.insts m)∧Ext bo W) ?_ ?_
 ·have p6:∀{W},Ext bo W→bw Tryz.prog F.a #[.agg #[.slice cz m.scalars.length bV,.slice cj m.vars.length c1,.slice cq m.a7.length c2,.slice cr m.procs.length bJ,.slice cC m.props.length bW]] W fun v w'=>(∃dd ci,v = .slice dd (o.insts m).length ci∧bg o.cU.enc T.n 2 W.heap.size w' v (o.insts m))∧Ext W w':=fun {W} he=>(Ae _ m W (dk.ext (bX.trans he)) aV).mono fun v w' ⟨aO,gx⟩=>by
   obtain⟨dd,ci,rfl,_⟩:=aO.form;exact⟨⟨dd,ci,rfl,aO⟩,gx⟩
  have Ls:∀{W},Ext bo W→bw Tryz.prog F.e #[.agg #[.slice cz m.scalars.length bV,.slice cj m.vars.length c1,.slice cq m.a7.length c2,.slice cr m.procs.length bJ,.slice cC m.props.length bW]] W fun v w'=>(∃dd ci,v = .slice dd (o.refs m).length ci∧bg o.Ref.enc T.ak 2 W.heap.size w' v (o.refs m))∧Ext W w':=fun {W} he=>(EB _ m W (dk.ext (bX.trans he)) h6.lim).mono fun v w' ⟨aO,gx⟩=>by
   obtain⟨dd,ci,rfl,_⟩:=aO.form;exact⟨⟨dd,ci,rfl,aO⟩,gx⟩
  have MR:∀{W v base},bg o.cU.enc T.n 2 base W v (o.insts m)→jX W v (o.insts m):=fun h=>bg.fB (enc:=o.cU.enc) (fun _=>rfl) h;have MS:∀{W v base},bg o.Ref.enc T.ak 2 base W v (o.refs m)→FD W v (o.refs m):=fun h=>bg.fB (enc:=o.Ref.enc) (fun _=>rfl) h;refine ad ?_;intro bD aM;replace bB:=aM.obj bB;refine ad ?_;refine⟨?_,?_⟩
  ·refine K.call (p6 aM) ?_;rintro _ bQ ⟨⟨dd,ci,rfl,bs⟩,aN⟩;have c7:=aM.trans aN;refine⟨aN,?_⟩;refine ad ?_;refine⟨?_,?_⟩
   ·refine K.call (Ls c7) ?_;rintro _ cd ⟨⟨ma,lS,rfl,er⟩,bC⟩;have dw:=c7.trans bC;refine ad ?_;intro c9 kA oE bU c5;refine⟨(aN.trans bC).trans bU,?_⟩;refine ad ?_;intro dF hp dm;have cL:=hp.ext bU oE;refine ad ?_;exact⟨((dd,ci),kA),⟨bf,bf,trivial⟩,⟨_,_,dm,MS (er.ext cL)⟩,MR (bs.ext (bC.trans cL)),dw.trans cL⟩
   ·refine K.new ?_;intro cd kA oE bC c5;refine⟨aN.trans bC,?_⟩;have dw:=c7.trans bC;refine ad ?_;refine K.call (Ls dw) ?_;rintro _ c9 ⟨⟨ma,lS,rfl,er⟩,bU⟩;have Kt:=c5;replace c5:=bU.obj c5;refine ad ?_;intro dF hp dm;have cL:Ext bQ dF:=hp.ext (bC.trans bU) oE;have L5:=cy Kt;refine ad ?_;exact⟨((dd,ci),kA),⟨bf,bf,trivial⟩,⟨_,_,dm,MS (er.wr hp L5)⟩,MR (bs.ext cL),c7.trans cL⟩
  ·refine K.new ?_;intro bQ kA oE aN c5;have c7:=aM.trans aN;refine⟨aN,?_⟩;refine ad ?_;refine K.call (p6 c7) ?_;rintro _ cd ⟨⟨dd,ci,rfl,bs⟩,bC⟩;have dw:=c7.trans bC;refine⟨aN.trans bC,?_⟩;refine ad ?_;refine K.call (Ls dw) ?_;rintro _ c9 ⟨⟨ma,lS,rfl,er⟩,bU⟩;have ac1:=c5;have Kt:=bC.obj c5;replace c5:=(bC.trans bU).obj c5;refine ad ?_;intro dF hp dm;have afr:=cy ac1;have L5:=cy Kt;have cL:Ext bD dF:=hp.ext ((aN.trans bC).trans bU) oE;refine ad ?_;exact⟨((dd,ci),kA),⟨bf,bf,trivial⟩,⟨_,_,dm,MS (er.wr hp L5)⟩,MR ((bs.ext bU).wr hp afr),aM.trans cL⟩
 rintro⟨⟨dd,ci⟩,kA⟩ S bD ⟨⟨ma,lS,c5,er⟩,bs,aM⟩;dsimp only at c5 bs;replace bB:=aM.obj bB;replace bH:=aM.obj bH;replace b5:=aM.obj b5;have ca:=bX.trans aM;refine fL.hS ?_;have bad:∀{W:World} {a8:Fr},Ext bD W→¬o.nD m q l→True:=fun _ _=>trivial;have al7:=cy b5;refine ad ?_;apply K.cond<;>intro g2
 ·refine ad ?_;intro bQ aN;replace b5:=aN.obj b5;refine ad ?_;intro cd dC dq;refine fL.Cd ?_;refine ad ?_;exact⟨⟨false,bf,o.iX.no fun k=>by have:=k.bA;omega⟩,dC.ext (ca.trans aN) tz⟩
 refine ad ?_;apply K.cond<;>intro g3
 ·refine ad ?_;intro bQ aN;replace b5:=aN.obj b5;refine ad ?_;intro cd dC dq;refine fL.Cd ?_;refine ad ?_;exact⟨⟨false,bf,o.iX.no fun k=>by have:=k.bA;omega⟩,dC.ext (ca.trans aN) tz⟩
 refine ad ?_;apply K.cond<;>intro g4
 ·refine ad ?_;intro bQ aN;replace b5:=aN.obj b5;refine ad ?_;intro cd dC dq;refine fL.Cd ?_;refine ad ?_;exact⟨⟨false,bf,o.iX.no fun k=>by have:=k.bA;omega⟩,dC.ext (ca.trans aN) tz⟩
 obtain⟨kc,rfl⟩:=Int.eq_ofNat_of_zero_le (show 0≤q by omega);have aR:kc<(o.insts m).length:=by omega
 obtain⟨p,hIn⟩:=o.DB aR;have aW:=hIn.aW;have mD:=hIn.eq;obtain⟨gB,rfl⟩:=bs.addr (by omega);obtain⟨a3,rfl⟩:=ah.addr (by omega);obtain⟨mI,cx,eg,dU,eL,fU⟩:=ah.at p aW;obtain⟨fz,ir,rfl,_⟩:=eL.form;obtain⟨En,BM,rfl,DM⟩:=fU.form;unfold o.dt.enc at dU;have Hc:=dU.ext ca;refine ad ?_;refine K.dx p (by rw[mD]) aW ?_;refine ad ?_;intro bQ aN;replace bB:=aN.obj bB;replace bH:=aN.obj bH;replace b5:=aN.obj b5;replace c5:=aN.obj c5;have zE:=er.ext Flat.ext aN;have c7:=ca.trans aN;apply K.cond<;>intro g5
 ·refine ad ?_;intro cd dC dq;refine fL.Cd ?_;refine ad ?_;exact⟨⟨false,bf,o.iX.no fun k=>by have:=k.lt hIn;omega⟩,dC.ext c7 tz⟩
 have ed:o.nD m kc l:=o.Hz g1 hIn (by omega) (by omega);clear dU Hc bs er;refine ad ?_;refine fL.hS ?_;refine ad ?_;refine K.call (Xu _ m bQ (dk.ext c7) aV (aZ.ext c7) h6.lim) ?_;rintro _ cd ⟨⟨L,base,eJ,p4,Kl,Ka⟩,bC⟩;obtain⟨Mp,Jb,rfl,_⟩:=Ka.form;have nn:bG 2 Bv cd _ L:=Ka.od;have xm:=eJ.len;have dw:=c7.trans bC;replace bB:=bC.obj bB;replace bH:=bC.obj bH;replace b5:=bC.obj b5;replace c5:=bC.obj c5;have acf:=zE.ext Flat.ext bC;clear Ka zE;refine ad ?_;intro wn b9 lX fF fT;refine ad ?_;intro c9 iz dm;have bU:Ext cd c9:=iz.ext fF lX;clear fT;have eX:=dw.trans bU;replace bB:=bU.obj bB;replace bH:=bU.obj bH;replace b5:=bU.obj b5;replace c5:=bU.obj c5;refine ad ?_;refine fL.rE (fL.hS ?_);refine ad ?_;refine K.call (abq _ m kc l c9 (dk.ext eX)) ?_;rintro _ dF ⟨⟨cF,pV,s7,rfl,adx,ady,q8⟩,cL⟩;have gu:=eX.trans cL;replace bH:=cL.obj bH;replace b5:=cL.obj b5;replace c5:=cL.obj c5;replace dm:=cL.obj dm;have acg:=acf.ext Flat.ext (bU.trans cL);have aar:=bU.trans cL;clear bB;have uN:=cy b5;have z4:=cy bH;have NT:=cy c5;have z9:=cy dm;refine ad ?_;refine fL.aQ (fL.ah8 (w0:=dF) (enc:=fun x:o.Bx m kc l=>.int .i64 (x.1:Nat)) (by simp[fD,b6]) (by kernel_rfl) (abt adx ady q8 h gu aV g1) (Ext.refl _) (lq.ok _ gu.size)
  (fun pre W=>Ext dF W∧∀x∈pre,XY m kc L x.1) (fun _ W=>Mod (fun k=>k=dY) dF W∧W.heap[dY]? = some (.cells #[.bool false] T.l)∧¬o.Bj m L kc l) ?_ ?_ ⟨Ext.refl _,fun x av=>by cases av⟩ ?_ ?_ ?_)
 ·rintro pre W b8 row ⟨he,Cw⟩ ps bd;exact⟨he.grown ps fun k hk=>(bd k hk).1,Cw⟩
 ·rintro _ W b8 row ⟨hm,aw,aH⟩ ps bd;have fa:Mod (fun k=>row=some k) W b8:=Mod.grown ps fun k hk=>hk;refine⟨hm.comp fa (fun _ _ a=>a) fun k hk a=>?_,fa.obj (fun a=>?_) aw,aH⟩
  ·have:=(bd k a).1;omega
  ·have:=(bd dY a).1;omega
 ·rintro pre x W ⟨CW,Cw⟩ cB;refine eh ?_;refine⟨(Ext.refl W).keeps _,(Ext.refl W).hA (Nat.le_trans gu.size CW.size),fun eE tT=>?_⟩;have aA:Ext dF eE:=tT.ext CW (Nat.le_refl _);have hR:=aA.obj bH;have AL:=aA.obj c5;have ML:=aA.obj dm;have ace:=acg.ext Flat.ext aA;have Aa:=x.2.1;have Hn:x.1<L.length:=by omega
  have SU:FD eE _ (o.refs m):=ace;have ak1:=nn;have XW:=aar.trans aA;obtain⟨IV,rfl⟩:=nn.addr (by omega);obtain⟨jB,jC,h7,Dv,Dw⟩:=nn.at x.1 Hn;obtain⟨MG,MH⟩:=(eJ.is x.1 Hn).jx;refine ad ?_;refine K.cR 58 (o.refs m).length [4,6,9,10,11,56,57] (fun _:Unit=>[]) () (fun j _ b8=>Ext eE b8∧∀k,k<j→∀(hk:k<(o.refs m).length),(o.refs m)[k].inst≠(kc:Int)→∀y,L[k]? = some y→¬o.jk L[x.1].1 L[x.1].2 y.1 y.2) bp bp ⟨Ext.refl _,fun k h=>absurd h (Nat.not_lt_zero _)⟩ ?_;rintro j _ iH fe aI ⟨dj,zV⟩;refine ad ?_;apply K.cond<;>intro g6;rotate_left
  ·refine ad ?_;refine⟨dj.keeps _,dj.hA (Nat.le_trans gu.size aA.size),aA.trans dj,fun v aO=>?_⟩;rcases List.mem_append.1 aO with aO | aO
   ·exact Cw v aO
   ·rw[List.mem_singleton] at aO;subst aO;intro k hk cH a b bu aB;rw[List.getElem?_eq_getElem Hn] at bu;injection bu with bu
    subst bu;exact zV k (by omega) hk cH b aB
  have vA:j<(o.refs m).length:=by omega
  have G5:j<L.length:=by omega
  obtain⟨kW,rfl⟩:=SU.addr (by omega);have iw:=(SU.ext Flat.ext dj).at j vA;obtain⟨r,bd⟩:∃r,r=(o.refs m)[j]:=⟨_,rfl⟩;rw[←bd] at iw;have iw:eB fe (kW.add (j*2)) r.enc:=iw;unfold o.Ref.enc at iw;have next:∀{W},Ext eE W→(r.inst≠(kc:Int)→¬o.jk L[x.1].1 L[x.1].2 L[j].1 L[j].2)→Ext eE W∧∀k,k<j+1→∀(hk:k<(o.refs m).length),(o.refs m)[k].inst≠(kc:Int)→∀y,L[k]? = some y→¬o.jk L[x.1].1 L[x.1].2 y.1 y.2:=fun e aH=>⟨e,fun k hk C9 cH y bS=>by
   rcases Nat.lt_or_ge k j with h | h
   ·exact zV k h C9 cH y bS
   ·obtain rfl:k=j:=by omega
    rw[List.getElem?_eq_getElem G5] at bS;injection bS with bS
    subst bS;exact aH (by rw[bd];exact cH)⟩
  have V8:=dj.obj hR;have V9:=dj.obj ML;refine ad ?_;intro wn b13 CG fF fT;refine ad ?_;intro fQ ia hl;replace hl:fQ.heap[b13]? = some (.cells #[.int .i64 r.inst,.int .i64 r.cmd] T.ak):=by first | exact hl | (rw[bd];exact hl)
  have hn:Ext fe fQ:=ia.ext fF CG;have ahq:=hn.obj V8;have amK:=hn.obj V9;have hX:=dj.trans hn;clear fT iw V8 V9;have call:∀{w':World},Ext fQ w'→bw Tryz.prog F.y2 #[.agg #[.int .i64 r.inst,.int .i64 r.cmd],.pointer (some ⟨db,0,none⟩)] w' fun v b1=>v = .bool (!decide (r.inst=(kc:Int)))∧Ext w' b1:=fun e=>afO r db kc _ (e.obj ahq);by_cases g7:r.inst=(kc:Int)
  ·refine ad ?_;refine K.MN (.bool false) (fun w' e=>K.Jd (first:=[]) (cap:=[.pointer (some ⟨db,0,none⟩)]) (by kernel_rfl) (call e) fun v b1 ⟨h1,U⟩=>⟨by rw[h1,decide_eq_true g7];rfl,U⟩) ?_;refine ad ?_;intro kO en;refine ad ?_;exact⟨vA,bf,(),trivial,next (hX.trans en) fun h=>absurd g7 h⟩
  ·obtain⟨mf,lL,xv,Dx,Dy⟩:=nn.at j G5;obtain⟨MI,MJ⟩:=(eJ.is j G5).jx;have yE:=XW.trans hX;have alp:=h7.ext yE;have alu:=xv.ext yE;refine ad ?_;refine K.MN (.bool true) (fun w' e=>K.Jd (first:=[]) (cap:=[.pointer (some ⟨db,0,none⟩)]) (by kernel_rfl) (call e) fun v b1 ⟨h1,U⟩=>⟨by rw[h1,decide_eq_false g7];rfl,U⟩) ?_;refine ad ?_;refine K.gm (.bool (decide (o.jk L[x.1].1 L[x.1].2 L[j].1 L[j].2))) (fun w' e=>VP jB jC mf lL _ _ _ _ w' (Dv.ext Flat.ext (yE.trans e)) (Dw.ext Flat.ext (yE.trans e)) (Dx.ext Flat.ext (yE.trans e)) (Dy.ext Flat.ext (yE.trans e)) MG MH MI MJ) ?_;refine ad ?_;intro kO en;have lM:=hX.trans en;have amJ:=(aA.trans lM).obj b5;apply K.cond<;>intro g8
   ·refine ad ?_;intro mU rl Kq;have xH:Mod (fun k=>k=dY) kO mU:=rl.mod rfl;refine ad ?_;refine⟨bf,?_,?_,Kq,fun a1=>a1 x.1 x.2.2 j vA (by rw[←bd];exact g7) _ _ (List.getElem?_eq_getElem Hn) (List.getElem?_eq_getElem G5) g8⟩
    ·exact⟨Nat.le_trans lM.size xH.size,fun k ak jN hk aw=>xH.obj (fun a=>by subst a;omega) (lM.obj hk)⟩
    ·exact Mod.comp (A':=fun k=>k=dY) (aA.trans lM).mod xH (fun _ _ a=>a) fun k hk a=>a
   ·refine ad ?_;exact⟨vA,bf,(),trivial,next lM fun _=>g8⟩
 ·rintro D xs W hj cm ⟨CW,Cw⟩ bx;have sI:=CW.obj b5;refine ad ?_;intro fe pz nQ;have Gq:D≠dY:=by omega
  refine fL.ret (pz.obj bx Gq) ?_;have aG:dz D fe (e2 fe D (.deferred none)):=dz.e2 _ _ _;have V7:=aG.obj nQ (Ne.symm Gq);have ab8:o.Bj m L kc l:=fun i af j aI cH x y av bS=>by
   obtain⟨v,aO,rfl⟩:=List.mem_map.1 (cm i af);exact Cw v aO j aI cH x y av bS
  refine ad ?_;exact⟨⟨true,bf,o.iX.of ed eJ ⟨fun _=>ab8,fun _=>rfl⟩⟩,aG.ext (pz.ext (gu.trans CW) tz) (Nat.le_trans gu.size hj)⟩
 ·rintro D xs W hj ⟨hm,aw,aH⟩ bx;have Gq:D≠dY:=by omega
  refine ad ?_;refine fL.ret bx ?_;have aG:dz D W (e2 W D (.deferred none)):=dz.e2 _ _ _;have V7:=aG.obj aw (Ne.symm Gq);refine ad ?_;exact⟨⟨false,bf,o.iX.of ed eJ ⟨(fun h=>by cases h),fun h=>absurd h aH⟩⟩,aG.ext (hm.ext gu fun k hk a=>by omega) (Nat.le_trans gu.size hj)⟩
theorem Ru(s:ByteArray)(aG:o.hE s)(w:World):bw Tryz.prog F.Az #[.string s] w fun v w'=>(∃v1 v2 v3,v = .agg #[.string s,.int .i64 0,.int .i64 2,.slice v1 1 1,.slice v2 1 1]∧v3=()∧o.hh w' (.slice v1 1 1) [o.r4]∧o.om w' (.slice v2 1 1) [o.pg])∧Ext w w':=by
 refine bP E.Az ?_;refine bM ?_;refine aa ?_;intro aq cp dT aC ar;refine aa ?_;intro aU dX jf aA aK;refine aa ?_;intro aY kX iM ax bB;refine aa ?_;intro bo b9 lX aF bH;refine aa ?_;intro bD qO Gz aM b3;have RV:=((aA.trans ax).trans aF).trans aM;have xp:=RV.obj ar;refine aa ?_;intro bQ fy b5;have mf:=aC.size;have lL:=aA.size;have yv:=ax.size;have yw:=aF.size;have am8:=aM.size;have fC:=cy ar;have DI:=fy.obj (((ax.trans aF).trans aM).obj aK) (by omega);have vL:=fy.obj ((aF.trans aM).obj bB) (by omega);have Hr:=fy.obj (aM.obj bH) (by omega);have Hq:=fy.obj b3 (by omega);have afd:o.hh bQ (.slice (some ⟨dX,0,none⟩) 1 1) [o.r4]:=o.hh.aQ DI rfl (by decide) (by intro x av;simp only[List.mem_singleton] at av;subst av;decide);have afc:o.fY bQ (.slice (some ⟨kX,0,none⟩) 1 1) o.Gj:=bG.aQ (enc:=o.Node.enc) (fun _=>rfl) vL rfl (by decide) fun a x av aw=>⟨aw,o.aa6 x (by simp[o.Gj] at av;subst av;simp)⟩;have afa:o.oi bQ (.slice (some ⟨b9,0,none⟩) 1 1) [o.tp]:=bG.BH [⟨o.tp.enc (.slice none 0 0) (.slice (some ⟨kX,0,none⟩) 1 1),rfl,by simp[o.Act.enc,Value.oneCell']⟩] Hr rfl rfl rfl (by decide) (by
  intro i h1 U
  have:i=0:=by simp at h1;omega
  subst this;exact⟨_,_,rfl,bG.nil,afc⟩)
 have afb:o.om bQ (.slice (some ⟨qO,0,none⟩) 1 1) [o.pg]:=bG.BH [⟨o.pg.enc (.slice none 0 0) (.slice (some ⟨b9,0,none⟩) 1 1),rfl,by simp[o.dL.enc,Value.oneCell']⟩] Hq rfl rfl rfl (by decide) (by
  intro i h1 U
  have:i=0:=by simp at h1;omega
  subst this;exact⟨(show o.hE o.pg.name by decide),_,_,rfl,bG.nil,afa⟩)
 refine aa ?_;exact⟨⟨_,_,(),bf,bf,afd,afb⟩,fy.ext (aC.trans RV) dT⟩
theorem Xe{w:World}{dE n base:Nat}{b0:List Nat}{M:List (List Bool)}(h:kU w dE n base b0 M){i:Nat}(af:i<b0.length)(eP:i<M.length):∃b,w.heap[dE]? = w.heap[dE]? ∧ w.cell? (Addr.add ⟨dE,0,none⟩ (i*1))=some (.slice (some ⟨b,0,none⟩) n n)∧w.heap[b]? = some (.cells (im M[i]).toArray T.l):=by
 refine⟨b0[i],rfl,eN h.row ?_,(h.rows i af eP).1⟩;rw[Nat.mul_one];simp only[List.getElem?_toArray];rw[List.getElem?_append_left (by simpa using af)];simp[af]
theorem Jz{cs:List Value}{m:o.Model}{ref:Int}{t:Bool}{w:World}(h:o.dM w cs m)(aV:m.cG)(aZ:gH w)(aL:∀u,o.jl m ref u→u=t):bw Tryz.prog F.ak #[.agg cs.toArray,.int .i64 ref] w fun u w'=>u = .bool t∧Ext w w' :=
 (RG cs m ref w h aV aZ).mono fun u w' ⟨⟨fJ,h1,U⟩,ah⟩=>⟨by rw[h1,aL fJ U],ah⟩
theorem Ga{cs:List Value}{m:o.Model}{q l:Int}{t:Bool}{w:World}(h:o.dM w cs m)(aV:m.cG)(aZ:gH w)(aL:∀u,o.iX m q l u→u=t):bw Tryz.prog F.i #[.agg cs.toArray,.int .i64 q,.int .i64 l] w fun u w'=>u = .bool t∧Ext w w' :=
 (RD cs m q l w h aV aZ).mono fun u w' ⟨⟨fJ,h1,U⟩,ah⟩=>⟨by rw[h1,aL fJ U],ah⟩
theorem Q1(w:World)(aZ:gH w):bw Tryz.prog F.sD #[] w fun v w'=>v = .bool true∧Ext w w':=by
 refine bP E.sD ?_;refine bM ?_;refine ad ?_;refine K.call (Ru ⟨#[80]⟩ (by decide) w) ?_;rintro _ aq ⟨⟨v1,v2,_,rfl,_,UZ,UT⟩,aC⟩;refine ad ?_;refine K.call (Ru ⟨#[81]⟩ (by decide) aq) ?_;rintro _ aU ⟨⟨Xt,yp,_,rfl,_,U0,UU⟩,aA⟩;have ba:=aC.trans aA;refine ad ?_;intro aY dY eK ax bB;refine ad ?_;intro bo bE c8 aF bH;replace bH:bo.heap[bE]? = some (.cells #[.slice none 0 0,.slice none 0 0,.slice none 0 0,.slice (some ⟨dY,0,none⟩) 2 2,.slice none 0 0] T.b):=bH;have B4:=ax.trans aF;have UX:o.pP bo (.slice (some ⟨dY,0,none⟩) 2 2) o.e8.procs:=bG.BH [⟨o.zp.enc (.slice v1 1 1) (.slice v2 1 1),rfl,by simp[o.dt.enc,Value.oneCell']⟩,⟨o.zq.enc (.slice Xt 1 1) (.slice yp 1 1),rfl,by simp[o.dt.enc,Value.oneCell']⟩] (aF.obj bB) rfl rfl rfl (by decide) (by
  intro i h1 U
  match i,h1 with
  | 0,_=>exact⟨(show o.hE ⟨#[80]⟩ by decide),_,_,rfl,(UZ.ext aA).ext B4,(UT.ext aA).ext B4⟩
  | 1,_=>exact⟨(show o.hE ⟨#[81]⟩ by decide),_,_,rfl,U0.ext B4,UU.ext B4⟩
  | n+2,h1=>simp at h1;omega)
 have bq:o.dM bo _ o.e8:=⟨_,_,_,_,_,rfl,bG.nil,bG.nil,bG.nil,UX,bG.nil⟩;have aV:=o.aaU;have bX:=ba.trans B4;clear UX UZ UT U0 UU bB;refine ad ?_;refine K.call (RE _ o.e8 bo bq aV (aZ.ext bX)) ?_;rintro _ bD ⟨hO,aM⟩;replace bH:=aM.obj bH;have ca:=bX.trans aM;rcases hO with ⟨GC,_⟩ | ⟨_,L,dE,b0,eJ,rfl,fj⟩
 ·exact absurd o.Cn GC
 have dg:=o.Se eJ;subst dg;obtain⟨gG,_,sm,ss⟩:=Xe fj (i:=0) (by have:=fj.len;simp[o.jo] at this;omega) (by simp[o.jo]);obtain⟨eO,_,hN,kI⟩:=Xe fj (i:=1) (by have:=fj.len;simp[o.jo] at this;omega) (by simp[o.jo]);have d0:(o.jo [([0],[0,1]),([2],[2,3])])[0]'(by simp[o.jo])=[true,false]:=by decide
 have d1:(o.jo [([0],[0,1]),([2],[2,3])])[1]'(by simp[o.jo])=[false,true]:=by decide
 rw[d0] at ss;rw[d1] at kI;replace ss:bD.heap[gG]? = some (.cells #[.bool true,.bool false] T.l):=ss;replace kI:bD.heap[eO]? = some (.cells #[.bool false,.bool true] T.l):=kI;clear fj d0 d1;refine ad ?_;intro bQ qO Gz aN b5;refine ad ?_;intro cd b13 CG bC dq;refine ad ?_;intro c9 ch fE bU c5;replace c5:c9.heap[ch]? = some (.cells #[.slice none 0 0,.slice none 0 0,.slice none 0 0,.slice (some ⟨b13,0,none⟩) 1 1,.slice none 0 0] T.b):=c5;have w8:=(aN.trans bC).trans bU;have UW:o.om c9 (.slice (some ⟨qO,0,none⟩) 1 1) [o.tm]:=bG.BH [⟨o.tm.enc (.slice none 0 0) (.slice none 0 0),rfl,by simp[o.dL.enc,Value.oneCell']⟩] ((bC.trans bU).obj b5) rfl rfl rfl (by decide) (by
  intro i h1 U
  have:i=0:=by simp at h1;omega
  subst this;exact⟨(show o.hE o.tm.name by decide),_,_,rfl,bG.nil,bG.nil⟩)
 have UY:o.pP c9 (.slice (some ⟨b13,0,none⟩) 1 1) o.kD.procs:=bG.BH [⟨o.vh.enc (.slice none 0 0) (.slice (some ⟨qO,0,none⟩) 1 1),rfl,by simp[o.dt.enc,Value.oneCell']⟩] (bU.obj dq) rfl rfl rfl (by decide) (by
  intro i h1 U
  have:i=0:=by simp at h1;omega
  subst this;exact⟨(show o.hE ⟨#[80]⟩ by decide),_,_,rfl,bG.nil,UW⟩)
 have jN:o.dM c9 _ o.kD:=⟨_,_,_,_,_,rfl,bG.nil,bG.nil,bG.nil,UY,bG.nil⟩;have adC:=o.aaR;have eX:=ca.trans w8;have zD:=bq.ext (aM.trans w8);replace bH:=w8.obj bH;replace ss:=w8.obj ss;replace kI:=w8.obj kI;replace sm:=w8.cell sm;replace hN:=w8.cell hN;clear UW UY b5 dq bq;refine ad ?_
 repeat' first
  | (refine K.rZ (by first | rfl | decide | simp) ?_;refine ad ?_)
  | (refine K.pX rfl ?_;refine ad ?_)
  | (refine K.dx 0 rfl (by decide) ?_;refine ad ?_)
  | (refine K.dx 1 rfl (by decide) ?_;refine ad ?_)
  | (refine K.ld sm ?_;refine ad ?_)
  | (refine K.ld hN ?_;refine ad ?_)
  | (refine K.ld (eN (j:=0*1) ss rfl) ?_;refine ad ?_)
  | (refine K.ld (eN (j:=1*1) ss rfl) ?_;refine ad ?_)
  | (refine K.ld (eN (j:=0*1) kI rfl) ?_;refine ad ?_)
 refine K.call (Ga (zD.ext (Ext.refl c9)) aV (aZ.ext (eX.trans (Ext.refl c9))) (t:=true) fun u h=>o.Sd (q:=0) (by decide) eJ h) ?_;rintro _ dF ⟨rfl,cL⟩;have gp:=(Ext.refl c9).trans cL;replace bH:=cL.obj bH;replace c5:=cL.obj c5;refine ad ?_;refine K.call (Ga (zD.ext gp) aV (aZ.ext (eX.trans gp)) (t:=true) fun u h=>o.Sd (q:=1) (by decide) eJ h) ?_;rintro _ fe ⟨rfl,dj⟩;have oo:=gp.trans dj;replace bH:=dj.obj bH;replace c5:=dj.obj c5;refine ad ?_;refine K.call (Ga (zD.ext oo) aV (aZ.ext (eX.trans oo)) (t:=false) fun u h=>o.aaX h) ?_;rintro _ fQ ⟨rfl,hn⟩;have hX:=oo.trans hn;replace bH:=hn.obj bH;replace c5:=hn.obj c5;refine ad ?_;refine K.call (Ga (zD.ext hX) aV (aZ.ext (eX.trans hX)) (t:=false) fun u h=>o.aaW h) ?_;rintro _ kO ⟨rfl,en⟩;have lM:=hX.trans en;replace bH:=en.obj bH;replace c5:=en.obj c5;refine ad ?_;refine K.call (Jz (zD.ext lM) aV (aZ.ext (eX.trans lM)) (t:=false) fun u h=>(o.HT o.e8 0).elim fun a k=>k.elim fun b k=>o.aa1 k h) ?_;rintro _ mU ⟨rfl,gC⟩;have nB:=lM.trans gC;replace bH:=gC.obj bH;replace c5:=gC.obj c5;refine ad ?_;refine K.call (Jz (jN.ext nB) adC (aZ.ext (eX.trans nB)) (t:=true) fun u h=>(o.HT o.kD 0).elim fun a k=>k.elim fun b k=>o.aaT k h) ?_;rintro _ E2 ⟨rfl,se⟩;have Bc:=nB.trans se;replace bH:=se.obj bH;replace c5:=se.obj c5;refine ad ?_;refine K.call (Jz (zD.ext Bc) aV (aZ.ext (eX.trans Bc)) (t:=false) fun u h=>o.aa2 h) ?_;rintro _ amW ⟨rfl,nq⟩;have XU:=Bc.trans nq;replace bH:=nq.obj bH;replace c5:=nq.obj c5;refine ad ?_;exact⟨bf,eX.trans XU⟩
end Go.Proofs.R
end
section
namespace bt
open Go Go.RowKit
theorem K.R6{P:Program}{fJ:TypeId}{cV c3:Operand}{aE:Value→Prop}{a:Bool}{t}(h:P.underlying fJ=some .bool)(hk:aE (.bool true)):gj P .eql fJ cV c3 (.bool a) (.bool a) aE t:=K.aaM h (by rw[beq_self_eq_true];exact hk)
end bt
namespace o
open Go
structure s3(m:Model)(M:List (List Bool)):Prop where
 bad:(check m).cM≠0→M=[]
 ok:(check m).cM=0→∃L,iZ m (refs m).length L∧M=jo L
theorem s3.eq{m:Model}{M IK:List (List Bool)}(h:s3 m M)(k:s3 m IK):M=IK:=by
 by_cases hk:(check m).cM=0
 ·obtain⟨L,h1,U⟩:=h.ok hk;obtain⟨lu,dc,cY⟩:=k.ok hk;rw[U,cY,h1.eq dc]
 ·rw[h.bad hk,k.bad hk]
theorem Gb{L:List (List Int×List Int)}{i:Nat}(h:i<(jo L).length):(jo L)[i]=lB L (L[i]'(by rw[qT] at h;exact h)):=by simp[jo]
theorem RF{L:List (List Int×List Int)}{x:List Int×List Int}{k:Nat}(h:k<(lB L x).length):(lB L x)[k]=uu x (L[k]'(by rw[vc] at h;exact h)):=by simp[lB]
theorem agD(x y:List Int×List Int):uu x y=uu y x:=by unfold uu;exact decide_eq_decide.2 jk.comm
theorem s3.EM{m:Model}{M:List (List Bool)}(h:s3 m M){i:Nat}(af:i<M.length):M[i].length=M.length:=by
 by_cases hk:(check m).cM=0
 ·obtain⟨L,_,rfl⟩:=h.ok hk;rw[Gb,vc,qT]
 ·have:=h.bad hk;subst this;cases af
theorem s3.sym{m:Model}{M:List (List Bool)}(h:s3 m M){i k:Nat}(af:i<M.length)(hk:k<M.length):(M[i])[k]'(by rw[h.EM af];exact hk)=(M[k])[i]'(by rw[h.EM hk];exact af):=by
 by_cases aw:(check m).cM=0
 ·obtain⟨L,_,rfl⟩:=h.ok aw;have b2:=Gb af;have ba:=Gb hk;simp only[b2,ba];rw[RF,RF,agD]
 ·have:=h.bad aw;subst this;cases af
end o
namespace Go.Proofs.R
open Go Go.RowKit bt
def Bu(w:World)(a:Addr)(r:List Bool):Prop := ∃v,eB w a [v]∧bG 1 (Flat qV) w v r
theorem Bu.ext(w w':World)(a:Addr)(r:List Bool)(he:Ext w w')(h:Bu w a r):Bu w' a r:=let ⟨v,h1,U⟩:=h; ⟨v,h1.ext he,U.ext Flat.ext he⟩
abbrev Qu(w:World)(u:Value)(M:List (List Bool)):Prop:=bG 1 Bu w u M
theorem Zc(ak:List Bool):im ak=ak.flatMap qV:=by
 unfold im qV
 induction ak with
 | nil=>rfl
 | cons x ak e6=>simp[List.flatMap_cons,e6]
theorem one_cell{w:World}{a:Addr}{v:Value}(h:w.cell? a=some v):eB w a [v]:=fun j u aI=>by
 match j,aI with
 | 0,aI=>injection aI with aI;subst aI;rw[add_zero];exact h
 | n+1,aI=>simp at aI
theorem Mt{w:World}{a:Addr}{v:Value}(h:eB w a [v]):w.cell? a=some v:=by
 have:=h 0 v rfl
 rwa[add_zero] at this
theorem aaf{m:o.Model}{w w':World}{u:Value}(hO:((o.check m).cM≠0∧u = .slice none 0 0)∨((o.check m).cM=0∧∃L dE b0,o.iZ m (o.refs m).length L∧u = .slice (some ⟨dE,0,none⟩) L.length L.length∧kU w' dE L.length w.heap.size b0 (o.jo L))) :
  ∃M,Qu w' u M∧o.s3 m M:=by
 rcases hO with ⟨hk,rfl⟩ | ⟨hk,L,dE,b0,eJ,rfl,fj⟩
 ·exact⟨[],bG.nil,fun _=>rfl,fun h=>absurd h hk⟩
 ·have j6:=o.oV (o.mP hk).lim;have xm:=eJ.len;refine⟨o.jo L,⟨_,L.length,by rw[o.qT],by rw[o.qT];exact Nat.le_refl _,by unfold maxLen;omega,fun _=>rfl,fun a bu i af=>?_⟩,fun h=>absurd hk h,fun _=>⟨L,eJ,rfl⟩⟩;injection bu with bu
  subst bu;have Km:i<b0.length:=by rw[fj.len];exact af
  obtain⟨dc,cY⟩:=fj.rows i Km af;rw[Zc] at dc;have aw:w'.cell? (Addr.add ⟨dE,0,none⟩ (i*1))=some (.slice (some ⟨b0[i],0,none⟩) L.length L.length):=eN fj.row (by
   rw[Nat.mul_one];simp only[List.getElem?_toArray];rw[List.getElem?_append_left (by simpa using Km)];simp[Km])
  exact⟨_,one_cell aw,bG.aQ (enc:=qV) (R:=Flat qV) (fun _=>rfl) dc cY.symm (by unfold maxLen;omega) fun _ _ _ h=>h⟩
theorem ahG{m:o.Model}{w w':World}{u:Value}(hO:((o.check m).cM≠0∧u = .slice none 0 0)∨((o.check m).cM=0∧∃L dE vs xs,o.iZ m (o.refs m).length L∧u = .slice (some ⟨dE,0,none⟩) L.length L.length∧rM w' dE L.length w.heap.size vs xs∧∀i (af:i<L.length),xs i=o.lB L L[i])) :
  ∃M,Qu w' u M∧o.s3 m M:=by
 rcases hO with ⟨hk,rfl⟩ | ⟨hk,L,dE,vs,xs,eJ,rfl,fj,av⟩
 ·exact⟨[],bG.nil,fun _=>rfl,fun h=>absurd h hk⟩
 ·have j6:=o.oV (o.mP hk).lim;have xm:=eJ.len;refine⟨o.jo L,⟨_,L.length,by rw[o.qT],by rw[o.qT];exact Nat.le_refl _,by unfold maxLen;omega,fun _=>rfl,fun a bu i af=>?_⟩,fun h=>absurd hk h,fun _=>⟨L,eJ,rfl⟩⟩;injection bu with bu
  subst bu;have eP:i<L.length:=by rw[o.qT] at af;exact af
  have aZ:=fj.rows.own i eP;rw[av i eP] at aZ;rw[o.Gb];exact⟨_,one_cell (fj.cell eP),bg.fB (enc:=qV) (fun _=>rfl) aZ⟩
theorem afx(cs:List Value)(m:o.Model)(w:World)(h:o.dM w cs m)(aV:m.cG)(aZ:gH w) :
  bw Tryz.prog F.Ek #[.agg cs.toArray] w fun u w'=>u = .bool true∧Ext w w':=by
 have bq:=h;obtain⟨cz,bV,cj,c1,cq,c2,cr,bJ,cC,bW,rfl,_⟩:=h.form;have nf:∀{W},Ext w W→bw Tryz.prog F.sD #[] W fun v w'=>v = .bool true∧Ext W w':=fun e=>Q1 _ (aZ.ext e);refine bP E.Ek ?_;refine bM ?_;refine ad ?_;intro aq bE c8 aC ar;refine ad ?_;refine K.call (Vo _ m aq (bq.ext aC)) ?_;rintro _ aU ⟨⟨t,rfl,_⟩,aA⟩;replace ar:=aA.obj ar;have ba:=aC.trans aA;cases t with
 | false =>
  refine ad ?_;refine K.call (nf ba) ?_;rintro _ aY ⟨rfl,ax⟩;refine ad ?_;exact⟨bf,ba.trans ax⟩
 | true =>
  refine ad ?_;intro aY ax;replace ar:=ax.obj ar;have bz:=ba.trans ax;refine ad ?_;refine K.call (RE _ m aY (bq.ext bz) aV (aZ.ext bz)) ?_;rintro amT bo ⟨hO,aF⟩;obtain⟨M,fj,CB⟩:=aaf hO;obtain⟨bm,gJ,rfl,amA⟩:=fj.form;have bX:=bz.trans aF;refine⟨aF,?_⟩;refine ad ?_;refine K.call (ahF _ m bo (bq.ext bX) aV) ?_;rintro amU bD ⟨SS,aM⟩;obtain⟨IK,CA,acn⟩:=ahG SS;obtain rfl:=CB.eq acn;obtain⟨rz,pW,rfl,_⟩:=CA.form;have ca:=bX.trans aM;replace fj:=fj.ext Bu.ext aM;clear ar hO SS;refine ad ?_;refine K.cR 5 M.length [3,4] (fun _:Unit=>[]) () (fun _ _ W=>Ext bD W) bp bp (Ext.refl _) ?_;rintro i _ S bQ af aN;have c7:=ca.trans aN;refine ad ?_;apply K.cond<;>intro g1
  ·have eP:i<M.length:=by omega
   obtain⟨a,rfl⟩:=fj.addr (by omega);obtain⟨b,rfl⟩:=CA.addr (by omega);obtain⟨v1,rj,hN⟩:=fj.at i eP;obtain⟨v2,eA,ho⟩:=CA.at i eP;obtain⟨agt,Ze,rfl,_⟩:=hN.form;obtain⟨agu,Zh,rfl,_⟩:=ho.form;have alZ:=rj.ext aN;have al0:=eA.ext aN;have dQ:=CB.EM eP;refine ad ?_
   repeat' first
    | (refine K.ld (Mt (by assumption)) ?_;refine ad ?_)
    | (refine K.VB (by kernel_rfl) ?_;refine ad ?_)
   intro cd bC;refine ad ?_;exact⟨eP,bf,(),trivial,aN.trans bC⟩
  clear af;refine ad ?_;refine K.cR 6 M.length [3,4] (fun _:Unit=>[]) () (fun _ _ W=>Ext bQ W) bp bp (Ext.refl _) ?_;rintro i _ iH cd af bC;have dw:=c7.trans bC;have XV:=aN.trans bC;refine ad ?_;apply K.cond<;>intro g2;rotate_left
  ·refine ad ?_;refine K.call (nf dw) ?_;rintro _ c9 ⟨rfl,bU⟩;refine ad ?_;exact⟨bf,dw.trans bU⟩
  have eP:i<M.length:=by omega
  have G2:=CB.EM eP;obtain⟨a,rfl⟩:=fj.addr (by omega);obtain⟨b,rfl⟩:=CA.addr (by omega);obtain⟨v1,rj,hN⟩:=fj.at i eP;obtain⟨v2,eA,ho⟩:=CA.at i eP;obtain⟨agt,Ze,rfl,_⟩:=hN.form;obtain⟨agu,Zh,rfl,_⟩:=ho.form;refine ad ?_;refine K.cR 7 M[i].length [3,4,6] (fun _:Unit=>[]) () (fun _ _ W=>Ext cd W) bp bp (Ext.refl _) ?_;rintro k _ Bw c9 hk bU;have eX:=dw.trans bU;have yD:=XV.trans bU;have aeH:=rj.ext yD;have al1:=eA.ext yD;refine ad ?_;refine K.ld (Mt aeH) ?_;refine ad ?_;apply K.cond<;>intro g3;rotate_left
  ·refine ad ?_;exact⟨eP,bf,(),trivial,bC.trans bU⟩
  have cT:k<M[i].length:=by omega
  have ra:k<M.length:=by omega
  have sh:=CB.EM ra;have aeC:=CB.sym eP ra;obtain⟨v3,Ul,zZ⟩:=fj.at k ra;obtain⟨amF,akH,rfl,_⟩:=zZ.form;have al2:=Ul.ext yD;obtain⟨dG,rfl⟩:=hN.addr (by omega);obtain⟨a2,rfl⟩:=ho.addr (by omega);obtain⟨Yl,rfl⟩:=zZ.addr (by omega);have gb:eB c9 (dG.add (k*1)) [.bool (M[i])[k]]:=eB.ext yD (hN.at k cT);have hQ:eB c9 (a2.add (k*1)) [.bool (M[i])[k]]:=eB.ext yD (ho.at k cT);have iT:eB c9 (Yl.add (i*1)) [.bool (M[i])[k]]:=by
   have:=eB.ext yD (zZ.at i (by omega))
   unfold qV at this;rw[←aeC] at this;exact this
  clear hN ho zZ rj eA Ul;refine ad ?_
  repeat' first
   | (refine K.ld (Mt (by assumption)) ?_;refine ad ?_)
   | (refine K.VB (by kernel_rfl) ?_;refine ad ?_)
  intro dF cL;refine ad ?_;exact⟨cT,bf,(),trivial,bU.trans cL⟩
theorem afw(cs:List Value)(m:o.Model)(q l ref:Int)(w:World)(h:o.dM w cs m)(aV:m.cG)(aZ:gH w) :
  bw Tryz.prog F.Ej #[.agg cs.toArray,.int .i64 q,.int .i64 l,.int .i64 ref] w fun u w'=>u = .bool true∧Ext w w':=by
 have bq:=h;obtain⟨cz,bV,cj,c1,cq,c2,cr,bJ,cC,bW,rfl,_⟩:=h.form;have nf:∀{W},Ext w W→bw Tryz.prog F.sD #[] W fun v w'=>v = .bool true∧Ext W w':=fun e=>Q1 _ (aZ.ext e);refine bP E.Ej ?_;refine bM ?_;refine ad ?_;intro aq bE c8 aC ar;refine ad ?_;refine K.call (Vo _ m aq (bq.ext aC)) ?_;rintro _ aU ⟨⟨t,rfl,_⟩,aA⟩;replace ar:=aA.obj ar;have ba:=aC.trans aA;cases t with
 | false =>
  refine ad ?_;refine K.call (nf ba) ?_;rintro _ aY ⟨rfl,ax⟩;refine ad ?_;exact⟨bf,ba.trans ax⟩
 | true =>
  refine ad ?_;refine K.gm (.bool (o.HA m q l)) (fun w' e=>(RD _ m q l w' (bq.ext (ba.trans e)) aV (aZ.ext (ba.trans e))).mono fun u b1 ⟨⟨t,h1,U⟩,ah⟩=>⟨by rw[h1,U.is],ah⟩) ?_;refine ad ?_;refine K.gm (.bool (o.HA m q l)) (fun w' e=>(ahE _ m q l w' (bq.ext (ba.trans e)) aV).mono fun u b1 ⟨⟨t,h1,U⟩,ah⟩=>⟨by rw[h1,U.is],ah⟩) ?_;refine ad ?_;refine K.R6 (by kernel_rfl) ?_;refine ad ?_;refine K.gm (.bool (o.H8 m ref)) (fun w' e=>(RG _ m ref w' (bq.ext (ba.trans e)) aV (aZ.ext (ba.trans e))).mono fun u b1 ⟨⟨t,h1,U⟩,ah⟩=>⟨by rw[h1,U.is],ah⟩) ?_;refine ad ?_;refine K.gm (.bool (o.H8 m ref)) (fun w' e=>(ahH _ m ref w' (bq.ext (ba.trans e)) aV).mono fun u b1 ⟨⟨t,h1,U⟩,ah⟩=>⟨by rw[h1,U.is],ah⟩) ?_;refine ad ?_;refine K.R6 (by kernel_rfl) ?_;refine ad ?_;refine K.gm (.bool true) (fun w' e=>nf (ba.trans e)) ?_;refine ad ?_;intro aY ax;refine ad ?_;exact⟨bf,ba.trans ax⟩
end Go.Proofs.R
end
section
namespace bt
open Go Go.RowKit Go.ChangeShapes Go.WideShapes Go.Deep
section
variable{H:Type}{enc:TypeId×Value→H}{P:Program}{w:World}{base:Nat}{spare:Nat→Bool}{held:Bool}
theorem ts{t:TypeId}{gg:Array Field}{n:Nat}{cs:List Value}{y:DataW H×List MemPlace}(aL:P.underlying t=some (.struct gg))(tR:oneCellFields P gg=true)(cv:P.cellsOf t=gg.size)
  (h:DataW.trod enc P w base spare held n t cs=some y):cs.length=gg.size∧∃hB ds,y.1 = .agg ds∧∀(j:Nat) (f:Field),gg[j]? = some f→∃v z,cs[j]? = some v∧DataW.trod enc P w base spare held hB f.type [v]=some z∧ds[j]? = some z.1:=by
 obtain⟨ys,hB,G8,bS,hlen,al4,aT⟩:=DataW.trod_struct aL h;refine⟨by omega,hB,_,by rw[bS],fun j f aI=>?_⟩;obtain⟨aZ,hk⟩:=hone_of tR j f aI;have alE:j<gg.size:=(Array.getElem?_eq_some_iff.1 aI).1;have aO:cs[j]? = some (cs[j]'(by omega)):=List.getElem?_eq_getElem (by omega);have h1:=aT j f aI;rw[aZ,hk] at h1;have aec:(cs.drop j).take 1=[cs[j]'(by omega)]:=by
  rw[List.drop_eq_getElem_cons (by omega)];rfl
 rw[aec,List.getElem?_eq_getElem (l:=ys) (by omega)] at h1;exact⟨_,_,aO,h1,by rw[List.getElem?_map,List.getElem?_eq_getElem (by omega)];rfl⟩
def Small(P:Program)(t:TypeId)(d:DataW H):Prop := ∀q∈d.weights P t,q≤reachBytes
theorem Small.field{t u:TypeId}{gg:Array Field}{ds:List (DataW H)}{j:Nat}{d:DataW H}{f:Field}(h:Small P t (.agg ds))(aL:P.underlying t=some (.struct gg))(aT:gg[j]? = some f)(hu:f.type=u)(bx:ds[j]? = some d):Small P u d:=by
 subst hu;intro q aR;refine h q ?_;simp only[DataW.weights,aL];exact DataW.weights_mem_each (j:=j) (by simp[aT]) bx q aR
end
end bt
namespace Go.Proofs.R
open Go Go.RowKit bt Go.ChangeShapes
variable{H:Type}{enc:TypeId×Value→H}{w:World}{cs:List Value}{n:Nat}{y:DataW H×List MemPlace}{v:Value}
theorem lK{z:Int}(h:(Lit.int .i64 z).wf=true):o.eM z:=by
 simp only[Lit.wf,Bool.and_eq_true,decide_eq_true_eq] at h;exact⟨h.1,h.2⟩
theorem agk(h:DataW.trod enc Tryz.prog w 0 (fun _=>true) true n T.f cs=some y):∃x:o.Node,cs=x.enc∧x.ok:=by
 obtain⟨a1,hB,ds,_,aT⟩:=ts (t:=T.f) rfl (by kernel_rfl) (by kernel_rfl) h
 match cs,a1 with
 | [bV,c1],_ =>
  obtain⟨_,_,ek,ao,_⟩:=aT 0 _ rfl;obtain⟨_,_,b2,h1,_⟩:=aT 1 _ rfl;cases ek;cases b2;obtain⟨z0,ek,_,fv⟩:=DataW.trod_int (k:=.i64) (by kernel_rfl) ao;obtain⟨fC,b2,_,dc⟩:=DataW.trod_int (k:=.i64) (by kernel_rfl) h1;cases ek;cases b2;exact⟨⟨z0,fC⟩,rfl,lK fv,lK dc⟩
end Go.Proofs.R
end
section
namespace bt
open Go Go.RowKit Go.ChangeShapes Go.WideShapes Go.Deep
section
variable{H:Type}{enc:TypeId×Value→H}{P:Program}{w:World}{base:Nat}{spare:Nat→Bool}{held:Bool}
theorem XA{e:TypeId}:∀{ds:List (DataW H)} {d:DataW H},d∈ds→∀n∈d.weights P e,n∈DataW.weightsAll P e ds
 | [],_,h=>by cases h
 | x :: r,d,h=>fun n aH=>by
  simp only[DataW.weightsAll];rcases List.mem_cons.1 h with rfl | h
  ·exact List.mem_append_left _ aH
  ·exact List.mem_append_right _ (XA h n aH)
theorem u4{α:Type}{R:World→Addr→α→Prop}{G:α→Prop}{t e:TypeId}{v:Value}{n:Nat}{z:DataW H×List MemPlace}(sz B:Nat)(aL:P.underlying t=some (.slice e))(cv:P.cellsOf e=sz)(jN:P.bytesOf e=B)
  (er:∀(a:Addr) (cs:List Value) (n:Nat) (y:DataW H×List MemPlace),eB w a cs→cs.length=sz→DataW.trod enc P w 0 (fun _=>true) true n e cs=some y→∃x,R w a x∧(Small P e y.1→G x))
  (h:DataW.trod enc P w 0 (fun _=>true) true n t [v]=some z):∃xs,bG sz R w v xs∧(Small P t z.1→o.dD xs.length B∧∀x∈xs,G x):=by
 rcases open_slice aL h with ⟨iN,_⟩ | ⟨a,len,cap,m,n,D,akn,iN,aB,a1,hm,TZ,av,af⟩
 ·simp at iN;subst iN;exact⟨[],bG.nil,fun _=>⟨by simp[o.dD],fun x av=>by cases av⟩⟩
 ·simp at iN;subst iN;simp only[if_true] at TZ;subst TZ;obtain⟨xs,Aa,xS⟩:=Vp len (fun i x=>R w (a.add (i*sz)) x∧(Small P e (D i)→G x)) fun i cS=>by
   obtain⟨jc,aw,z8⟩:=af i (by omega);rw[cv] at aw;obtain⟨_,gh,je⟩:=World.cells?_some aw;refine er _ jc n _ (fun j u aI=>?_) gh z8;have adP:j<sz:=gh ▸ (List.getElem?_eq_some_iff.1 aI).1;rw[←aI];exact je j adP
  refine⟨xs,⟨some a,_,by rw[Aa],by omega,hm,fun _=>rfl,fun cX bu i af=>by injection bu with bu;subst bu;exact(xS i af).1⟩,fun aG=>⟨?_,fun x xP=>?_⟩⟩
  ·have h1:=aG ((len+(m - len))*P.bytesOf e) (by rw[av];simp[DataW.weights,aL]);have U:len*B≤(len+(m - len))*P.bytesOf e:=by rw[jN];exact Nat.mul_le_mul_right _ (by omega)
   have ah:reachBytes=140737488351232:=rfl;unfold o.dD;rw[Aa];omega
  ·obtain⟨i,cS,rfl⟩:=List.mem_iff_getElem.1 xP;refine(xS i cS).2 fun q aR=>aG q ?_;rw[av];simp only[DataW.weights,aL];refine List.mem_cons_of_mem _ (List.mem_append_left _ (XA ?_ q aR));exact List.mem_map.2 ⟨i,by simp;omega,rfl⟩
theorem agG{r:Reach}{ly:Nat}{t:TypeId}{gg:Array Field}{v:Value}{d:DataW H}{p:List MemPlace}(aL:P.underlying t=some (.struct gg))
  (LG:Value.okWide P w r ly t v)(h:DataW.Trod enc P w base spare held t v d p):∃cs n,v = .agg cs∧DataW.trod enc P w base spare held n t cs.toList=some (d,p):=by
 obtain⟨cs,rfl,dn⟩:=okWide_struct aL LG;obtain⟨fuel,aT⟩:=h;exact⟨cs,fuel,rfl,aT⟩
end
end bt
namespace Go.Proofs.R
open Go Go.RowKit bt Go.ChangeShapes
variable{H:Type}{enc:TypeId×Value→H}{w:World}{cs:List Value}{n:Nat}{y:DataW H×List MemPlace}{v:Value}
theorem abN(h:DataW.trod enc Tryz.prog w 0 (fun _=>true) true n T.ac cs=some y):∃x:o.Scalar,cs=x.enc∧o.hE x.name∧x.cG:=by
 obtain⟨a1,hB,ds,_,aT⟩:=ts (t:=T.ac) rfl (by kernel_rfl) (by kernel_rfl) h
 match cs,a1 with
 | [bV,c1],_ =>
  obtain⟨_,_,ek,ao,_⟩:=aT 0 _ rfl;obtain⟨_,_,b2,h1,_⟩:=aT 1 _ rfl;cases ek;cases b2;obtain⟨s,ek,_,aG⟩:=DataW.trod_string (by kernel_rfl) ao;obtain⟨z,b2,_,dc⟩:=DataW.trod_int (k:=.i64) (by kernel_rfl) h1;cases ek;cases b2;exact⟨⟨s,z⟩,rfl,aG,⟨lK dc⟩⟩
theorem abP(h:DataW.trod enc Tryz.prog w 0 (fun _=>true) true n T.i cs=some y):∃x:o.Var,cs=x.enc∧o.hE x.name∧x.cG:=by
 obtain⟨a1,hB,ds,_,aT⟩:=ts (t:=T.i) rfl (by kernel_rfl) (by kernel_rfl) h
 match cs,a1 with
 | [bV,c1,c2,bJ,bW,pd],_ =>
  obtain⟨_,_,ek,ao,_⟩:=aT 0 _ rfl;obtain⟨_,_,b2,h1,_⟩:=aT 1 _ rfl;obtain⟨_,_,ba,U,_⟩:=aT 2 _ rfl;obtain⟨_,_,bz,ah,_⟩:=aT 3 _ rfl;obtain⟨_,_,bX,aJ,_⟩:=aT 4 _ rfl;obtain⟨_,_,ca,bk,_⟩:=aT 5 _ rfl;cases ek;cases b2;cases ba;cases bz;cases bX;cases ca;obtain⟨s,ek,_,aG⟩:=DataW.trod_string (by kernel_rfl) ao;obtain⟨fC,b2,_,dc⟩:=DataW.trod_int (k:=.i64) (by kernel_rfl) h1;obtain⟨z2,ba,_,cY⟩:=DataW.trod_int (k:=.i64) (by kernel_rfl) U;obtain⟨z3,bz,_,gW⟩:=DataW.trod_int (k:=.i64) (by kernel_rfl) ah;obtain⟨z4,bX,_,ic⟩:=DataW.trod_int (k:=.i64) (by kernel_rfl) aJ;obtain⟨z5,ca,_,DI⟩:=DataW.trod_int (k:=.i64) (by kernel_rfl) bk;cases ek;cases b2;cases ba;cases bz;cases bX;cases ca;exact⟨⟨s,fC,z2,z3,z4,z5⟩,rfl,aG,⟨lK dc,lK cY,lK gW,lK ic,lK DI⟩⟩
theorem abD(h:DataW.trod enc Tryz.prog w 0 (fun _=>true) true n T.r cs=some y):∃x:o.dK,cs=x.enc∧o.hE x.name∧x.cG:=by
 obtain⟨a1,hB,ds,_,aT⟩:=ts (t:=T.r) rfl (by kernel_rfl) (by kernel_rfl) h
 match cs,a1 with
 | [bV,c1,c2,bJ,bW,pd],_ =>
  obtain⟨_,_,ek,ao,_⟩:=aT 0 _ rfl;obtain⟨_,_,b2,h1,_⟩:=aT 1 _ rfl;obtain⟨_,_,ba,U,_⟩:=aT 2 _ rfl;obtain⟨_,_,bz,ah,_⟩:=aT 3 _ rfl;obtain⟨_,_,bX,aJ,_⟩:=aT 4 _ rfl;obtain⟨_,_,ca,bk,_⟩:=aT 5 _ rfl;cases ek;cases b2;cases ba;cases bz;cases bX;cases ca;obtain⟨s,ek,_,aG⟩:=DataW.trod_string (by kernel_rfl) ao;obtain⟨fC,b2,_,dc⟩:=DataW.trod_int (k:=.i64) (by kernel_rfl) h1;obtain⟨z2,ba,_,cY⟩:=DataW.trod_int (k:=.i64) (by kernel_rfl) U;obtain⟨z3,bz,_,gW⟩:=DataW.trod_int (k:=.i64) (by kernel_rfl) ah;obtain⟨z4,bX,_,ic⟩:=DataW.trod_int (k:=.i64) (by kernel_rfl) aJ;obtain⟨z5,ca,_⟩:=DataW.trod_bool (by kernel_rfl) bk;cases ek;cases b2;cases ba;cases bz;cases bX;cases ca;exact⟨⟨s,fC,z2,z3,z4,z5⟩,rfl,aG,⟨lK dc,lK cY,lK gW,lK ic⟩⟩
theorem Gn(h:DataW.trod enc Tryz.prog w 0 (fun _=>true) true n T.x [v]=some y):∃l,o.fY w v l∧(Small Tryz.prog T.x y.1→o.dD l.length 16∧∀x∈l,True) :=
 u4 (G:=fun _=>True) (e:=T.f) 2 16 (by kernel_rfl) (by kernel_rfl) (by kernel_rfl) (fun a cs n y aw a1 aL=>by obtain⟨x,rfl,av⟩:=agk aL;exact⟨x,⟨aw,av⟩,fun _=>trivial⟩) h
theorem abO(h:DataW.trod enc Tryz.prog w 0 (fun _=>true) true n T.jE [v]=some y):∃l,o.hG w v l∧(Small Tryz.prog T.jE y.1→o.dD l.length 24∧∀x∈l,x.cG) :=
 u4 (e:=T.ac) 2 24 (by kernel_rfl) (by kernel_rfl) (by kernel_rfl) (fun a cs n y aw a1 aL=>by obtain⟨x,rfl,av,aV⟩:=abN aL;exact⟨x,⟨aw,av⟩,fun _=>aV⟩) h
theorem SC(h:DataW.trod enc Tryz.prog w 0 (fun _=>true) true n T.By [v]=some y):∃l,o.hh w v l∧(Small Tryz.prog T.By y.1→o.dD l.length 56∧∀x∈l,x.cG) :=
 u4 (e:=T.i) 6 56 (by kernel_rfl) (by kernel_rfl) (by kernel_rfl) (fun a cs n y aw a1 aL=>by obtain⟨x,rfl,av,aV⟩:=abP aL;exact⟨x,⟨aw,av⟩,fun _=>aV⟩) h
theorem abE(h:DataW.trod enc Tryz.prog w 0 (fun _=>true) true n T.wP [v]=some y):∃l,o.nA w v l∧(Small Tryz.prog T.wP y.1→o.dD l.length 56∧∀x∈l,x.cG) :=
 u4 (e:=T.r) 6 56 (by kernel_rfl) (by kernel_rfl) (by kernel_rfl) (fun a cs n y aw a1 aL=>by obtain⟨x,rfl,av,aV⟩:=abD aL;exact⟨x,⟨aw,av⟩,fun _=>aV⟩) h
theorem abB{a:Addr}(aw:eB w a cs)(h:DataW.trod enc Tryz.prog w 0 (fun _=>true) true n T.q cs=some y):∃x:o.Act,o.wG w a x∧(Small Tryz.prog T.q y.1→x.cG):=by
 obtain⟨a1,hB,ds,he,aT⟩:=ts (t:=T.q) rfl (by kernel_rfl) (by kernel_rfl) h
 match cs,a1 with
 | [bV,c1,c2,bJ,bW],_ =>
  obtain⟨_,_,ek,ao,_⟩:=aT 0 _ rfl;obtain⟨_,_,b2,h1,_⟩:=aT 1 _ rfl;obtain⟨_,_,ba,U,_⟩:=aT 2 _ rfl;obtain⟨_,_,bz,ah,d3⟩:=aT 3 _ rfl;obtain⟨_,_,bX,aJ,d4⟩:=aT 4 _ rfl;cases ek;cases b2;cases ba;cases bz;cases bX;obtain⟨z0,ek,_,fv⟩:=DataW.trod_int (k:=.i64) (by kernel_rfl) ao;obtain⟨fC,b2,_,dc⟩:=DataW.trod_int (k:=.i64) (by kernel_rfl) h1;obtain⟨z2,ba,_,cY⟩:=DataW.trod_int (k:=.i64) (by kernel_rfl) U;cases ek;cases b2;cases ba;obtain⟨ee,ah,g3⟩:=Gn ah;obtain⟨ei,aJ,g4⟩:=Gn aJ;exact⟨⟨z0,fC,z2,ee,ei⟩,⟨bJ,bW,aw,ah,aJ⟩,fun aG=>by
   rw[he] at aG;exact⟨lK fv,lK dc,lK cY,(g3 (aG.field rfl rfl rfl d3)).1,(g4 (aG.field rfl rfl rfl d4)).1⟩⟩
theorem abC(h:DataW.trod enc Tryz.prog w 0 (fun _=>true) true n T.kW [v]=some y):∃l,o.oi w v l∧(Small Tryz.prog T.kW y.1→o.dD l.length 72∧∀x∈l,x.cG) :=
 u4 (e:=T.q) 5 72 (by kernel_rfl) (by kernel_rfl) (by kernel_rfl) (fun a cs n y aw a1 aL=>abB aw aL) h
theorem abF(h:DataW.trod enc Tryz.prog w 0 (fun _=>true) true n T.j cs=some y):∃x:o.dL,o.wu w cs x∧(Small Tryz.prog T.j y.1→x.cG):=by
 obtain⟨a1,hB,ds,he,aT⟩:=ts (t:=T.j) rfl (by kernel_rfl) (by kernel_rfl) h
 match cs,a1 with
 | [bV,c1,c2,bJ,bW,pd],_ =>
  obtain⟨_,_,ek,ao,_⟩:=aT 0 _ rfl;obtain⟨_,_,b2,h1,_⟩:=aT 1 _ rfl;obtain⟨_,_,ba,U,_⟩:=aT 2 _ rfl;obtain⟨_,_,bz,ah,d3⟩:=aT 3 _ rfl;obtain⟨_,_,bX,aJ,d4⟩:=aT 4 _ rfl;obtain⟨_,_,ca,bk,_⟩:=aT 5 _ rfl;cases ek;cases b2;cases ba;cases bz;cases bX;cases ca;obtain⟨s,ek,_,aG⟩:=DataW.trod_string (by kernel_rfl) ao;obtain⟨fC,b2,_,dc⟩:=DataW.trod_int (k:=.i64) (by kernel_rfl) h1;obtain⟨z2,ba,_,cY⟩:=DataW.trod_int (k:=.i64) (by kernel_rfl) U;obtain⟨z5,ca,_⟩:=DataW.trod_bool (by kernel_rfl) bk;cases ek;cases b2;cases ba;cases ca;obtain⟨ee,ah,g3⟩:=Gn ah;obtain⟨ei,aJ,g4⟩:=abC aJ;exact⟨⟨s,fC,z2,ee,ei,z5⟩,⟨aG,bJ,bW,rfl,ah,aJ⟩,fun aG=>by
   rw[he] at aG;exact⟨lK dc,lK cY,(g3 (aG.field rfl rfl rfl d3)).1,(g4 (aG.field rfl rfl rfl d4)).1,(g4 (aG.field rfl rfl rfl d4)).2⟩⟩
theorem abG(h:DataW.trod enc Tryz.prog w 0 (fun _=>true) true n T.as [v]=some y):∃l,o.om w v l∧(Small Tryz.prog T.as y.1→o.dD l.length 88∧∀x∈l,x.cG) :=
 u4 (e:=T.j) 6 88 (by kernel_rfl) (by kernel_rfl) (by kernel_rfl) (fun a cs n y aw a1 aL=>by
  obtain⟨x,⟨ao,fV,va,rfl,h1,U⟩,aV⟩:=abF aL;exact⟨x,⟨ao,fV,va,aw,h1,U⟩,aV⟩) h
theorem abK(h:DataW.trod enc Tryz.prog w 0 (fun _=>true) true n T.g cs=some y):∃x:o.dt,o.uW w cs x∧(Small Tryz.prog T.g y.1→x.cG):=by
 obtain⟨a1,hB,ds,he,aT⟩:=ts (t:=T.g) rfl (by kernel_rfl) (by kernel_rfl) h
 match cs,a1 with
 | [bV,c1,c2,bJ,bW],_ =>
  obtain⟨_,_,ek,ao,_⟩:=aT 0 _ rfl;obtain⟨_,_,b2,h1,_⟩:=aT 1 _ rfl;obtain⟨_,_,ba,U,_⟩:=aT 2 _ rfl;obtain⟨_,_,bz,ah,d3⟩:=aT 3 _ rfl;obtain⟨_,_,bX,aJ,d4⟩:=aT 4 _ rfl;cases ek;cases b2;cases ba;cases bz;cases bX;obtain⟨s,ek,_,aG⟩:=DataW.trod_string (by kernel_rfl) ao;obtain⟨fC,b2,_,dc⟩:=DataW.trod_int (k:=.i64) (by kernel_rfl) h1;obtain⟨z2,ba,_,cY⟩:=DataW.trod_int (k:=.i64) (by kernel_rfl) U;cases ek;cases b2;cases ba;obtain⟨ee,ah,g3⟩:=SC ah;obtain⟨ei,aJ,g4⟩:=abG aJ;exact⟨⟨s,fC,z2,ee,ei⟩,⟨aG,bJ,bW,rfl,ah,aJ⟩,fun aG=>by
   rw[he] at aG;exact⟨lK dc,lK cY,(g3 (aG.field rfl rfl rfl d3)).1,(g4 (aG.field rfl rfl rfl d4)).1,(g3 (aG.field rfl rfl rfl d3)).2,(g4 (aG.field rfl rfl rfl d4)).2⟩⟩
theorem abL(h:DataW.trod enc Tryz.prog w 0 (fun _=>true) true n T.qN [v]=some y):∃l,o.pP w v l∧(Small Tryz.prog T.qN y.1→o.dD l.length 80∧∀x∈l,x.cG) :=
 u4 (e:=T.g) 5 80 (by kernel_rfl) (by kernel_rfl) (by kernel_rfl) (fun a cs n y aw a1 aL=>by
  obtain⟨x,⟨ao,fV,va,rfl,h1,U⟩,aV⟩:=abK aL;exact⟨x,⟨ao,fV,va,aw,h1,U⟩,aV⟩) h
theorem abM(h:DataW.trod enc Tryz.prog w 0 (fun _=>true) true n T.Q2 [v]=some y):∃l,o.yM w v l∧(Small Tryz.prog T.Q2 y.1→o.dD l.length 40∧∀x∈l,x.cG) :=
 u4 (e:=T.gB) 2 40 (by kernel_rfl) (by kernel_rfl) (by kernel_rfl) (fun a cs n y aw a1 aL=>by
  obtain⟨a1,hB,ds,he,aT⟩:=ts (t:=T.gB) rfl (by kernel_rfl) (by kernel_rfl) aL
  match cs,a1 with
  | [bV,c1],_ =>
   obtain⟨_,_,ek,ao,_⟩:=aT 0 _ rfl;obtain⟨_,_,b2,h1,d1⟩:=aT 1 _ rfl;cases ek;cases b2;obtain⟨s,ek,_,aG⟩:=DataW.trod_string (by kernel_rfl) ao;cases ek;obtain⟨dB,h1,g1⟩:=Gn h1;exact⟨⟨s,dB⟩,⟨aG,c1,aw,h1⟩,fun aG=>by rw[he] at aG;exact⟨(g1 (aG.field rfl rfl rfl d1)).1⟩⟩) h
theorem VQ{r:Reach}{ly:Nat}{v:Value}{d:DataW H}{p:List MemPlace}(LG:Value.okWide Tryz.prog w r ly T.b v)(h:DataW.Trod enc Tryz.prog w 0 (fun _=>true) true T.b v d p)(aG:Small Tryz.prog T.b d) :
  ∃cs m,v = .agg cs.toArray∧o.dM w cs m∧m.cG:=by
 obtain⟨cs,n,rfl,aL⟩:=agG (t:=T.b) rfl LG h;obtain⟨a1,hB,ds,rfl,aT⟩:=ts (t:=T.b) rfl (by kernel_rfl) (by kernel_rfl) aL;obtain⟨cs⟩:=cs
 match cs,a1 with
 | [bV,c1,c2,bJ,bW],_ =>
  obtain⟨_,_,ek,ao,d0⟩:=aT 0 _ rfl;obtain⟨_,_,b2,h1,d1⟩:=aT 1 _ rfl;obtain⟨_,_,ba,U,d2⟩:=aT 2 _ rfl;obtain⟨_,_,bz,ah,d3⟩:=aT 3 _ rfl;obtain⟨_,_,bX,aJ,d4⟩:=aT 4 _ rfl;cases ek;cases b2;cases ba;cases bz;cases bX;obtain⟨eH,gG,ly⟩:=abO ao;obtain⟨dB,eO,bE⟩:=SC h1;obtain⟨dH,fc,cp⟩:=abE U;obtain⟨ee,mb,ch⟩:=abL ah;obtain⟨ei,sJ,db⟩:=abM aJ;have fv:=ly (aG.field rfl rfl rfl d0);have dc:=bE (aG.field rfl rfl rfl d1);have cY:=cp (aG.field rfl rfl rfl d2);have gW:=ch (aG.field rfl rfl rfl d3);have ic:=db (aG.field rfl rfl rfl d4);exact⟨[bV,c1,c2,bJ,bW],⟨eH,dB,dH,ee,ei⟩,rfl,⟨⟨bV,c1,c2,bJ,bW,rfl,gG,eO,fc,mb,sJ⟩⟩,⟨fv.1,dc.1,cY.1,gW.1,ic.1,fv.2,dc.2,cY.2,gW.2,ic.2⟩⟩
end Go.Proofs.R
end
section
namespace Go.Proofs.R
open Go Go.RowKit bt Go.ChangeShapes Go.WideShapes Go.Deep
theorem am5{H:Type}{enc:TypeId×Value→H}{r:Reach}{ly:Nat}{d0:DataW H}{jT:List MemPlace}(v0:Value)(W:World)(aZ:gH W)
  (fv:Value.okWide Tryz.prog W r ly T.b v0)(ao:DataW.Trod enc Tryz.prog W 0 (fun _=>true) true T.b v0 d0 jT)(iB:Small Tryz.prog T.b d0) :
  bw Tryz.prog F.Ek #[v0] W fun v w'=>v = .bool true∧Ext W w':=by
 obtain⟨cs,m,rfl,hm,aV⟩:=VQ fv ao iB;exact afx cs m W hm aV aZ
theorem am4{H:Type}{enc:TypeId×Value→H}{r:Reach}{ly:Nat}{d0 d1 d2 d3:DataW H}{jT gb hQ iT:List MemPlace}(v0 v1 v2 v3:Value)(W:World)(aZ:gH W)
  (fv:Value.okWide Tryz.prog W r ly T.b v0)(ao:DataW.Trod enc Tryz.prog W 0 (fun _=>true) true T.b v0 d0 jT)(iB:Small Tryz.prog T.b d0)
  (dc:Value.okWide Tryz.prog W r ly T.a v1)(h1:DataW.Trod enc Tryz.prog W 0 (fun _=>true) true T.a v1 d1 gb)(_s1:Small Tryz.prog T.a d1)
  (cY:Value.okWide Tryz.prog W r ly T.a v2)(U:DataW.Trod enc Tryz.prog W 0 (fun _=>true) true T.a v2 d2 hQ)(_s2:Small Tryz.prog T.a d2)
  (gW:Value.okWide Tryz.prog W r ly T.a v3)(ah:DataW.Trod enc Tryz.prog W 0 (fun _=>true) true T.a v3 d3 iT)(_s3:Small Tryz.prog T.a d3) :
  bw Tryz.prog F.Ej #[v0,v1,v2,v3] W fun v w'=>v = .bool true∧Ext W w':=by
 obtain⟨cs,m,rfl,hm,aV⟩:=VQ fv ao iB;obtain⟨q,rfl,_⟩:=open_int (k:=.i64) (by kernel_rfl) dc h1;obtain⟨l,rfl,_⟩:=open_int (k:=.i64) (by kernel_rfl) cY U;obtain⟨z,rfl,_⟩:=open_int (k:=.i64) (by kernel_rfl) gW ah;exact afw cs m q l z W hm aV aZ
end Go.Proofs.R
end
section
namespace bt
open Go Go.RowKit Go.ChangeShapes
theorem amw{P:Program}{f:FuncId}{fn:Func}{s:ChangeSpec}{c:OpenClaim}(h1:(c.wf (OpenSpec.ofChange s)&&laidOutB P&&mapsRowed P)=true)
  (U:(fn.params.all (P.readableRec ·)&&namedTie P c.named s.vars)=true)(ah:((c.stops == [])&&(P.stops == [])&&(c.knobs == [])&&(P.stopKnobs == []))=true)
  (aJ:(c.inPlace == P.inPlace f)=true)(bk:(c.unfollowed == P.unfollowed f)=true)(bY:(c.recurses == P.recurses f)=true)(cO:(c.named == P.varsNamed f)=true)
  (df:((c.maps == (fn.params.toList++s.plain.varTypes P).any (P.mapsRec ·))&&(c.ifaces == (fn.params.toList++s.plain.varTypes P).any (P.ifacesRec ·))&&(c.mapsOut == P.mapsAmong fn.resultTypes.toList))=true)
  (hi:((c.loops == (fn.params.toList++s.plain.varTypes P).any (P.loopsFrom ·))&&(c.wideKeys == (fn.params.toList++s.plain.varTypes P++fn.resultTypes.toList).any (P.wideKeysFrom ·)))=true)
  (jM:(s.vars.all (P.varReadable ·)&&fn.resultTypes.all (fun t=>P.readableRec t&&decide (t<P.types.size))&&(c.ifacesOut == fn.resultTypes.toList.any (P.ifacesRec ·))&&(c.loopsOut == fn.resultTypes.toList.any (P.loopsFrom ·)))=true)
  (zu:(c.plainKeys == P.plainKeys)=true)(qZ:(c.shortTexts.isNone&&P.stopsHeard)=true)(xg:P.mayEnter=true)
  (zv:((c.lifted == P.liftsFinal)&&(P.make == some c.make))=true)
  (lV:((c.kinds == (if c.domain.isEmpty then [] else fn.params.toList.map fun t=>match P.underlying t with | some (.int k)=>some k | _=>none))&&(c.pinned == c.pinnedBy))=true)
  (mz:((c.veiled == (fn.params.toList++s.plain.varTypes P++fn.resultTypes.toList).any (P.veiledRec ·))&&c.veiledFits P fn.params.toList (fn.params.toList++s.plain.varTypes P++fn.resultTypes.toList))=true) :
  joinedFacts P f fn s c=true:=by
 simp only[Bool.and_eq_true] at h1 U ah df hi jM qZ zv lV mz;unfold joinedFacts;simp only[Bool.and_eq_true];obtain⟨⟨dG,a2⟩,a3⟩:=h1;obtain⟨bE,cp⟩:=U;obtain⟨⟨⟨d1,d2⟩,d3⟩,d4⟩:=ah;obtain⟨⟨b2,ba⟩,bz⟩:=df;obtain⟨f1,f2⟩:=hi;obtain⟨⟨⟨g1,g2⟩,g3⟩,g4⟩:=jM;obtain⟨i1,i2⟩:=qZ;obtain⟨DE,DF⟩:=zv;obtain⟨dc,cY⟩:=lV;obtain⟨dB,dH⟩:=mz;exact⟨⟨⟨⟨⟨⟨⟨⟨⟨⟨⟨⟨⟨⟨⟨⟨⟨⟨⟨⟨⟨⟨⟨⟨⟨⟨⟨⟨⟨⟨⟨dG,a2⟩,a3⟩,bE⟩,cp⟩,d1⟩,d2⟩,d3⟩,d4⟩,aJ⟩,bk⟩,bY⟩,cO⟩,b2⟩,ba⟩,bz⟩,f1⟩,f2⟩,g1⟩,g2⟩,g3⟩,g4⟩,zu⟩,i1⟩,i2⟩,xg⟩,DE⟩,DF⟩,dc⟩,cY⟩,dB⟩,dH⟩
end bt
end