/- Texts joined: LabJ LabK LabB LabL Open1 Open2 Open3 Open6 Open5 LabZ LiteQ. -/
import Derived.Test.YtempnjgiohpopaaGreatDoorQlbc
import Derived.Test.YtempnjgiohpopaaGreatDoorQlbd
import Derived.Test.YtempnjgiohpopaaGreatDoorQlbg
import Derived.Test.YtempnjgiohpopaaGreatDoorQlbh
import Derived.Test.YtempnjgiohpopaaGreatDoorQlbm
import Derived.Test.YtempnjgiohpopaaGreatDoorQlbn
import Derived.Test.YtempnjgiohpopaaGreatDoorQlbo
import Derived.Test.YtempnjgiohpopaaGreatDoorQlbp
import Derived.SizedLaws
import Derived.JoinedCond
set_option linter.all false
set_option maxRecDepth 8000
set_option maxHeartbeats 32000000
section
namespace bn
open Go Go.RowKit
theorem Ot:∀(l:List Int) (k:Nat) (x:Int),(l.flatMap eb).set k (.int .i64 x)=(l.set k x).flatMap eb
 | [],_,_=>rfl
 | y :: l,0,x=>rfl
 | y :: l,k+1,x=>by
  have:=Ot l k x
  simp only[List.flatMap_cons,List.set_cons_succ];rw[←this];rfl
theorem K.ad0{e:TypeId}{base:Nat}{w:World}{l:List Int}{a:Addr}{n c k:Nat}{x:Int}{gr:World→Prop}{t}(h:br eb e 1 base w (.slice (some a) n c) l)(hk:k<l.length)
  (cR:∀ar,dT a.block w ar→br eb e 1 base ar (.slice (some a) n c) (l.set k x)→gr ar):pz (.pointer (some (a.add (k*1)))) (.int .i64 x) w gr t:=by
 rcases h.2 with ⟨aM,ak⟩ | ⟨g,cap,cur,h1,U,ai,aL,bt,bM,b6⟩
 ·cases aM
 ·injection h1 with bS aZ bJ
  injection bS with bS
  subst bS bJ;have cb:k<cur.size:=by omega
  have ic:Addr.add ⟨g,0,none⟩ (k*1)=⟨g,k,none⟩:=by rw[add_eq,Nat.mul_one,Nat.zero_add]
  have ay:w.cell? (Addr.add ⟨g,0,none⟩ (k*1))=some cur[k]:=eZ ai (by rw[Nat.mul_one];exact Array.getElem?_eq_getElem cb);rw[ic] at ay ⊢;have bB:w.ownsRow base e 1 (.slice (some ⟨g,0,none⟩) l.length c) l.length (l.flatMap eb):=by unfold br at h;rw[aZ] at h;exact h
  have aw:=World.ownsRow.stored bB k (.int .i64 x);rw[Ot] at aw;refine K.st ay (by simp[World.frozen?,ai]) (by simp[Value.oneCell']) (cR _ (dT.setCell w ⟨g,k,none⟩ _) ?_);unfold br;rw[List.length_set,aZ];exact aw.1
end bn
namespace o
open Go
structure oP(aj:List Bool)(s t u:List Int)(k:Nat):Prop where
 len:u.length=s.length
 at_:∀i (h:i<u.length),i<k→aj[i]? = some true→u[i]? = t[i]?
 rest:∀i,k≤i→u[i]? = s[i]?
theorem oP.start(aj:List Bool)(s t:List Int):oP aj s t s 0:=⟨rfl,fun i _ h=>by omega,fun _ _=>rfl⟩
theorem oP.yes{aj:List Bool}{s t u:List Int}{k:Nat}(h:oP aj s t u k)(hk:k<u.length)(aG:k<t.length):oP aj s t (u.set k t[k]) (k+1):=by
 refine⟨by rw[List.length_set];exact h.len,fun i ad tv a1=>?_,fun i ad=>?_⟩
 ·by_cases e:k=i
  ·subst e;rw[List.getElem?_set_self hk,List.getElem?_eq_getElem aG]
  ·rw[List.getElem?_set_ne e];rw[List.length_set] at ad;exact h.at_ i ad (by omega) a1
 ·rw[List.getElem?_set_ne (by omega)];exact h.rest i (by omega)
theorem oP.no{aj:List Bool}{s t u:List Int}{k:Nat}(h:oP aj s t u k)(a1:aj[k]? = some false):oP aj s t u (k+1):=by
 refine⟨h.len,fun i ad tv xv=>?_,fun i ad=>h.rest i (by omega)⟩;by_cases e:i=k
 ·subst e;rw[a1] at xv;cases xv
 ·exact h.at_ i ad (by omega) xv
theorem oP.same{m:Model}{s t u:List Int}{k:Nat}{a b:Nat}(h:oP (iB m) s t u k)(hk:s.length≤k)(aN:(iB m).length=s.length)(bD:fE m t=(a,0))(aA:fE m u=(b,0)):a=b:=by
 by_cases ay:(check m).cY=0
 ·by_cases Ph:Fits m t
  ·by_cases Hp:Fits m u
   ·rw[sa ay Ph] at bD;rw[sa ay Hp] at aA;injection bD with bD
    injection aA with aA
    rw[←bD,←aA];refine aej ay fun p bg x aD=>?_;have PS:x∈sr m:=List.mem_flatMap.2 ⟨p,bg,aD⟩;obtain⟨ak,h1⟩:=adC ay (o6 ay) x PS;have D1:=Hp.len;have agC:=h.len;refine(h.at_ x.toNat (by omega) (by omega) ?_).symm;unfold iB;rw[if_pos ay,List.getElem?_map,List.getElem?_range (by omega)];simp only[Option.map_some,Option.some.injEq,decide_eq_true_eq];rw[show((x.toNat:Nat):Int)=x from by omega];exact PS
   ·rw[tK ay Hp] at aA;cases aA
  ·rw[tK ay Ph] at bD;cases bD
 ·rw[AJ ay] at bD;cases bD
end o
namespace Go.Proofs.R
open Go Go.RowKit bn
theorem aar(cs:List Value)(v1 v2:Value)(m:o.Model)(s t:List Int)(w:World)(h:o.eh w cs m)(aX:m.cM)(a1:gf w)(aw:gu w v1 s)(aG:gu w v2 t) :
  bw Tryz.prog F.Br #[.agg cs.toArray,v1,v2] w fun u w'=>u = .bool true∧Ext w w':=by
 have bP:=h;obtain⟨cG,bR,cu,c1,cA,c2,cw,bN,cP,bX,rfl,_⟩:=h.form;obtain⟨os,NG,rfl,Q6⟩:=aw.form;obtain⟨I2,afC,rfl,ag9⟩:=aG.form;have hA:∀{W},Ext w W→bw Tryz.prog F.kY #[] W fun v w'=>v = .bool true∧Ext W w':=fun e=>y6 _ (a1.ext e);refine bO E.Br ?_;refine bH ?_;refine ao ?_;intro ar bz cN aE al;refine ao ?_;refine K.call (Ek _ m ar (bP.ext aE)) ?_;rintro _ aW ⟨⟨q,rfl,_⟩,aF⟩;replace al:=aF.obj al;have aZ:=aE.trans aF;cases q with
 | false =>
  refine ao ?_;refine K.call (hA aZ) ?_;rintro _ bh ⟨rfl,av⟩;refine ao ?_;exact⟨bq,aZ.trans av⟩
 | true =>
  refine ao ?_;apply K.cond<;>intro g1
  ·refine ao ?_;refine K.call (hA aZ) ?_;rintro _ bh ⟨rfl,av⟩;refine ao ?_;exact⟨bq,aZ.trans av⟩
  refine ao ?_;apply K.cond<;>intro g2;rotate_left
  ·refine ao ?_;refine K.call (hA aZ) ?_;rintro _ bh ⟨rfl,av⟩;refine ao ?_;exact⟨bq,aZ.trans av⟩
  have mN:t.length=s.length:=by omega
  refine ao ?_;refine K.call (Jt _ m aW (bP.ext aZ) aX (a1.ext aZ)) ?_;rintro _ bh ⟨Ay,av⟩;obtain⟨bf,rfl,HU⟩:=Js Ay;replace al:=av.obj al;have bJ:=aZ.trans av;refine ao ?_;apply K.cond<;>intro g3;rotate_left
  ·refine ao ?_;refine K.call (hA bJ) ?_;rintro _ bj ⟨rfl,aH⟩;refine ao ?_;exact⟨bq,bJ.trans aH⟩
  have kc:(o.iB m).length=s.length:=by omega
  refine ao ?_;intro bj afr fo aH b0;refine ao ?_;refine K.T3 (br.empty fo b0) (aw.ext Flat.ext (bJ.trans aH)) (fun _=>rfl) lV (by simp;omega) (by simp;unfold maxLen;omega) aH.size fun b7 bF ee hG=>?_;rw[List.nil_append] at ee;have Xh:=br.jo (br.empty (enc:=eb) (sz:=1) fo b0) aH hG (Nat.le_refl _);obtain⟨qZ,kt,rfl,_⟩:=ee.form;clear b0;refine ao ?_;refine K.cV 9 s.length [1,2,3,7,8] (fun _:Unit=>[]) () (fun k _ W=>Ext bh W∧∃u,br eb T.a 1 bh.heap.size W (.slice qZ s.length kt) u∧o.oP (o.iB m) s t u k) bp bp ⟨Xh,s,ee,o.oP.start _ _ _⟩ ?_;rintro k _ S bV hk ⟨bo,u,Ar,l6⟩;have ez:=bJ.trans bo;have D1:=l6.len;refine ao ?_;apply K.cond<;>intro g4
  ·have cp:k<s.length:=by omega
   obtain⟨fm,rfl,af0,bD⟩:=HU (by omega);have G5:=cL bD;obtain⟨at_,rfl⟩:=aG.addr (by omega);obtain⟨CL,rfl⟩:=(br.lI (enc:=eb) (fun _=>rfl) Ar).addr (by omega);have u7:=(br.lt Ar CL.block rfl).1;have G2:=F2 (bo.obj bD) (show k<(o.iB m).length by omega);have agA:=aG.ext Flat.ext ez;refine ao ?_;refine K.ld G2 ?_;cases aA:(o.iB m)[k]'(by omega) with
   | true =>
    refine ao ?_;refine K.ad0 Ar (by omega) fun cc ec dk=>?_;have bY:=ec.ext bo u7;refine ao ?_;exact⟨cp,bq,(),trivial,bY,_,dk,l6.yes (by omega) (by omega)⟩
   | false =>
    have XF:(o.iB m)[k]? = some false:=by rw[List.getElem?_eq_getElem (by omega),aA]
    refine ao ?_;exact⟨cp,bq,(),trivial,bo,_,Ar,l6.no XF⟩
  ·have j7:=bo.obj al;have zQ:gu bV _ u:=br.lI (enc:=eb) (fun _=>rfl) Ar;refine ao ?_;refine K.call (sb _ m _ t bV (bP.ext ez) aX (a1.ext ez) (aG.ext Flat.ext ez)) ?_;rintro _ cc ⟨rfl,bY⟩;replace j7:=bY.obj j7;have eM:=ez.trans bY;refine ao ?_;refine K.call (sb _ m _ u cc (bP.ext eM) aX (a1.ext eM) (zQ.ext Flat.ext bY)) ?_;rintro _ dq ⟨rfl,cj⟩;have jI:=eM.trans cj;have H3:=fun(h1:(o.fE m t).2=0) (U:(o.fE m u).2=0)=>l6.same (by omega) kc (show o.fE m t=((o.fE m t).1,0) by rw[←h1]) (show o.fE m u=((o.fE m u).1,0) by rw[←U]);refine ao ?_;have fin:∀{W},Ext dq W→Ext w W:=fun e=>jI.trans e;refine K.cond (fun h1=>?_) (fun h1=>?_)
   ·refine ao ?_;refine K.cond (fun U=>?_) (fun U=>?_)
    ·have u7:=H3 h1 U;refine ao ?_;refine ao ?_;refine K.call (hA jI) ?_;rintro _ dE ⟨rfl,cv⟩;refine ao ?_;exact⟨bq,fin cv⟩
    ·refine ao ?_;refine K.call (hA jI) ?_;rintro _ dE ⟨rfl,cv⟩;refine ao ?_;exact⟨bq,fin cv⟩
   ·refine ao ?_;refine K.call (hA jI) ?_;rintro _ dE ⟨rfl,cv⟩;refine ao ?_;exact⟨bq,fin cv⟩
end Go.Proofs.R
end
section
namespace bn
open Go Go.RowKit
theorem K.adI{α:Type}{S:Fr}{w:World}{ax:Value→Prop}{sz n cap:Nat}{R:World→Addr→α→Prop}{bf:Option Addr}{y:Operand}{k:IntKind}{xs:List α}{t}(u:Nat)(aw:bE sz R w (.slice bf n cap) xs)(cS:a7 S y = .int k (u:Int))(hu:u≤xs.length)
  (hk:∀aj c,bE sz R w (.slice aj u c) (xs.take u)→ax (.slice aj u c)):sS S sz (.slice bf n cap) none (some y) none ax t:=by
 obtain⟨bS,aZ,bJ⟩:=aw.len;refine K.gV 0 u cap (by simp[e7]) (by simp[e7,cS]) (by simp[e7]) ⟨by omega,by omega,Nat.le_refl _⟩ (by simp) ?_;have h:=aw.sub 0 u (by omega) hu;exact hk _ _ h
end bn
namespace o
open Go
theorem WB{m:Model}(h:m.cM)(k:Nat):(hq m k).cM:=by
 refine⟨h.scalars,h.vars,h.aK,h.procs,?_,h.scalar,h.var,h.chan,h.proc,fun a bD=>h.prop a (List.mem_of_mem_take bD)⟩;have U:=h.props;unfold dW at U ⊢
 have:(hq m k).props.length≤m.props.length:=by simp[hq];omega
 refine Nat.le_trans (Nat.mul_le_mul_right _ this) U
theorem aai{m:Model}{s:List Int}(h:(fE m s).2=0):(check m).cY=0∧Fits m s∧fE m s=(told m s,0):=by
 by_cases ay:(check m).cY=0
 ·by_cases aI:Fits m s
  ·exact⟨ay,aI,sa ay aI⟩
  ·rw[tK ay aI] at h;cases h
 ·rw[AJ ay] at h;cases h
theorem aaj{m:Model}{s:List Int}(h:(fE m s).2≠0):(fE m s).1=0:=by
 by_cases ay:(check m).cY=0
 ·by_cases aI:Fits m s
  ·rw[sa ay aI] at h;exact absurd rfl h
  ·rw[tK ay aI]
 ·rw[AJ ay]
theorem aah{m:Model}{s:List Int}{k:Nat}(ay:(check m).cY=0)(aI:Fits m s)(hk:k≤m.props.length):fE (hq m k) s=(kk m s k,0):=by
 rw[sa (Vi ay hk) (WH aI),aei]
theorem aeh{m:Model}{s:List Int}{k:Nat}(hk:k≤m.props.length):told m s &&& (2 ^ k - 1)=kk m s k:=by
 rw[Nat.and_two_pow_sub_one_eq_mod,aeg hk]
theorem aek(m:Model)(s:List Int):told m s / 2 ^ m.props.length=0:=Nat.div_eq_of_lt (SM m s)
end o
namespace Go.Proofs.R
open Go Go.RowKit bn
theorem aao(cs:List Value)(v1:Value)(m:o.Model)(s:List Int)(n:Nat)(w:World)(h:o.eh w cs m)(aX:m.cM)(a1:gf w)(aw:gu w v1 s)(aM:n<256) :
  bw Tryz.prog F.Bo #[.agg cs.toArray,v1,.int .u8 n] w fun u w'=>u = .bool true∧Ext w w':=by
 have bP:=h;obtain⟨cG,bR,cu,c1,cA,c2,cw,bN,cP,bX,rfl,ak,h1,U,ai,aL,et,dY,eg,dK,ed⟩:=h.form;obtain⟨os,NG,rfl,Q6⟩:=aw.form;have hA:∀{W},Ext w W→bw Tryz.prog F.kY #[] W fun v w'=>v = .bool true∧Ext W w':=fun e=>y6 _ (a1.ext e);refine bO E.Bo ?_;refine bH ?_;refine ao ?_;intro ar bz cN aE al;refine ao ?_;refine K.call (Ek _ m ar (bP.ext aE)) ?_;rintro _ aW ⟨⟨q,rfl,_⟩,aF⟩;replace al:=aF.obj al;have aZ:=aE.trans aF;cases q with
 | false =>
  refine ao ?_;refine K.call (hA aZ) ?_;rintro _ bh ⟨rfl,av⟩;refine ao ?_;exact⟨bq,aZ.trans av⟩
 | true =>
  refine ao ?_;apply K.cond<;>intro g1
  ·refine ao ?_;refine K.call (hA aZ) ?_;rintro _ bh ⟨rfl,av⟩;refine ao ?_;exact⟨bq,aZ.trans av⟩
  refine ao ?_;refine K.call (sb _ m _ s aW (bP.ext aZ) aX (a1.ext aZ) (aw.ext Flat.ext aZ)) ?_;rintro _ bh ⟨rfl,av⟩;replace al:=av.obj al;have bJ:=aZ.trans av;refine ao ?_;apply K.cond<;>intro g2;rotate_left
  ·rw[o.aaj g2];refine ao ?_;refine K.call (hA bJ) ?_;rintro _ bj ⟨rfl,aH⟩;refine ao ?_;exact⟨bq,bJ.trans aH⟩
  obtain⟨ay,aI,YP⟩:=o.aai g2;have pV:=o.BA ay;have PT:=o.SM m s;rw[YP];refine ao ?_;refine K.acY n (m.props.length+1) rfl (by omega) (by omega) ?_;have hk:n % (m.props.length+1)≤m.props.length:=by have:=Nat.mod_lt n (show 0<m.props.length+1 by omega);omega
  generalize n % (m.props.length+1)=k at hk;refine ao ?_;have agr:=cL al;intro bj y7 fo aH b0;replace al:=aH.obj al;have b5:=bJ.trans aH;refine ao ?_;refine K.adI (k:=.i64) k aL (by simp[eS,ca]) hk fun aj c Zc=>?_;refine ao ?_;intro bF eU cK;have a8:=eU.ext aH fo;have cf:=bJ.trans a8;have rZ:(o.hq m k).props.length=k:=by simp[o.hq];omega
  have Xs:o.eh bF [.slice cG m.scalars.length bR,.slice cu m.vars.length c1,.slice cA m.aK.length c2,.slice cw m.procs.length bN,.slice aj k c] (o.hq m k) :=
   ⟨_,_,_,_,_,rfl,ak.ext cf,h1.ext cf,U.ext cf,ai.ext cf,o.sP.ext cf Zc⟩
  have Yp:=o.WB aX k;have YN:=o.aah ay aI hk;have cb:=o.JO m s k;replace al:=eU.obj al (by omega);refine ao ?_;refine K.call (sb _ (o.hq m k) _ s bF Xs Yp (a1.ext cf) (aw.ext Flat.ext cf)) ?_;rintro _ bV ⟨rfl,bo⟩;rw[YN];replace al:=bo.obj al;have ez:=cf.trans bo;refine ao ?_;refine K.Ff m.props.length rfl (by omega) ?_;refine ao ?_;refine K.adF (x:=o.told m s) (n:=m.props.length) (by omega) ?_;rw[o.aek];refine ao ?_;refine K.Ff k rfl (by omega) ?_;refine ao ?_;refine K.Jw (n:=k) (by omega) ?_;have vn:2 ^ k<2 ^ 9:=Nat.pow_lt_pow_right (by decide) (by omega);have PH:0<2 ^ k:=Nat.pow_pos (by decide);refine ao ?_;refine K.Ff (2 ^ k - 1) (by omega) (by omega) ?_;have agB:o.told m s<2 ^ 9:=Nat.lt_of_lt_of_le PT (Nat.pow_le_pow_right (by decide) (by omega));refine ao ?_;refine K.T0 (by omega) (by omega) ?_;rw[o.aeh hk];refine ao ?_;refine K.call (hA ez) ?_;rintro _ cc ⟨rfl,bY⟩;refine ao ?_;exact⟨bq,ez.trans bY⟩
theorem acy(cs ys:List Value)(m:o.Model)(v:Value)(s:List Int)(w:World)(h:o.eh w cs m)(aX:m.cM)(dM:o.h6 w ys (o.layout m))(jr:o.FI m s)(aw:gu w v s) :
  bw Tryz.prog F.Bl #[.agg cs.toArray,.agg ys.toArray,v] w fun u w'=>u = .int .u64 (o.told m s:Nat)∧Ext w w':=by
 have gg:=h;have rK:=dM;obtain⟨cG,bR,cu,c1,cA,c2,cw,bN,cP,bX,rfl,ak,h1,U,ai,aL,et,dY,eg,dK,ed⟩:=h.form;obtain⟨hP,d0,fM,d1,gR,d2,iR,d3,jT,d4,rfl,_⟩:=dM.form;have oV:=o.o6 jr.1;have pV:=o.BA jr.1;have c4:=o.N4 oV jr.2;refine bO E.Bl ?_;refine bH ?_;refine ao ?_;intro ar cE gh aE bA;refine ao ?_;intro aW eu fo aF b0;replace bA:=aF.obj bA;have aZ:=aE.trans aF;refine ao ?_;refine K.call (adf _ _ v m s (-1) aW (gg.ext aZ) aX oV (rK.ext aZ) (aw.ext Flat.ext aZ) jr.2 (by omega) (by omega)) ?_;rintro _ bh ⟨⟨es,rfl,gO⟩,av⟩;have OA:=gO.here;have GW:=N3 OA c4;obtain⟨JT,SY,B4,aev,rfl,fN,da,cZ,fr⟩:=OA.ex;obtain⟨_,_,rfl,_⟩:=fN.form;obtain⟨_,_,rfl,_⟩:=da.form;obtain⟨_,_,rfl,_⟩:=cZ.form;obtain⟨_,_,rfl,_⟩:=fr.form;clear fN da cZ fr;have bJ:=aZ.trans av;replace bA:=av.obj bA;refine ao ?_;intro bj wM kO aH er;have b5:=bJ.trans aH;replace bA:=aH.obj bA;have l0:=GW.ext aH;refine ao ?_;refine K.cV 9 m.props.length [3,7] (fun u:Nat=>[(8,.int .u64 (u:Nat))]) 0 (fun k u W=>u=o.kk m s k∧Ext bj W) bp bp ⟨rfl,Ext.refl _⟩ ?_;rintro k u S bF hk ⟨rfl,a8⟩;have af8:=a8.obj bA;have af9:=a8.obj er;have cf:=b5.trans a8;refine ao ?_;apply K.cond<;>intro g2
 ·have cp:k<m.props.length:=by omega
  obtain⟨a4,rfl⟩:=aL.addr (by omega);obtain⟨lC,fH,dR,fi⟩:=aL.at k cp;obtain⟨x7,ce,rfl,_⟩:=fi.form;unfold o.h7.enc at dR;have agu:=dR.ext cf;refine ao ?_;refine K.fj (.tuple #[.int .i64 (o.eval m.props[k].expr (o.db m s (-1))).1,.int .i64 (o.eval m.props[k].expr (o.db m s (-1))).2]) (fun w' gZ=>acP _ m.props[k].expr _ (o.db m s (-1)) w' (fi.ext (cf.trans gZ)) (l0.ext (a8.trans gZ))) ?_;refine ao ?_;intro cc bY;refine ao ?_;apply K.cond<;>intro g3
  ·refine ao ?_;apply K.cond<;>intro g4
   ·refine ao ?_;refine⟨cp,bq,_,⟨rfl,trivial⟩,(o.E1 cp (fun cR=>cR.2 g4)).symm,a8.trans bY⟩
   ·refine ao ?_;refine K.Ff k rfl (by omega) ?_;refine ao ?_;refine K.Jw (by omega) ?_;refine ao ?_;refine K.Rr (by have:=o.SJ (m:=m) (s:=s) (k:=k) (by omega);omega) (by have:=o.Rx (k:=k) (by omega);omega) ?_;refine ao ?_;refine⟨cp,bq,_,⟨rfl,trivial⟩,(o.SL cp ⟨g3,g4⟩).symm,a8.trans bY⟩
  ·refine ao ?_;refine⟨cp,bq,_,⟨rfl,trivial⟩,(o.E1 cp (fun cR=>g3 cR.1)).symm,a8.trans bY⟩
 ·have jM:k=m.props.length:=by omega
  refine ao ?_;exact⟨by rw[jM,o.JN],cf⟩
theorem acx(cs:List Value)(m:o.Model)(v:Value)(s:List Int)(w:World)(h:o.eh w cs m)(aX:m.cM)(aw:gu w v s) :
  bw Tryz.prog F.Bj #[.agg cs.toArray,v] w fun u w'=>u = .tuple #[.int .u64 ((o.fE m s).1:Nat),.int .i64 (o.fE m s).2]∧Ext w w':=by
 have gg:=h;obtain⟨cG,bR,cu,c1,cA,c2,cw,bN,cP,bX,rfl,_⟩:=h.form;refine bO E.Bj ?_;refine bH ?_;refine ao ?_;intro ar ch en aE aO;refine ao ?_;refine K.call (Q9 _ m ar (gg.ext aE) aX) ?_;rintro _ aW ⟨rfl,aF⟩;replace aO:=aF.obj aO;have aZ:=aE.trans aF;refine ao ?_;apply K.cond<;>intro g1;rotate_left
 ·refine ao ?_;exact⟨by rw[o.AJ g1]<;>rfl,aZ⟩
 refine ao ?_;refine K.call (RO _ m aW (gg.ext aZ) aX) ?_;rintro _ bh ⟨⟨ys,rfl,dM⟩,av⟩;have bJ:=aZ.trans av;replace aO:=av.obj aO;have oV:=o.o6 g1;have Al:o.lay m=o.layout m:=by unfold o.lay;rw[if_pos g1]
 rw[Al] at dM;have zP:=dM.here;obtain⟨hP,d0,fM,d1,gR,d2,iR,d3,jT,d4,rfl,_⟩:=zP.form;refine ao ?_;intro bj ia gi aH cW;have b5:=bJ.trans aH;replace aO:=aH.obj aO;have Dq:=zP.ext aH;refine ao ?_;refine K.call (acw _ _ m v s bj (gg.ext b5) Dq oV (aw.ext Flat.ext b5)) ?_;rintro _ bF ⟨⟨t,rfl,aG⟩,a8⟩;have cf:=b5.trans a8;replace aO:=a8.obj aO;replace cW:=a8.obj cW;cases t with
 | false =>
  have HN:¬o.Fits m s:=fun aI=>by have:=aG.2 aI;cases this
  refine ao ?_;exact⟨by rw[o.tK g1 HN]<;>rfl,cf⟩
 | true =>
  have aI:=aG.1 rfl;refine ao ?_;refine K.call (acy _ _ m v s bF (gg.ext cf) aX (Dq.ext a8) ⟨g1,aI⟩ (aw.ext Flat.ext cf)) ?_;rintro _ bV ⟨rfl,bo⟩;refine ao ?_;exact⟨by rw[o.sa g1 aI]<;>rfl,cf.trans bo⟩
theorem aaq(cs:List Value)(v1:Value)(m:o.Model)(bT:List (List Int))(w:World)(h:o.eh w cs m)(aX:m.cM)(a1:gf w)(aw:oM w v1 bT) :
  bw Tryz.prog F.Bq #[.agg cs.toArray,v1] w fun u w'=>u = .bool true∧Ext w w':=by
 have bP:=h;obtain⟨cG,bR,cu,c1,cA,c2,cw,bN,cP,bX,rfl,_⟩:=h.form;obtain⟨os,NG,rfl,Q6⟩:=aw.form;have hA:∀{W},Ext w W→bw Tryz.prog F.kY #[] W fun v w'=>v = .bool true∧Ext W w':=fun e=>y6 _ (a1.ext e);refine bO E.Bq ?_;refine bH ?_;refine ao ?_;intro ar bz cN aE al;refine ao ?_;refine K.call (Ek _ m ar (bP.ext aE)) ?_;rintro _ aW ⟨⟨q,rfl,_⟩,aF⟩;replace al:=aF.obj al;have aZ:=aE.trans aF;cases q with
 | false =>
  refine ao ?_;refine K.call (hA aZ) ?_;rintro _ bh ⟨rfl,av⟩;refine ao ?_;exact⟨bq,aZ.trans av⟩
 | true =>
  refine ao ?_;apply K.cond<;>intro g1
  ·refine ao ?_;refine K.call (hA aZ) ?_;rintro _ bh ⟨rfl,av⟩;refine ao ?_;exact⟨bq,aZ.trans av⟩
  refine ao ?_;refine K.cV 5 bT.length [1,2] (fun _:Unit=>[]) () (fun _ _ W=>Ext aW W) bp bp (Ext.refl _) ?_;rintro k _ S bh hk av;have bJ:=aZ.trans av;refine ao ?_;apply K.cond<;>intro g2
  ·have cp:k<bT.length:=by omega
   obtain⟨a,rfl⟩:=aw.addr (by omega);obtain⟨us,xA,qO⟩:=aw.at k cp;obtain⟨Rp,co,rfl,_⟩:=qO.form;refine ao ?_;refine K.ld (bJ.cell xA) ?_;refine ao ?_;apply K.cond<;>intro g3
   ·refine ao ?_;refine K.call (hA bJ) ?_;rintro _ bj ⟨rfl,aH⟩;refine ao ?_;exact⟨bq,bJ.trans aH⟩
   ·refine ao ?_;exact⟨cp,bq,(),trivial,av⟩
  have hF:=av.obj al;clear hk;refine ao ?_;refine K.call (Ta _ m _ bT bh (bP.ext bJ) aX (a1.ext bJ) (aw.ext rl.ext bJ) (by omega)) ?_;rintro _ bj ⟨hw,aH⟩;obtain⟨abI,Vw,rfl,_⟩:=hw.form;have hW:bE 1 (Flat pO) bj _ _:=br.lI (enc:=pO) (fun _=>rfl) hw;have agF:(bT.map fun s=>(o.fE m s).1).length=bT.length:=List.length_map ..;replace hF:=aH.obj hF;have b5:=bJ.trans aH;clear hw;refine ao ?_;refine K.cV 7 bT.length [1,2,6] (fun _:Unit=>[]) () (fun _ _ W=>Ext bj W) bp bp (Ext.refl _) ?_;rintro j _ nP bF aP a8;have cf:=b5.trans a8;have qE:=a8.obj hF;refine ao ?_;apply K.cond<;>intro g4;rotate_left
  ·refine ao ?_;refine K.call (hA cf) ?_;rintro _ bV ⟨rfl,bo⟩;refine ao ?_;exact⟨bq,cf.trans bo⟩
  have oh:j<bT.length:=by omega
  obtain⟨a,rfl⟩:=aw.addr (by omega);obtain⟨us,xA,qO⟩:=aw.at j oh;obtain⟨Rp,co,rfl,_⟩:=qO.form;obtain⟨Ud,rfl⟩:=hW.addr (by omega);have PW:=cf.cell xA;have ZE:(bT.map fun s=>(o.fE m s).1)[j]'(by omega)=(o.fE m bT[j]).1:=by simp
  have agE:∀{W},Ext bj W→W.cell? (Ud.add (j*1))=some (.int .u64 ((o.fE m bT[j]).1:Nat)):=fun e=>by
   have kP:=e.cell (k7.zf (R:=Flat pO) (enc:=pO) _ _ _ (hW.at j (by omega)) 0 _ rfl);rw[ZE,add_zero] at kP;exact kP
  refine ao ?_;refine K.ld PW ?_;refine ao ?_;refine K.fj (.tuple #[.int .u64 ((o.fE m bT[j]).1:Nat),.int .i64 (o.fE m bT[j]).2]) (fun w' gZ=>sb _ m _ bT[j] w' (bP.ext (cf.trans gZ)) aX (a1.ext (cf.trans gZ)) (qO.ext Flat.ext (cf.trans gZ))) ?_;refine ao ?_;intro bV bo;have ez:=cf.trans bo;replace qE:=bo.obj qE;have Zz:=bo.cell PW;refine ao ?_;refine K.ld Zz ?_;refine ao ?_;refine K.fj (.tuple #[.int .u64 ((o.fE m bT[j]).1:Nat),.int .i64 (o.fE m bT[j]).2]) (fun w' gZ=>acx _ m _ bT[j] w' (bP.ext (ez.trans gZ)) aX (qO.ext Flat.ext (ez.trans gZ))) ?_;refine ao ?_;intro cc bY;have NW:Ext bj cc:=(a8.trans bo).trans bY;have afP:=hW.ext Flat.ext NW;clear hW;refine ao ?_;exact⟨oh,bq,(),trivial,NW⟩
end Go.Proofs.R
end
section
namespace bn
open Go Go.RowKit Go.ChangeShapes Go.WideShapes Go.Deep
section
variable{H:Type}{enc:TypeId×Value→H}{P:Program}{w:World}{base:Nat}{spare:Nat→Bool}{held:Bool}
theorem rD{t:TypeId}{fJ:Array Field}{n:Nat}{cs:List Value}{y:DataW H×List MemPlace}(aG:P.underlying t=some (.struct fJ))(rY:oneCellFields P fJ=true)(j5:P.cellsOf t=fJ.size)
  (h:DataW.trod enc P w base spare held n t cs=some y):cs.length=fJ.size∧∃jQ ds,y.1 = .agg ds∧∀(j:Nat) (f:Field),fJ[j]? = some f→∃v z,cs[j]? = some v∧DataW.trod enc P w base spare held jQ f.type [v]=some z∧ds[j]? = some z.1:=by
 obtain⟨ys,jQ,DP,cS,hlen,agG,aI⟩:=DataW.trod_struct aG h;refine⟨by omega,jQ,_,by rw[cS],fun j f aP=>?_⟩;obtain⟨a1,hk⟩:=hone_of rY j f aP;have YF:j<fJ.size:=(Array.getElem?_eq_some_iff.1 aP).1;have aS:cs[j]? = some (cs[j]'(by omega)):=List.getElem?_eq_getElem (by omega);have h1:=aI j f aP;rw[a1,hk] at h1;have Y2:(cs.drop j).take 1=[cs[j]'(by omega)]:=by
  rw[List.drop_eq_getElem_cons (by omega)];rfl
 rw[Y2,List.getElem?_eq_getElem (l:=ys) (by omega)] at h1;exact⟨_,_,aS,h1,by rw[List.getElem?_map,List.getElem?_eq_getElem (by omega)];rfl⟩
def Small(P:Program)(t:TypeId)(d:DataW H):Prop := ∀q∈d.weights P t,q≤reachBytes
theorem Small.field{t u:TypeId}{fJ:Array Field}{ds:List (DataW H)}{j:Nat}{d:DataW H}{f:Field}(h:Small P t (.agg ds))(aG:P.underlying t=some (.struct fJ))(aI:fJ[j]? = some f)(hu:f.type=u)(bx:ds[j]? = some d):Small P u d:=by
 subst hu;intro q aJ;refine h q ?_;simp only[DataW.weights,aG];exact DataW.weights_mem_each (j:=j) (by simp[aI]) bx q aJ
theorem Nr{α:Type}{R:World→Addr→α→Prop}{t e:TypeId}{v:Value}{n:Nat}{z:DataW H×List MemPlace}(sz:Nat)(aG:P.underlying t=some (.slice e))(j5:P.cellsOf e=sz)(pQ:0<P.bytesOf e)
  (jr:∀(a:Addr) (cs:List Value) (n:Nat) (y:DataW H×List MemPlace),e2 w a cs→cs.length=sz→DataW.trod enc P w 0 (fun _=>true) true n e cs=some y→∃x,R w a x)
  (h:DataW.trod enc P w 0 (fun _=>true) true n t [v]=some z):∃xs,bE sz R w v xs∧(Small P t z.1→xs.length≤140737488355328):=by
 rcases open_slice aG h with ⟨fq,_⟩ | ⟨a,len,cap,m,n,D,Tz,fq,aA,aN,hm,Ap,aD,ad⟩
 ·simp at fq;subst fq;exact⟨[],bE.nil,fun _=>by simp⟩
 ·simp at fq;subst fq;simp only[if_true] at Ap;subst Ap;obtain⟨xs,xF,r4⟩:=II len (fun i x=>R w (a.add (i*sz)) x) fun i cr=>by
   obtain⟨hB,ay,tB⟩:=ad i (by omega);rw[j5] at ay;obtain⟨_,fK,lu⟩:=World.cells?_some ay;refine jr _ hB n _ (fun j u aP=>?_) fK tB;have HD:j<sz:=fK ▸ (List.getElem?_eq_some_iff.1 aP).1;rw[←aP];exact lu j HD
  refine⟨xs,⟨some a,_,by rw[xF],by omega,hm,fun _=>rfl,fun dr bD=>by injection bD with bD;subst bD;exact r4⟩,fun aw=>?_⟩;have h1:=aw ((len+(m - len))*P.bytesOf e) (by rw[aD];simp[DataW.weights,aG]);have U:=reachBytes_lt;have ai:len≤(len+(m - len))*P.bytesOf e:=Nat.le_trans (Nat.le_add_right len _) (Nat.le_mul_of_pos_right _ pQ);rw[xF];omega
theorem M6{r:Reach}{gw:Nat}{t e:TypeId}{v:Value}{d:DataW H}{p:List MemPlace}(aG:P.underlying t=some (.slice e))(p1:Value.okWide P w r gw t v)(h:DataW.Trod enc P w 0 (fun _=>true) true t v d p) :
  ∃n,DataW.trod enc P w 0 (fun _=>true) true n t [v]=some (d,p):=by
 obtain⟨a0,ag8,afv,rfl⟩:=okWide_slice aG p1;obtain⟨n,aM⟩:=h;exact⟨n,aM⟩
end
end bn
namespace Go.Proofs.R
open Go Go.RowKit bn Go.ChangeShapes
variable{H:Type}{enc:TypeId×Value→H}{w:World}{cs:List Value}{n:Nat}{y:DataW H×List MemPlace}{v:Value}
theorem kl{z:Int}(h:(Lit.int .i64 z).wf=true):o.df z:=by
 simp only[Lit.wf,Bool.and_eq_true,decide_eq_true_eq] at h;exact⟨h.1,h.2⟩
theorem abd(h:DataW.trod enc Tryz.prog w 0 (fun _=>true) true n T.f cs=some y):∃x:o.Node,cs=x.enc∧x.ok:=by
 obtain⟨aN,jQ,ds,_,aI⟩:=rD (t:=T.f) rfl (by kernel_rfl) (by kernel_rfl) h
 match cs,aN with
 | [bR,c1],_ =>
  obtain⟨_,_,dJ,ak,_⟩:=aI 0 _ rfl;obtain⟨_,_,bS,h1,_⟩:=aI 1 _ rfl;cases dJ;cases bS;obtain⟨z0,dJ,_,fN⟩:=DataW.trod_int (k:=.i64) (by kernel_rfl) ak;obtain⟨fx,bS,_,da⟩:=DataW.trod_int (k:=.i64) (by kernel_rfl) h1;cases dJ;cases bS;exact⟨⟨z0,fx⟩,rfl,kl fN,kl da⟩
end Go.Proofs.R
end
section
namespace Go.Proofs.R
open Go Go.RowKit bn Go.ChangeShapes
variable{H:Type}{enc:TypeId×Value→H}{w:World}{r:Reach}{gw:Nat}{v:Value}{d:DataW H}{p:List MemPlace}
theorem Qk{n:Nat}{y:DataW H×List MemPlace}(h:DataW.trod enc Tryz.prog w 0 (fun _=>true) true n T.b [v]=some y):∃l,lO w v l∧(Small Tryz.prog T.b y.1→l.length≤140737488355328) :=
 Nr (e:=T.a) 1 (by kernel_rfl) (by kernel_rfl) (by decide +kernel) (fun a cs n y ay aN aG=>by
  obtain⟨z,e,_,aag⟩:=DataW.trod_int (k:=.i64) (by kernel_rfl) aG;cases e;exact⟨z,ay,kl aag⟩) h
theorem ada{n:Nat}{y:DataW H×List MemPlace}(h:DataW.trod enc Tryz.prog w 0 (fun _=>true) true n T.t [v]=some y):∃l,qn w v l∧(Small Tryz.prog T.t y.1→l.length≤140737488355328) :=
 Nr (e:=T.b) 1 (by kernel_rfl) (by kernel_rfl) (by decide +kernel) (fun a cs n y ay aN aG=>by
  match cs,aN with
  | [u],_ =>
   obtain⟨l,aN,_⟩:=Qk aG;have ak:=ay 0 u rfl;rw[add_zero] at ak;exact⟨l,u,ak,aN⟩) h
theorem open_ints(p1:Value.okWide Tryz.prog w r gw T.b v)(h:DataW.Trod enc Tryz.prog w 0 (fun _=>true) true T.b v d p):∃l,lO w v l:=by
 obtain⟨n,aM⟩:=M6 (e:=T.a) (by kernel_rfl) p1 h;obtain⟨l,aN,_⟩:=Qk aM;exact⟨l,aN⟩
end Go.Proofs.R
end
section
namespace Go.Proofs.R
open Go Go.RowKit bn Go.ChangeShapes
variable{H:Type}{enc:TypeId×Value→H}{w:World}{r:Reach}{gw:Nat}{v:Value}{d:DataW H}{p:List MemPlace}
theorem I1(p1:Value.okWide Tryz.prog w r gw T.b v)(h:DataW.Trod enc Tryz.prog w 0 (fun _=>true) true T.b v d p):∃l,bE 1 (Flat eb) w v l:=by
 obtain⟨l,aN⟩:=open_ints p1 h;obtain⟨bf,cap,e,h1,U,ai,aL⟩:=aN.ex;exact⟨l,bf,cap,e,h1,U,ai,fun a bD i ad=>(aL a bD i ad).1⟩
end Go.Proofs.R
end
section
namespace bn
open Go Go.RowKit Go.ChangeShapes Go.WideShapes Go.Deep
section
variable{H:Type}{enc:TypeId×Value→H}{P:Program}{w:World}{base:Nat}{spare:Nat→Bool}{held:Bool}
theorem S7{e:TypeId}:∀{ds:List (DataW H)} {d:DataW H},d∈ds→∀n∈d.weights P e,n∈DataW.weightsAll P e ds
 | [],_,h=>by cases h
 | x :: r,d,h=>fun n aM=>by
  simp only[DataW.weightsAll];rcases List.mem_cons.1 h with rfl | h
  ·exact List.mem_append_left _ aM
  ·exact List.mem_append_right _ (S7 h n aM)
theorem s3{α:Type}{R:World→Addr→α→Prop}{G:α→Prop}{t e:TypeId}{v:Value}{n:Nat}{z:DataW H×List MemPlace}(sz B:Nat)(aG:P.underlying t=some (.slice e))(j5:P.cellsOf e=sz)(pQ:P.bytesOf e=B)
  (jr:∀(a:Addr) (cs:List Value) (n:Nat) (y:DataW H×List MemPlace),e2 w a cs→cs.length=sz→DataW.trod enc P w 0 (fun _=>true) true n e cs=some y→∃x,R w a x∧(Small P e y.1→G x))
  (h:DataW.trod enc P w 0 (fun _=>true) true n t [v]=some z):∃xs,bE sz R w v xs∧(Small P t z.1→o.dW xs.length B∧∀x∈xs,G x):=by
 rcases open_slice aG h with ⟨fq,_⟩ | ⟨a,len,cap,m,n,D,Tz,fq,aA,aN,hm,Ap,aD,ad⟩
 ·simp at fq;subst fq;exact⟨[],bE.nil,fun _=>⟨by simp[o.dW],fun x aD=>by cases aD⟩⟩
 ·simp at fq;subst fq;simp only[if_true] at Ap;subst Ap;obtain⟨xs,xF,r4⟩:=II len (fun i x=>R w (a.add (i*sz)) x∧(Small P e (D i)→G x)) fun i cr=>by
   obtain⟨hB,ay,tB⟩:=ad i (by omega);rw[j5] at ay;obtain⟨_,fK,lu⟩:=World.cells?_some ay;refine jr _ hB n _ (fun j u aP=>?_) fK tB;have HD:j<sz:=fK ▸ (List.getElem?_eq_some_iff.1 aP).1;rw[←aP];exact lu j HD
  refine⟨xs,⟨some a,_,by rw[xF],by omega,hm,fun _=>rfl,fun dr bD i ad=>by injection bD with bD;subst bD;exact(r4 i ad).1⟩,fun aw=>⟨?_,fun x tD=>?_⟩⟩
  ·have h1:=aw ((len+(m - len))*P.bytesOf e) (by rw[aD];simp[DataW.weights,aG]);have U:len*B≤(len+(m - len))*P.bytesOf e:=by rw[pQ];exact Nat.mul_le_mul_right _ (by omega)
   have ai:reachBytes=140737488351232:=rfl;unfold o.dW;rw[xF];omega
  ·obtain⟨i,cr,rfl⟩:=List.mem_iff_getElem.1 tD;refine(r4 i cr).2 fun q aJ=>aw q ?_;rw[aD];simp only[DataW.weights,aG];refine List.mem_cons_of_mem _ (List.mem_append_left _ (S7 ?_ q aJ));exact List.mem_map.2 ⟨i,by simp;omega,rfl⟩
theorem abw{r:Reach}{gw:Nat}{t:TypeId}{fJ:Array Field}{v:Value}{d:DataW H}{p:List MemPlace}(aG:P.underlying t=some (.struct fJ))
  (p1:Value.okWide P w r gw t v)(h:DataW.Trod enc P w base spare held t v d p):∃cs n,v = .agg cs∧DataW.trod enc P w base spare held n t cs.toList=some (d,p):=by
 obtain⟨cs,rfl,c5⟩:=okWide_struct aG p1;obtain⟨fuel,aI⟩:=h;exact⟨cs,fuel,rfl,aI⟩
end
end bn
namespace Go.Proofs.R
open Go Go.RowKit bn Go.ChangeShapes
variable{H:Type}{enc:TypeId×Value→H}{w:World}{cs:List Value}{n:Nat}{y:DataW H×List MemPlace}{v:Value}
theorem W8(h:DataW.trod enc Tryz.prog w 0 (fun _=>true) true n T.qp cs=some y):∃x:o.Scalar,cs=x.enc∧o.h2 x.name∧x.cM:=by
 obtain⟨aN,jQ,ds,_,aI⟩:=rD (t:=T.qp) rfl (by kernel_rfl) (by kernel_rfl) h
 match cs,aN with
 | [bR,c1],_ =>
  obtain⟨_,_,dJ,ak,_⟩:=aI 0 _ rfl;obtain⟨_,_,bS,h1,_⟩:=aI 1 _ rfl;cases dJ;cases bS;obtain⟨s,dJ,_,aw⟩:=DataW.trod_string (by kernel_rfl) ak;obtain⟨z,bS,_,da⟩:=DataW.trod_int (k:=.i64) (by kernel_rfl) h1;cases dJ;cases bS;exact⟨⟨s,z⟩,rfl,aw,⟨kl da⟩⟩
theorem Xa(h:DataW.trod enc Tryz.prog w 0 (fun _=>true) true n T.h cs=some y):∃x:o.Var,cs=x.enc∧o.h2 x.name∧x.cM:=by
 obtain⟨aN,jQ,ds,_,aI⟩:=rD (t:=T.h) rfl (by kernel_rfl) (by kernel_rfl) h
 match cs,aN with
 | [bR,c1,c2,bN,bX,n0],_ =>
  obtain⟨_,_,dJ,ak,_⟩:=aI 0 _ rfl;obtain⟨_,_,bS,h1,_⟩:=aI 1 _ rfl;obtain⟨_,_,aZ,U,_⟩:=aI 2 _ rfl;obtain⟨_,_,bJ,ai,_⟩:=aI 3 _ rfl;obtain⟨_,_,b5,aL,_⟩:=aI 4 _ rfl;obtain⟨_,_,cf,bt,_⟩:=aI 5 _ rfl;cases dJ;cases bS;cases aZ;cases bJ;cases b5;cases cf;obtain⟨s,dJ,_,aw⟩:=DataW.trod_string (by kernel_rfl) ak;obtain⟨fx,bS,_,da⟩:=DataW.trod_int (k:=.i64) (by kernel_rfl) h1;obtain⟨z2,aZ,_,cZ⟩:=DataW.trod_int (k:=.i64) (by kernel_rfl) U;obtain⟨z3,bJ,_,fr⟩:=DataW.trod_int (k:=.i64) (by kernel_rfl) ai;obtain⟨z4,b5,_,iO⟩:=DataW.trod_int (k:=.i64) (by kernel_rfl) aL;obtain⟨z5,cf,_,Ix⟩:=DataW.trod_int (k:=.i64) (by kernel_rfl) bt;cases dJ;cases bS;cases aZ;cases bJ;cases b5;cases cf;exact⟨⟨s,fx,z2,z3,z4,z5⟩,rfl,aw,⟨kl da,kl cZ,kl fr,kl iO,kl Ix⟩⟩
theorem WX(h:DataW.trod enc Tryz.prog w 0 (fun _=>true) true n T.p cs=some y):∃x:o.dh,cs=x.enc∧o.h2 x.name∧x.cM:=by
 obtain⟨aN,jQ,ds,_,aI⟩:=rD (t:=T.p) rfl (by kernel_rfl) (by kernel_rfl) h
 match cs,aN with
 | [bR,c1,c2,bN,bX,n0],_ =>
  obtain⟨_,_,dJ,ak,_⟩:=aI 0 _ rfl;obtain⟨_,_,bS,h1,_⟩:=aI 1 _ rfl;obtain⟨_,_,aZ,U,_⟩:=aI 2 _ rfl;obtain⟨_,_,bJ,ai,_⟩:=aI 3 _ rfl;obtain⟨_,_,b5,aL,_⟩:=aI 4 _ rfl;obtain⟨_,_,cf,bt,_⟩:=aI 5 _ rfl;cases dJ;cases bS;cases aZ;cases bJ;cases b5;cases cf;obtain⟨s,dJ,_,aw⟩:=DataW.trod_string (by kernel_rfl) ak;obtain⟨fx,bS,_,da⟩:=DataW.trod_int (k:=.i64) (by kernel_rfl) h1;obtain⟨z2,aZ,_,cZ⟩:=DataW.trod_int (k:=.i64) (by kernel_rfl) U;obtain⟨z3,bJ,_,fr⟩:=DataW.trod_int (k:=.i64) (by kernel_rfl) ai;obtain⟨z4,b5,_,iO⟩:=DataW.trod_int (k:=.i64) (by kernel_rfl) aL;obtain⟨z5,cf,_⟩:=DataW.trod_bool (by kernel_rfl) bt;cases dJ;cases bS;cases aZ;cases bJ;cases b5;cases cf;exact⟨⟨s,fx,z2,z3,z4,z5⟩,rfl,aw,⟨kl da,kl cZ,kl fr,kl iO⟩⟩
theorem Dk(h:DataW.trod enc Tryz.prog w 0 (fun _=>true) true n T.x [v]=some y):∃l,o.gG w v l∧(Small Tryz.prog T.x y.1→o.dW l.length 16∧∀x∈l,True) :=
 s3 (G:=fun _=>True) (e:=T.f) 2 16 (by kernel_rfl) (by kernel_rfl) (by kernel_rfl) (fun a cs n y ay aN aG=>by obtain⟨x,rfl,aD⟩:=abd aG;exact⟨x,⟨ay,aD⟩,fun _=>trivial⟩) h
theorem W9(h:DataW.trod enc Tryz.prog w 0 (fun _=>true) true n T.z [v]=some y):∃l,o.gW w v l∧(Small Tryz.prog T.z y.1→o.dW l.length 24∧∀x∈l,x.cM) :=
 s3 (e:=T.qp) 2 24 (by kernel_rfl) (by kernel_rfl) (by kernel_rfl) (fun a cs n y ay aN aG=>by obtain⟨x,rfl,aD,aX⟩:=W8 aG;exact⟨x,⟨ay,aD⟩,fun _=>aX⟩) h
theorem Oy(h:DataW.trod enc Tryz.prog w 0 (fun _=>true) true n T.nT [v]=some y):∃l,o.gL w v l∧(Small Tryz.prog T.nT y.1→o.dW l.length 56∧∀x∈l,x.cM) :=
 s3 (e:=T.h) 6 56 (by kernel_rfl) (by kernel_rfl) (by kernel_rfl) (fun a cs n y ay aN aG=>by obtain⟨x,rfl,aD,aX⟩:=Xa aG;exact⟨x,⟨ay,aD⟩,fun _=>aX⟩) h
theorem WY(h:DataW.trod enc Tryz.prog w 0 (fun _=>true) true n T.nU [v]=some y):∃l,o.mf w v l∧(Small Tryz.prog T.nU y.1→o.dW l.length 56∧∀x∈l,x.cM) :=
 s3 (e:=T.p) 6 56 (by kernel_rfl) (by kernel_rfl) (by kernel_rfl) (fun a cs n y ay aN aG=>by obtain⟨x,rfl,aD,aX⟩:=WX aG;exact⟨x,⟨ay,aD⟩,fun _=>aX⟩) h
theorem WV{a:Addr}(ay:e2 w a cs)(h:DataW.trod enc Tryz.prog w 0 (fun _=>true) true n T.r cs=some y):∃x:o.Act,o.uy w a x∧(Small Tryz.prog T.r y.1→x.cM):=by
 obtain⟨aN,jQ,ds,he,aI⟩:=rD (t:=T.r) rfl (by kernel_rfl) (by kernel_rfl) h
 match cs,aN with
 | [bR,c1,c2,bN,bX],_ =>
  obtain⟨_,_,dJ,ak,_⟩:=aI 0 _ rfl;obtain⟨_,_,bS,h1,_⟩:=aI 1 _ rfl;obtain⟨_,_,aZ,U,_⟩:=aI 2 _ rfl;obtain⟨_,_,bJ,ai,d3⟩:=aI 3 _ rfl;obtain⟨_,_,b5,aL,d4⟩:=aI 4 _ rfl;cases dJ;cases bS;cases aZ;cases bJ;cases b5;obtain⟨z0,dJ,_,fN⟩:=DataW.trod_int (k:=.i64) (by kernel_rfl) ak;obtain⟨fx,bS,_,da⟩:=DataW.trod_int (k:=.i64) (by kernel_rfl) h1;obtain⟨z2,aZ,_,cZ⟩:=DataW.trod_int (k:=.i64) (by kernel_rfl) U;cases dJ;cases bS;cases aZ;obtain⟨dK,ai,g3⟩:=Dk ai;obtain⟨ed,aL,g4⟩:=Dk aL;exact⟨⟨z0,fx,z2,dK,ed⟩,⟨bN,bX,ay,ai,aL⟩,fun aw=>by
   rw[he] at aw;exact⟨kl fN,kl da,kl cZ,(g3 (aw.field rfl rfl rfl d3)).1,(g4 (aw.field rfl rfl rfl d4)).1⟩⟩
theorem WW(h:DataW.trod enc Tryz.prog w 0 (fun _=>true) true n T.ap [v]=some y):∃l,o.qj w v l∧(Small Tryz.prog T.ap y.1→o.dW l.length 72∧∀x∈l,x.cM) :=
 s3 (e:=T.r) 5 72 (by kernel_rfl) (by kernel_rfl) (by kernel_rfl) (fun a cs n y ay aN aG=>WV ay aG) h
theorem WZ(h:DataW.trod enc Tryz.prog w 0 (fun _=>true) true n T.q cs=some y):∃x:o.ft,o.uj w cs x∧(Small Tryz.prog T.q y.1→x.cM):=by
 obtain⟨aN,jQ,ds,he,aI⟩:=rD (t:=T.q) rfl (by kernel_rfl) (by kernel_rfl) h
 match cs,aN with
 | [bR,c1,c2,bN,bX,n0],_ =>
  obtain⟨_,_,dJ,ak,_⟩:=aI 0 _ rfl;obtain⟨_,_,bS,h1,_⟩:=aI 1 _ rfl;obtain⟨_,_,aZ,U,_⟩:=aI 2 _ rfl;obtain⟨_,_,bJ,ai,d3⟩:=aI 3 _ rfl;obtain⟨_,_,b5,aL,d4⟩:=aI 4 _ rfl;obtain⟨_,_,cf,bt,_⟩:=aI 5 _ rfl;cases dJ;cases bS;cases aZ;cases bJ;cases b5;cases cf;obtain⟨s,dJ,_,aw⟩:=DataW.trod_string (by kernel_rfl) ak;obtain⟨fx,bS,_,da⟩:=DataW.trod_int (k:=.i64) (by kernel_rfl) h1;obtain⟨z2,aZ,_,cZ⟩:=DataW.trod_int (k:=.i64) (by kernel_rfl) U;obtain⟨z5,cf,_⟩:=DataW.trod_bool (by kernel_rfl) bt;cases dJ;cases bS;cases aZ;cases cf;obtain⟨dK,ai,g3⟩:=Dk ai;obtain⟨ed,aL,g4⟩:=WW aL;exact⟨⟨s,fx,z2,dK,ed,z5⟩,⟨aw,bN,bX,rfl,ai,aL⟩,fun aw=>by
   rw[he] at aw;exact⟨kl da,kl cZ,(g3 (aw.field rfl rfl rfl d3)).1,(g4 (aw.field rfl rfl rfl d4)).1,(g4 (aw.field rfl rfl rfl d4)).2⟩⟩
theorem W0(h:DataW.trod enc Tryz.prog w 0 (fun _=>true) true n T.pI [v]=some y):∃l,o.pq w v l∧(Small Tryz.prog T.pI y.1→o.dW l.length 88∧∀x∈l,x.cM) :=
 s3 (e:=T.q) 6 88 (by kernel_rfl) (by kernel_rfl) (by kernel_rfl) (fun a cs n y ay aN aG=>by
  obtain⟨x,⟨ak,jD,gK,rfl,h1,U⟩,aX⟩:=WZ aG;exact⟨x,⟨ak,jD,gK,ay,h1,U⟩,aX⟩) h
theorem W4(h:DataW.trod enc Tryz.prog w 0 (fun _=>true) true n T.i cs=some y):∃x:o.dx,o.sO w cs x∧(Small Tryz.prog T.i y.1→x.cM):=by
 obtain⟨aN,jQ,ds,he,aI⟩:=rD (t:=T.i) rfl (by kernel_rfl) (by kernel_rfl) h
 match cs,aN with
 | [bR,c1,c2,bN,bX],_ =>
  obtain⟨_,_,dJ,ak,_⟩:=aI 0 _ rfl;obtain⟨_,_,bS,h1,_⟩:=aI 1 _ rfl;obtain⟨_,_,aZ,U,_⟩:=aI 2 _ rfl;obtain⟨_,_,bJ,ai,d3⟩:=aI 3 _ rfl;obtain⟨_,_,b5,aL,d4⟩:=aI 4 _ rfl;cases dJ;cases bS;cases aZ;cases bJ;cases b5;obtain⟨s,dJ,_,aw⟩:=DataW.trod_string (by kernel_rfl) ak;obtain⟨fx,bS,_,da⟩:=DataW.trod_int (k:=.i64) (by kernel_rfl) h1;obtain⟨z2,aZ,_,cZ⟩:=DataW.trod_int (k:=.i64) (by kernel_rfl) U;cases dJ;cases bS;cases aZ;obtain⟨dK,ai,g3⟩:=Oy ai;obtain⟨ed,aL,g4⟩:=W0 aL;exact⟨⟨s,fx,z2,dK,ed⟩,⟨aw,bN,bX,rfl,ai,aL⟩,fun aw=>by
   rw[he] at aw;exact⟨kl da,kl cZ,(g3 (aw.field rfl rfl rfl d3)).1,(g4 (aw.field rfl rfl rfl d4)).1,(g3 (aw.field rfl rfl rfl d3)).2,(g4 (aw.field rfl rfl rfl d4)).2⟩⟩
theorem W5(h:DataW.trod enc Tryz.prog w 0 (fun _=>true) true n T.FR [v]=some y):∃l,o.pw w v l∧(Small Tryz.prog T.FR y.1→o.dW l.length 80∧∀x∈l,x.cM) :=
 s3 (e:=T.i) 5 80 (by kernel_rfl) (by kernel_rfl) (by kernel_rfl) (fun a cs n y ay aN aG=>by
  obtain⟨x,⟨ak,jD,gK,rfl,h1,U⟩,aX⟩:=W4 aG;exact⟨x,⟨ak,jD,gK,ay,h1,U⟩,aX⟩) h
theorem W6(h:DataW.trod enc Tryz.prog w 0 (fun _=>true) true n T.wL [v]=some y):∃l,o.sP w v l∧(Small Tryz.prog T.wL y.1→o.dW l.length 40∧∀x∈l,x.cM) :=
 s3 (e:=T.sT) 2 40 (by kernel_rfl) (by kernel_rfl) (by kernel_rfl) (fun a cs n y ay aN aG=>by
  obtain⟨aN,jQ,ds,he,aI⟩:=rD (t:=T.sT) rfl (by kernel_rfl) (by kernel_rfl) aG
  match cs,aN with
  | [bR,c1],_ =>
   obtain⟨_,_,dJ,ak,_⟩:=aI 0 _ rfl;obtain⟨_,_,bS,h1,d1⟩:=aI 1 _ rfl;cases dJ;cases bS;obtain⟨s,dJ,_,aw⟩:=DataW.trod_string (by kernel_rfl) ak;cases dJ;obtain⟨dY,h1,g1⟩:=Dk h1;exact⟨⟨s,dY⟩,⟨aw,c1,ay,h1⟩,fun aw=>by rw[he] at aw;exact⟨(g1 (aw.field rfl rfl rfl d1)).1⟩⟩) h
theorem Ex{r:Reach}{gw:Nat}{v:Value}{d:DataW H}{p:List MemPlace}(p1:Value.okWide Tryz.prog w r gw T.c v)(h:DataW.Trod enc Tryz.prog w 0 (fun _=>true) true T.c v d p)(aw:Small Tryz.prog T.c d) :
  ∃cs m,v = .agg cs.toArray∧o.eh w cs m∧m.cM:=by
 obtain⟨cs,n,rfl,aG⟩:=abw (t:=T.c) rfl p1 h;obtain⟨aN,jQ,ds,rfl,aI⟩:=rD (t:=T.c) rfl (by kernel_rfl) (by kernel_rfl) aG;obtain⟨cs⟩:=cs
 match cs,aN with
 | [bR,c1,c2,bN,bX],_ =>
  obtain⟨_,_,dJ,ak,d0⟩:=aI 0 _ rfl;obtain⟨_,_,bS,h1,d1⟩:=aI 1 _ rfl;obtain⟨_,_,aZ,U,d2⟩:=aI 2 _ rfl;obtain⟨_,_,bJ,ai,d3⟩:=aI 3 _ rfl;obtain⟨_,_,b5,aL,d4⟩:=aI 4 _ rfl;cases dJ;cases bS;cases aZ;cases bJ;cases b5;obtain⟨et,hd,gw⟩:=W9 ak;obtain⟨dY,fP,bz⟩:=Oy h1;obtain⟨eg,gI,ch⟩:=WY U;obtain⟨dK,hQ,cE⟩:=W5 ai;obtain⟨ed,kh,eu⟩:=W6 aL;have fN:=gw (aw.field rfl rfl rfl d0);have da:=bz (aw.field rfl rfl rfl d1);have cZ:=ch (aw.field rfl rfl rfl d2);have fr:=cE (aw.field rfl rfl rfl d3);have iO:=eu (aw.field rfl rfl rfl d4);exact⟨[bR,c1,c2,bN,bX],⟨et,dY,eg,dK,ed⟩,rfl,⟨⟨bR,c1,c2,bN,bX,rfl,hd,fP,gI,hQ,kh⟩⟩,⟨fN.1,da.1,cZ.1,fr.1,iO.1,fN.2,da.2,cZ.2,fr.2,iO.2⟩⟩
end Go.Proofs.R
end
section
namespace Go.Proofs.R
open Go Go.RowKit bn Go.ChangeShapes Go.WideShapes Go.Deep
theorem abv{H:Type}{enc:TypeId×Value→H}{w:World}{r:Reach}{gw:Nat}{v:Value}{d:DataW H}{p:List MemPlace}(p1:Value.okWide Tryz.prog w r gw T.t v)(h:DataW.Trod enc Tryz.prog w 0 (fun _=>true) true T.t v d p):∃l,oM w v l:=by
 obtain⟨n,aM⟩:=M6 (e:=T.b) (by kernel_rfl) p1 h;obtain⟨l,aN,_⟩:=ada aM;obtain⟨bf,cap,e,h1,U,ai,aL⟩:=aN.ex;refine⟨l,bf,cap,e,h1,U,ai,fun a bD i ad=>?_⟩;obtain⟨u,hu,aA⟩:=aL a bD i ad;obtain⟨tU,uP,e',da,cZ,fr,iO⟩:=aA.ex;exact⟨u,hu,tU,uP,e',da,cZ,fr,fun a bD i ad=>(iO a bD i ad).1⟩
theorem ahx{H:Type}{enc:TypeId×Value→H}{r:Reach}{gw:Nat}{d0 d1:DataW H}{hP fM:List MemPlace}(v0 v1:Value)(W:World)(a1:gf W)
  (fN:Value.okWide Tryz.prog W r gw T.c v0)(ak:DataW.Trod enc Tryz.prog W 0 (fun _=>true) true T.c v0 d0 hP)(gJ:Small Tryz.prog T.c d0)
  (da:Value.okWide Tryz.prog W r gw T.t v1)(h1:DataW.Trod enc Tryz.prog W 0 (fun _=>true) true T.t v1 d1 fM)(_s1:Small Tryz.prog T.t d1) :
  bw Tryz.prog F.Bq #[v0,v1] W fun v w'=>v = .bool true∧Ext W w':=by
 obtain⟨cs,m,rfl,hm,aX⟩:=Ex fN ak gJ;obtain⟨s,aw⟩:=abv da h1;exact aaq cs v1 m s W hm aX a1 aw
theorem ahw{H:Type}{enc:TypeId×Value→H}{r:Reach}{gw:Nat}{d0:DataW H}{hP:List MemPlace}(v0:Value)(W:World)(a1:gf W)
  (fN:Value.okWide Tryz.prog W r gw T.c v0)(ak:DataW.Trod enc Tryz.prog W 0 (fun _=>true) true T.c v0 d0 hP)(gJ:Small Tryz.prog T.c d0) :
  bw Tryz.prog F.Bp #[v0] W fun v w'=>v = .bool true∧Ext W w':=by
 obtain⟨cs,m,rfl,hm,aX⟩:=Ex fN ak gJ;exact aap cs m W hm aX a1
theorem ahy{H:Type}{enc:TypeId×Value→H}{r:Reach}{gw:Nat}{d0 d1 d2:DataW H}{hP fM gR:List MemPlace}(v0 v1 v2:Value)(W:World)(a1:gf W)
  (fN:Value.okWide Tryz.prog W r gw T.c v0)(ak:DataW.Trod enc Tryz.prog W 0 (fun _=>true) true T.c v0 d0 hP)(gJ:Small Tryz.prog T.c d0)
  (da:Value.okWide Tryz.prog W r gw T.b v1)(h1:DataW.Trod enc Tryz.prog W 0 (fun _=>true) true T.b v1 d1 fM)(_s1:Small Tryz.prog T.b d1)
  (cZ:Value.okWide Tryz.prog W r gw T.b v2)(U:DataW.Trod enc Tryz.prog W 0 (fun _=>true) true T.b v2 d2 gR)(_s2:Small Tryz.prog T.b d2) :
  bw Tryz.prog F.Br #[v0,v1,v2] W fun v w'=>v = .bool true∧Ext W w':=by
 obtain⟨cs,m,rfl,hm,aX⟩:=Ex fN ak gJ;obtain⟨s,aw⟩:=I1 da h1;obtain⟨t,aG⟩:=I1 cZ U;exact aar cs v1 v2 m s t W hm aX a1 aw aG
theorem ahv{H:Type}{enc:TypeId×Value→H}{r:Reach}{gw:Nat}{d0 d1 d2:DataW H}{hP fM gR:List MemPlace}(v0 v1 v2:Value)(W:World)(a1:gf W)
  (fN:Value.okWide Tryz.prog W r gw T.c v0)(ak:DataW.Trod enc Tryz.prog W 0 (fun _=>true) true T.c v0 d0 hP)(gJ:Small Tryz.prog T.c d0)
  (da:Value.okWide Tryz.prog W r gw T.b v1)(h1:DataW.Trod enc Tryz.prog W 0 (fun _=>true) true T.b v1 d1 fM)(_s1:Small Tryz.prog T.b d1)
  (cZ:Value.okWide Tryz.prog W r gw T.v v2)(U:DataW.Trod enc Tryz.prog W 0 (fun _=>true) true T.v v2 d2 gR)(_s2:Small Tryz.prog T.v d2) :
  bw Tryz.prog F.Bo #[v0,v1,v2] W fun v w'=>v = .bool true∧Ext W w':=by
 obtain⟨cs,m,rfl,hm,aX⟩:=Ex fN ak gJ;obtain⟨s,aw⟩:=I1 da h1;obtain⟨n,rfl,_,_,aM⟩:=open_int (k:=.u8) (by kernel_rfl) cZ U;have aM:0≤n∧n<256:=by simp[Lit.wf] at aM;have ak:IntKind.u8.min=0:=rfl;have h1:IntKind.u8.max=255:=rfl;omega
 obtain⟨q,rfl⟩:=Int.eq_ofNat_of_zero_le (show 0≤n by omega);exact aao cs v1 m s q W hm aX a1 aw (by omega)
end Go.Proofs.R
end
section
namespace bn
open Go Go.RowKit Go.ChangeShapes
theorem ag5{P:Program}{f:FuncId}{fn:Func}{s:ChangeSpec}{c:OpenClaim}(h1:(c.wf (OpenSpec.ofChange s)&&laidOutB P&&mapsRowed P)=true)
  (U:(fn.params.all (P.readableRec ·)&&namedTie P c.named s.vars)=true)(ai:((c.stops == [])&&(P.stops == [])&&(c.knobs == [])&&(P.stopKnobs == []))=true)
  (aL:(c.inPlace == P.inPlace f)=true)(bt:(c.unfollowed == P.unfollowed f)=true)(bM:(c.recurses == P.recurses f)=true)(b6:(c.named == P.varsNamed f)=true)
  (c9:((c.maps == (fn.params.toList++s.plain.varTypes P).any (P.mapsRec ·))&&(c.ifaces == (fn.params.toList++s.plain.varTypes P).any (P.ifacesRec ·))&&(c.mapsOut == P.mapsAmong fn.resultTypes.toList))=true)
  (hE:((c.loops == (fn.params.toList++s.plain.varTypes P).any (P.loopsFrom ·))&&(c.wideKeys == (fn.params.toList++s.plain.varTypes P++fn.resultTypes.toList).any (P.wideKeysFrom ·)))=true)
  (iK:(s.vars.all (P.varReadable ·)&&fn.resultTypes.all (fun t=>P.readableRec t&&decide (t<P.types.size))&&(c.ifacesOut == fn.resultTypes.toList.any (P.ifacesRec ·))&&(c.loopsOut == fn.resultTypes.toList.any (P.loopsFrom ·)))=true)
  (Dl:(c.plainKeys == P.plainKeys)=true)(oU:(c.shortTexts.isNone&&P.stopsHeard)=true)(zM:P.mayEnter=true)
  (Dm:((c.lifted == P.liftsFinal)&&(P.make == some c.make))=true)
  (kL:((c.kinds == (if c.domain.isEmpty then [] else fn.params.toList.map fun t=>match P.underlying t with | some (.int k)=>some k | _=>none))&&(c.pinned == c.pinnedBy))=true)
  (lp:((c.veiled == (fn.params.toList++s.plain.varTypes P++fn.resultTypes.toList).any (P.veiledRec ·))&&c.veiledFits P fn.params.toList (fn.params.toList++s.plain.varTypes P++fn.resultTypes.toList))=true) :
  joinedFacts P f fn s c=true:=by
 simp only[Bool.and_eq_true] at h1 U ai c9 hE iK oU Dm kL lp;unfold joinedFacts;simp only[Bool.and_eq_true];obtain⟨⟨dF,a2⟩,a3⟩:=h1;obtain⟨bz,ch⟩:=U;obtain⟨⟨⟨d1,d2⟩,d3⟩,d4⟩:=ai;obtain⟨⟨bS,aZ⟩,bJ⟩:=c9;obtain⟨f1,f2⟩:=hE;obtain⟨⟨⟨g1,g2⟩,g3⟩,g4⟩:=iK;obtain⟨i1,i2⟩:=oU;obtain⟨AE,AF⟩:=Dm;obtain⟨da,cZ⟩:=kL;obtain⟨dY,eg⟩:=lp;exact⟨⟨⟨⟨⟨⟨⟨⟨⟨⟨⟨⟨⟨⟨⟨⟨⟨⟨⟨⟨⟨⟨⟨⟨⟨⟨⟨⟨⟨⟨⟨dF,a2⟩,a3⟩,bz⟩,ch⟩,d1⟩,d2⟩,d3⟩,d4⟩,aL⟩,bt⟩,bM⟩,b6⟩,bS⟩,aZ⟩,bJ⟩,f1⟩,f2⟩,g1⟩,g2⟩,g3⟩,g4⟩,Dl⟩,i1⟩,i2⟩,zM⟩,AE⟩,AF⟩,da⟩,cZ⟩,dY⟩,eg⟩
end bn
end