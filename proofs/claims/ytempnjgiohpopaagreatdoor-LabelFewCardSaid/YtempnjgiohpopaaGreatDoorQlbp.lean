/- Texts joined: LabQ LiteV ReaA LabD UseP UseA SrtL UseB UseC LabE LabH LabF LabG ModL LibB ProcL LabI. -/
import Derived.Test.YtempnjgiohpopaaGreatDoorQlbd
import Derived.Test.YtempnjgiohpopaaGreatDoorQlbe
import Derived.Test.YtempnjgiohpopaaGreatDoorQlbg
import Derived.Test.YtempnjgiohpopaaGreatDoorQlbh
import Derived.Test.YtempnjgiohpopaaGreatDoorQlbi
import Derived.Test.YtempnjgiohpopaaGreatDoorQlbk
import Derived.Test.YtempnjgiohpopaaGreatDoorQlbl
import Derived.Test.YtempnjgiohpopaaGreatDoorQlbm
import Derived.Test.YtempnjgiohpopaaGreatDoorQlbn
import Derived.Test.YtempnjgiohpopaaGreatDoorQlbo
import Derived.Lib.SlKeysI
import Derived.Maps.OwnSet
import Derived.Shelf.SlGeneric
import Derived.Shelf.SlSortCmp.WholeK
import Derived.Shelf.SlSortCmp.NoneTotal
import Derived.Test.YtempnjgiohpopaaGreatDoorChecked
set_option linter.all false
set_option maxRecDepth 8000
set_option maxHeartbeats 16000000
section
namespace o
open Go
def FH(s:Scope)(x:Node):Prop:=x.op=3→∃v,s.vars[x.n.toNat]? = some v∧v.over≠0
theorem aaz{s:Scope}{x:Node}{top:Int}(h:(hN x s top).2=0):FH s x:=by
 intro bJ;unfold hN at h;rw[if_neg (by omega),if_pos (by omega)] at h;simp only at h;by_cases aJ:(fh (if x.op=4 then s.locals else s.vars) x.n s).2.2=false
 ·rw[if_pos aJ] at h;cases h
 rw[if_neg aJ] at h;obtain⟨v,da,cZ,fr,iO,Ix,xK⟩:=QI (by simpa using aJ);obtain⟨cu,cA,cw⟩:=QA xK;rw[iO] at h;simp only at h;by_cases ai:(x.op=3∧((fZ v.over s).1=0∨top≠(fZ v.over s).1))∨(x.op≠3∧(fZ v.over s).1≠0)
 ·rw[if_pos ai] at h;cases h
 ·refine⟨v,?_,fun ak=>ai (.inl ⟨bJ,.inl ?_⟩)⟩
  ·rw[if_neg (by omega)] at cZ;exact cZ
  ·rw[cw,if_pos ak]
theorem Z7{e:List Node}{s:Scope}(h:(kind e s).2=0):∀k (hk:k<e.length),FH s e[k]:=by
 unfold kind jV at h;by_cases h1:e.length > 24
 ·rw[if_pos h1] at h;cases h
 rw[if_neg h1] at h;by_cases U:e.length=0
 ·exact fun k hk=>by omega
 rw[if_neg U] at h;by_cases ai:(eJ (eN s) e []).1≠0
 ·rw[if_pos ai] at h;exact absurd h ai
 have ai:(eJ (eN s) e []).1=0:=by simpa using ai
 intro k hk;have o2:∀j,(eJ (eN s) (e.take j) []).1=0:=fun j=>Classical.byContradiction fun aM=>by
  have:=Jn (f:=eN s) (e:=e) (k:=j) rfl aM
  rw[this] at ai;exact aM ai
 have mN:eJ (eN s) (e.take k) []=(0,(eJ (eN s) (e.take k) []).2):=Prod.ext (o2 k) rfl;have aL:=tY hk mN;have bt:=o2 (k+1);rw[aL] at bt;unfold stepG at bt;by_cases dS:eI e[k].op<0
 ·rw[if_pos dS] at bt;cases bt
 rw[if_neg dS] at bt;by_cases dP:((eJ (eN s) (e.take k) []).2.length:Int)<eI e[k].op
 ·rw[if_pos dP] at bt;cases bt
 rw[if_neg dP] at bt;by_cases dD:(eN s e[k] (eJ (eN s) (e.take k) []).2).2≠0
 ·rw[if_pos dD] at bt;exact absurd bt dD
 have dD:(eN s e[k] (eJ (eN s) (e.take k) []).2).2=0:=by simpa using dD
 by_cases a1:tI e[k].op=false
 ·unfold eN at dD;rw[I0 a1] at dD;exact aaz dD
 ·intro bJ;simp only[tI,decide_eq_false_iff_not] at a1;omega
theorem ab5{m:Model}(h:(check m).cY=0){j:Nat}(aP:j<m.props.length):(kind m.props[j].expr (ik m)).2=0:=by
 obtain⟨_,_,ai⟩:=CY h;have c9:=BB ai j aP;rw[zE aP] at c9;refine Classical.byContradiction fun aM=>?_
 repeat' split at c9
 all_goals first | omega | (exact absurd c9 aM) | skip
 all_goals contradiction
theorem P5{m:Model}{q:Nat}(h:q<(insts m).length):e3 m q+1≤eA m:=by
 obtain⟨p,bg⟩:=Qa h
 have:=bg.room
 omega
theorem yu{m:Model}{v:Nat}(h:v<m.vars.length):fF m v+l8 m v≤eA m:=by
 have:=E5 h
 rw[xQ h]
 have:=qu m
 omega
theorem No{m:Model}{c:Nat}(h:c<m.aK.length):gx m c+(1+CS m c)≤eA m:=by
 have:=zb h
 rw[UI h]
 have:=qu m
 omega
structure rq(m:Model)(x:Node):Prop where
 node:Cy (ik m) x
 over:FH (ik m) x
theorem rq.var{m:Model}(bP:gF m){x:Node}(h:rq m x)(e:x.op=2):∃aM:x.n.toNat<m.vars.length,0≤x.n∧l8 m x.n.toNat=1:=by
 obtain⟨ak,v,aS,kV⟩:=h.node.var e;have ju:m.vars[x.n.toNat]? = some v:=aS;obtain⟨h1,U⟩:=List.getElem?_eq_some_iff.1 ju;refine⟨h1,ak,?_⟩;rw[xQ h1,U];unfold cells;rw[if_pos kV];rfl
theorem rq.item{m:Model}(bP:gF m){x:Node}(h:rq m x)(e:x.op=3):∃aM:x.n.toNat<m.vars.length,0≤x.n∧∃a1:((m.vars[x.n.toNat]).over - 1).toNat<m.scalars.length,1≤(m.vars[x.n.toNat]).over∧(m.scalars[((m.vars[x.n.toNat]).over - 1).toNat]).size=(l8 m x.n.toNat:Nat)∧l8 m x.n.toNat≤4:=by
 obtain⟨ak,_⟩:=h.node.item e;obtain⟨v,aS,kV⟩:=h.over e;have ju:m.vars[x.n.toNat]? = some v:=aS;obtain⟨h1,U⟩:=List.getElem?_eq_some_iff.1 ju;have c4:=bP.var _ (List.getElem_mem h1);have aw:size (m.vars[x.n.toNat]).over m.scalars≠0:=by
  rcases c4.e4 with q | q
  ·rw[U] at q;exact absurd q kV
  ·exact q
 have ay:cells (m.vars[x.n.toNat]) m.scalars=size (m.vars[x.n.toNat]).over m.scalars:=by
  unfold cells;rw[if_neg (by rw[U];exact kV)]
 refine⟨h1,ak,?_⟩;rw[xQ h1,ay];unfold size at aw ⊢;cases hk:m.scalars[((m.vars[x.n.toNat]).over - 1).toNat]? with
 | none=>rw[hk] at aw;exact absurd rfl aw
 | some y =>
  rw[hk] at aw;simp only at aw ⊢;obtain⟨g1,g2⟩:=List.getElem?_eq_some_iff.1 hk;by_cases q:1≤(m.vars[x.n.toNat]).over∧1≤y.size∧y.size≤4
  ·rw[if_pos q];refine⟨g1,q.1,?_,?_⟩
   ·rw[g2];omega
   ·omega
  ·rw[if_neg q] at aw;exact absurd rfl aw
theorem I9{m:Model}(h:(check m).cY=0){j:Nat}(aP:j<m.props.length){x:Node}(aD:x∈m.props[j].expr):rq m x:=by
 obtain⟨k,hk,rfl⟩:=List.mem_iff_getElem.1 aD;exact⟨((Ey h aP).node k hk).1,Z7 (ab5 h aP) k hk⟩
theorem rq.lt{m:Model}(bP:gF m){x:Node}(h:rq m x):∀z∈e0 m 0 false x,0≤z∧z<eA m:=by
 intro z bK;unfold e0 at bK;by_cases U:x.op=2
 ·rw[if_pos U] at bK;obtain⟨aM,_,aN⟩:=h.var bP U
  have:=yu aM
  have:=yf.1 bK
  omega
 rw[if_neg U] at bK;by_cases ai:x.op=3
 ·rw[if_pos ai] at bK;obtain⟨aM,_⟩:=h.item bP ai
  have:=yu aM
  unfold xI at bK;rw[if_neg (by simp)] at bK
  have:=yf.1 bK
  omega
 rw[if_neg ai] at bK;by_cases aL:x.op=4
 ·obtain⟨_,bt⟩:=h.node.loc aL
  have:(ik m).locals=[]:=rfl
  rw[this] at bt;cases bt
 rw[if_neg aL] at bK;by_cases bM:x.op=6
 ·rw[if_pos bM] at bK;have ay:x.n.toNat<m.aK.length:=(h.node.len bM).2
  have:=No ay
  have:=yf.1 bK
  omega
 rw[if_neg bM] at bK;by_cases b6:x.op=7
 ·rw[if_pos b6] at bK;unfold lU at bK;obtain⟨j,aP,bK⟩:=List.mem_flatMap.1 bK;split at bK
  ·have:=P5 (m:=m) (List.mem_range.1 aP)
   have:=yf.1 bK
   omega
  ·cases bK
 ·rw[if_neg b6] at bK;cases bK
theorem adC{m:Model}(h:(check m).cY=0)(bP:gF m):∀z∈sr m,0≤z∧z<eA m:=by
 intro z bK;unfold sr pb at bK;obtain⟨p,bg,D9⟩:=List.mem_flatMap.1 bK;obtain⟨x,aD,qS⟩:=List.mem_flatMap.1 D9;obtain⟨j,aP,rfl⟩:=List.mem_iff_getElem.1 bg;exact(I9 h aP aD).lt bP z qS
end o
end
section
namespace bn
open Go Go.RowKit
structure Tu(es:Array MapEntry)(c:Nat)(L:List Int):Prop where
 vx:∃l:List (Int×Value),ji (Value.int .i64) es.toList l∧(l.map (·.1)).Nodup∧(∀x,x∈l.map (·.1)↔x∈L)∧l.length≤L.length∧∀p∈l,∃z,p.2 = .int .i64 z
 born:∀e∈es.toList,e.born<c
 nodup:(es.toList.map (·.born)).Nodup
structure afg(w:World)(b:Nat)(L:List Int):Prop where
 ok:∀x∈L,-9223372036854775808≤x∧x≤9223372036854775807
 ex:∃es c,w.heap[b]? = some (.map es c)∧Tu es c L
end bn
end
section
namespace o
open Go
theorem acf(L:List Int)(a n:Nat):L++gb a (n+1)=L++gb a n++[((a+n:Nat):Int)]:=by rw[RY,List.append_assoc]
end o
namespace Go.Proofs.R
open Go Go.RowKit bn
structure afl(w:World)(b:Nat)(m:o.Model)(q:Nat):Prop where
 ex:∃cs ys cB,w.heap[b]? = some (.cells (cs++ys++[cB,.int .i64 q]).toArray T.a3)∧o.eh w cs m∧o.h6 w ys (o.layout m)∧pt w cB (o.insts m)
end Go.Proofs.R
end
section
namespace bn
open Go Go.RowKit
def kE(aj:List Bool):List Value:=aj.map Value.bool
theorem ae2(n:Nat):oI (Value.bool false).cells (n*1)=(kE (List.replicate n false)).toArray:=by
 apply Array.ext_getElem?;intro i;by_cases h:i<n
 ·simp[oI,kE,Value.cells,h,Nat.mod_one]
 ·simp[oI,kE,h]
theorem K.Rc{cI:Value→World→Prop}{w:World}{e:TypeId}{n:Int}{t}(N:Nat)(aM:n=N)(aA:N≤1000000)(hk:∀ar b,w.heap.size≤b→Ext w ar→ar.heap[b]? = some (.cells (kE (List.replicate N false)).toArray e)→cI (.slice (some ⟨b,0,none⟩) N N) ar) :
  wv e 1 1 (.bool false) (.int .i64 n) (.int .i64 n) w cI t:=by
 subst aM;refine K.o7 ⟨by omega,by omega,by omega,by omega⟩ ?_;have h:=hk (w.alloc (.cells (kE (List.replicate N false)).toArray e)) _ (Nat.le_refl _) ((Ext.refl w).alloc _) (heap_alloc_new w _);rw[Int.toNat_natCast,ae2];exact h
theorem K.SA{b c:Nat}{aj:List Bool}{w:World}{e:TypeId}{gr:World→Prop}{t}(h:w.heap[b]? = some (.cells (kE aj).toArray e))(ay:c<aj.length)
  (hk:∀ar,dT b w ar→ar.heap[b]? = some (.cells (kE (aj.set c true)).toArray e)→gr ar):pz (.pointer (some (Addr.add ⟨b,0,none⟩ (c*1)))) (.bool true) w gr t:=by
 have aw:c<(kE aj).toArray.size:=by simp[kE];exact ay
 rw[Nat.mul_one];refine K.st (eZ h (Array.getElem?_eq_getElem aw)) (by rw[add_eq];simp[World.frozen?,h]) rfl (hk _ ?_ ?_)
 ·have:=dT.setCell w (Addr.add ⟨b,0,none⟩ c) (.bool true)
  rwa[FP] at this
 ·rw[EJ h aw];simp[kE,List.map_set]
end bn
namespace Go.Proofs.R
open Go Go.RowKit bn
structure kp(w:World)(b9 b N:Nat)(L:List Int):Prop where
 box:w.heap[b9]? = some (.cells #[.slice (some ⟨b,0,none⟩) N N] T.hA)
 row:∃aj,w.heap[b]? = some (.cells (kE aj).toArray T.s)∧o.lh N L aj
theorem kp.ne{w:World}{b9 b N:Nat}{L:List Int}(h:kp w b9 b N L):¬b9=b:=fun e=>by
 obtain⟨aj,h1,_⟩:=h.row;subst e;have U:=h.box;rw[h1] at U;injection U with U
 injection U with _ U
 revert U;decide
theorem kp.ext{w w':World}{b9 b N:Nat}{L:List Int}(h:kp w b9 b N L)(he:Ext w w'):kp w' b9 b N L:=by
 obtain⟨aj,h1,U⟩:=h.row;exact⟨he.obj h.box,aj,he.obj h1,U⟩
theorem kp.other{w:World}{b9 b N k:Nat}{L:List Int}{cs:Array Value}{t:TypeId}(h:kp w b9 b N L)(hk:w.heap[k]? = some (.cells cs t))(aG:t≠T.s):¬k=b:=fun e=>by
 obtain⟨aj,h1,_⟩:=h.row;subst e;rw[h1] at hk;injection hk with hk
 injection hk with _ hk
 exact aG hk.symm
theorem kp.congr{w:World}{b9 b N:Nat}{L nJ:List Int}(h:kp w b9 b N L)(e:∀x,x∈L↔x∈nJ):kp w b9 b N nJ:=by
 obtain⟨aj,h1,U⟩:=h.row;exact⟨h.box,aj,h1,U.congr e⟩
theorem EI(c b9 b N:Nat)(L:List Int)(x:Int)(w:World)(h:kp w b9 b N L)(aD:x=c)(ay:c<N)(fD:N≤1000000) :
  bw Tryz.prog F.a0 #[.int .i64 x,.pointer (some ⟨b9,0,none⟩)] w fun _ w'=>kp w' b9 b N (L++o.gb c 1)∧Mod (fun k=>k=b) w w':=by
 subst aD;have de:=h.ne;obtain⟨aj,h1,U⟩:=h.row;have Dv:=h.box;have aN:=U.len;refine bO E.a0 ?_;refine bH ?_;refine ao ?_;refine K.SA h1 (by omega) fun ar jv al=>?_;refine ao ?_;refine⟨⟨jv.obj Dv de,_,al,?_⟩,jv.mod rfl⟩;rw[o.yg];exact U.put ay
theorem VM(x:o.Node)(cs ys:List Value)(cB:Value)(b9 b:Nat)(L:List Int)(m:o.Model)(w0 w:World)(h:o.eh w0 cs m)(dM:o.h6 w0 ys (o.layout m))(ct:pt w0 cB (o.insts m))(he:Ext w0 w)(OK:w0.heap.size≤b)
  (cn:kp w b9 b (o.eA m) L)(bP:o.gF m)(aD:o.rq m x)(c4:x.ok) :
  bw Tryz.prog F.zn #[.agg cs.toArray,.agg ys.toArray,cB,.agg x.enc.toArray,.func (.func F.a0) #[] #[.pointer (some ⟨b9,0,none⟩)]] w fun _ w'=>kp w' b9 b (o.eA m) (L++o.e0 m 0 false x)∧Mod (fun k=>k=b) w w':=by
 have Il:=c4.op;have Ik:=c4.n;unfold o.df at Il Ik;obtain⟨hP,d0,fM,d1,gR,d2,iR,d3,jT,d4,rfl,ak,h1,U,ai,aL,et,dY,eg,dK,ed⟩:=h.form;obtain⟨cG,bR,cu,c1,cA,c2,cw,bN,cP,bX,rfl,hd,fP,gI,hQ,kh⟩:=dM.form;obtain⟨fw,ci,rfl,_⟩:=ct.form;obtain⟨f5,f6,f8⟩:=o.IE m;have mD:o.eA m≤64:=o.mO bP;refine bO E.zn ?_;refine bH ?_;refine ao ?_;intro ar jl nj aE cK;refine ao ?_;intro aW ia gi aF cW;replace cK:=aF.obj cK;refine ao ?_;intro bh CO xi av fp;replace cK:=av.obj cK;replace cW:=av.obj cW;have eG:=(aE.trans aF).trans av;have uk:=he.trans eG;have ti:=cn.ext eG;have n5:=ti.other cK (by decide);have n6:=ti.other cW (by decide);have n8:=ti.other fp (by decide);unfold o.Node.enc at fp;refine ao ?_;apply K.cond<;>intro g2
 ·obtain⟨aM,fN,aN⟩:=aD.var bP g2;obtain⟨a0,rfl⟩:=hd.addr (by omega);have acq:=hd.ext Flat.ext uk;obtain⟨fv,iy⟩:=o.yt aM;have ba:=o.yu aM;have pN:x.n=(x.n.toNat:Nat):=by omega
  rw[pN] at fp;have aZ:o.e0 m 0 false x=o.gb (o.fF m x.n.toNat) 1:=by unfold o.e0;rw[if_pos g2]
  rw[aZ];refine ao ?_;refine K.ln (first:=[]) (cap:=[.pointer (some ⟨b9,0,none⟩)]) (by kernel_rfl) (EI (o.fF m x.n.toNat) b9 b _ L _ bh ti (by rw[iy]) (by omega) (by omega)) ?_;rintro _ bj ⟨mM,mH⟩;refine ao ?_;exact⟨mM,eG.mod.trans mH⟩
 refine ao ?_;apply K.cond<;>intro g3
 ·obtain⟨aM,fN,Y5,DS,c5,agn⟩:=aD.item bP g3;obtain⟨a0,rfl⟩:=hd.addr (by omega);obtain⟨afn,rfl⟩:=ak.addr (by omega);obtain⟨TN,rfl⟩:=h1.addr (by omega);obtain⟨fv,iy⟩:=o.yt aM;have ba:=o.yu aM;have pN:x.n=(x.n.toNat:Nat):=by omega
  have bJ:o.e0 m 0 false x=o.gb (o.fF m x.n.toNat) (o.l8 m x.n.toNat):=by
   unfold o.e0 o.xI;rw[if_neg g2,if_pos g3,if_neg (by simp)]
  rw[pN] at fp;rw[bJ];refine ao ?_;refine K.du _ (by omega) Y5 ?_;refine ao ?_;intro bj aH;have ej:=uk.trans aH;have zS:=ti.ext aH;have Hc:=aH.obj cW;have Hd:=aH.obj fp;clear cW fp cK;refine ao ?_;refine K.cV 40 (o.l8 m x.n.toNat) [4,6,8,39] (fun _:Unit=>[]) () (fun k _ W=>kp W b9 b (o.eA m) (L++o.gb (o.fF m x.n.toNat) k)∧Mod (fun k=>k=b) bj W) bp bp ⟨by rw[o.ac8,List.append_nil];exact zS,Mod.refl _ _⟩ ?_;rintro k _ S bF hk ⟨lq,kU⟩;have cW:=kU.obj n6 Hc;have fp:=kU.obj n8 Hd;have acr:=hd.ext Flat.ext (kU.ext ej fun i ad e=>by omega);refine ao ?_;apply K.cond<;>intro g4
  ·refine ao ?_;refine K.ln (first:=[]) (cap:=[.pointer (some ⟨b9,0,none⟩)]) (by kernel_rfl) (EI (o.fF m x.n.toNat+k) b9 b _ _ _ bF lq (by rw[iy];omega) (by omega) (by omega)) ?_;rintro _ bV ⟨xy,ha⟩;refine ao ?_;refine⟨by omega,bq,(),trivial,?_,kU.trans ha⟩;rw[o.yg] at xy;rw[o.acf];exact xy
  ·have jM:k=o.l8 m x.n.toNat:=by omega
   rw[jM] at lq;refine ao ?_;exact⟨lq,(eG.mod.trans aH.mod).trans kU⟩
 refine ao ?_;apply K.cond<;>intro g6
 ·obtain⟨fN,ju⟩:=aD.node.len g6;have xB:x.n.toNat<m.aK.length:=ju;obtain⟨dF,rfl⟩:=fP.addr (by omega);have acs:=fP.ext Flat.ext uk;obtain⟨jK,jJ⟩:=o.w4 xB;have ba:=o.No xB;have pN:x.n=(x.n.toNat:Nat):=by omega
  rw[pN] at fp;have ez:o.e0 m 0 false x=o.gb (o.gx m x.n.toNat) 1:=by
   unfold o.e0;rw[if_neg g2,if_neg g3,if_neg (by omega),if_pos g6]
  rw[ez];refine ao ?_;refine K.ln (first:=[]) (cap:=[.pointer (some ⟨b9,0,none⟩)]) (by kernel_rfl) (EI (o.gx m x.n.toNat) b9 b _ L _ bh ti (by rw[jJ]) (by omega) (by omega)) ?_;rintro _ bj ⟨mM,mH⟩;refine ao ?_;exact⟨mM,eG.mod.trans mH⟩
 refine ao ?_;apply K.cond<;>intro g7;rotate_left
 ·have jI:o.e0 m 0 false x=[]:=by
   unfold o.e0;by_cases g4:x.op=4
   ·have:=(aD.node.loc g4).2
    have e:(o.ik m).locals=[]:=rfl;rw[e] at this;cases this
   rw[if_neg g2,if_neg g3,if_neg g4,if_neg g6,if_neg g7]
  rw[jI,List.append_nil];refine ao ?_;exact⟨ti,eG.mod⟩
 have eM:o.e0 m 0 false x=o.lU m (x.n.tdiv 16) (o.insts m).length:=by unfold o.e0;rw[if_neg g2,if_neg g3,if_neg (by omega),if_neg g6,if_pos g7]
 rw[eM];obtain⟨fN,HQ⟩:=aD.node.at_ g7;have Y9:(x.n.tdiv 16).toNat<m.procs.length:=HQ;have Zi:=Int.tdiv_nonneg fN (show(0:Int)≤16 by omega);have Za:=bP.procs;have Zh : -9223372036854775808≤x.n.tdiv 16∧x.n.tdiv 16≤9223372036854775807:=by omega
 have hp:=o.Ir bP;have tg:∀{W},Mod (fun k=>k=b) bh W→Ext w0 W:=fun hm=>hm.ext uk fun k hk e=>by omega
 have Hc:=cW;have Hd:=fp;clear cW fp cK;refine ao ?_;refine K.cV 68 (o.insts m).length [2,4,6,8,66,67] (fun _:Unit=>[]) () (fun k _ W=>Mod (fun i=>i=b) bh W∧kp W b9 b (o.eA m) (L++o.lU m (x.n.tdiv 16) k)) bp bp ⟨Mod.refl _ _,by simpa[o.lU] using ti⟩ ?_;rintro k _ S bj hk ⟨mH,zS⟩;have cW:=mH.obj n6 Hc;have fp:=mH.obj n8 Hd;have Xq:=ct.ext Flat.ext (tg mH);refine ao ?_;apply K.cond<;>intro g1
 ·have cp:k<(o.insts m).length:=by omega
  obtain⟨mq,rfl⟩:=ct.addr (by omega);obtain⟨Yv,Ah⟩:=o.xG cp;have agj:=o.P5 cp;obtain⟨a2,rfl⟩:=gI.addr (by omega);have Jf:=gI.ext Flat.ext (tg mH);refine ao ?_;intro wn CM pS hX hs;refine ao ?_;intro bF eU kx;have a8:Ext bj bF:=eU.ext hX pS;replace cW:=a8.obj cW;replace fp:=a8.obj fp;replace Jf:=Jf.ext Flat.ext a8;have lq:=zS.ext a8;have kU:=mH.trans a8.mod;clear zS Xq;refine ao ?_;refine K.quo (by omega) ?_;refine ao ?_;apply K.cond<;>intro g2
  ·refine ao ?_;refine K.ln (first:=[]) (cap:=[.pointer (some ⟨b9,0,none⟩)]) (by kernel_rfl) (EI (o.e3 m k) b9 b _ _ _ bF lq (by rw[Ah]) (by omega) (by omega)) ?_;rintro _ bV ⟨xy,ha⟩;refine ao ?_;refine⟨cp,bq,(),trivial,kU.trans ha,?_⟩;rw[o.CK cp,if_pos g2,←List.append_assoc];exact xy
  ·refine ao ?_;refine⟨cp,bq,(),trivial,kU,?_⟩;rw[o.CK cp,if_neg g2,List.append_nil];exact lq
 ·have jM:(o.insts m).length=k:=by omega
  rw[jM];refine ao ?_;exact⟨zS,eG.mod.trans mH⟩
end Go.Proofs.R
end
section
namespace o
open Go
def k2(x y:Node):Prop:=x.op<y.op∨(x.op=y.op∧x.n<y.n)
def x5(x y:Node):Int:=if x.op=y.op∧x.n=y.n then 0 else if x.op<y.op∨(x.op=y.op∧x.n<y.n) then -1 else 1
theorem Rj{x y:Node}(h1:x.op=y.op)(U:x.n=y.n):x=y:=by cases x;cases y;simp_all
theorem abb(x:Node):¬k2 x x:=by unfold k2;omega
theorem abc(x y z:Node)(h:k2 x y)(k:k2 y z):k2 x z:=by unfold k2 at *;omega
theorem Es(x y:Node):x5 x y<0↔k2 x y:=by
 unfold x5 k2;split
 ·omega
 ·split<;>omega
def qe (op:Int):Bool:=decide (op=2∨op=3∨op=4∨op=6∨op=7)
structure CH(e r:List Node):Prop where
 BD:r.Pairwise k2
 mem:∀x,x∈r↔x∈e∧qe x.op=true
def comp:List Node→List Node
 | []=>[]
 | [x]=>[x]
 | x :: y :: r=>if x.op=y.op∧x.n=y.n then comp (y :: r) else x :: comp (y :: r)
theorem Gp:∀(l:List Node) (x:Node),x∈comp l↔x∈l
 | [],x=>Iff.rfl
 | [y],x=>Iff.rfl
 | y :: z :: r,x=>by
  unfold comp;have eo:=Gp (z :: r) x;split
  ·rename_i h
   have:y=z:=Rj h.1 h.2
   subst this;rw[eo];simp
  ·rw[List.mem_cons,eo,List.mem_cons (b:=y)]
theorem NA:∀(l:List Node),l.Pairwise (fun x y => ¬k2 y x)→(comp l).Pairwise k2
 | [],_=>List.Pairwise.nil
 | [y],_=>by unfold comp;simp
 | y :: z :: r,h=>by
  unfold comp;rw[List.pairwise_cons] at h;have eo:=NA (z :: r) h.2;split
  ·exact eo
  ·rename_i de;rw[List.pairwise_cons];refine⟨fun x aD=>?_,eo⟩;rw[Gp] at aD;have agH:=h.1 z (List.mem_cons_self ..);have cb:k2 y z:=by unfold k2 at *;omega
   rcases List.mem_cons.1 aD with e | e
   ·rw[e];exact cb
   ·have U:=h.2;rw[List.pairwise_cons] at U
    have:=U.1 x e
    unfold k2 at *;omega
structure afa(l:List Int)(n:Int)(r:List Int):Prop where
 BD:r.Pairwise (· < ·)
 mem:∀x,x∈r↔x∈l∨x=n
 len:r.length≤l.length+1
structure afc(e:List Node)(op:Int)(l:List Int):Prop where
 BD:l.Pairwise (· < ·)
 mem:∀n,n∈l↔∃x∈e,x.op=op∧x.n=n
 len:l.length≤e.length
def opsL:List Int:=[2,3,4,6,7]
structure afk(e:List Node)(k:Nat)(r:List Node):Prop where
 BD:r.Pairwise k2
 mem:∀x,x∈r↔x∈e∧x.op∈opsL.take k
 len:r.length≤k*e.length
theorem Gq:∀(l:List Node) (x y:Node),comp (l++[x,y])=if x.op=y.op∧x.n=y.n then comp (l++[x]) else comp (l++[x])++[y]
 | [],x,y=>by
  by_cases h:x.op=y.op∧x.n=y.n
  ·have:x=y:=Rj h.1 h.2
   subst this;simp[comp]
  ·simp[comp,h]
 | [a],x,y=>by
  have eo:=Gq [] x y;simp only[List.nil_append,List.cons_append] at eo ⊢;unfold comp;rw[eo];by_cases h:a.op=x.op∧a.n=x.n
  ·simp only[if_pos h]
  ·simp only[if_neg h];by_cases U:x.op=y.op∧x.n=y.n
   ·simp[U,comp]
   ·simp[U,comp]
 | a :: b :: l,x,y=>by
  have eo:=Gq (b :: l) x y;simp only[List.cons_append] at eo ⊢;unfold comp;rw[eo];by_cases h:a.op=b.op∧a.n=b.n
  ·simp only[if_pos h]
  ·simp only[if_neg h];by_cases U:x.op=y.op∧x.n=y.n
   ·simp only[if_pos U]
   ·simp only[if_neg U,List.cons_append]
theorem Gr{l:List Node}{n:Nat}(h1:1≤n)(U:n<l.length):comp (l.take (n+1))=if l[n - 1].op=l[n].op∧l[n - 1].n=l[n].n then comp (l.take n) else comp (l.take n)++[l[n]]:=by
 obtain⟨k,rfl⟩:∃k,n=k+1:=⟨n - 1,by omega⟩;have bS:l.take (k+1)=l.take k++[l[k]]:=List.take_succ_eq_append_getElem (by omega);have aZ:l.take (k+1+1)=l.take k++[l[k],l[k+1]]:=by rw[List.take_succ_eq_append_getElem U,bS,List.append_assoc];rfl
 rw[aZ,Gq,bS];rfl
theorem Gn:∀l:List Node,(comp l).length≤l.length
 | []=>Nat.le_refl _
 | [x]=>Nat.le_refl _
 | x :: y :: r=>by
  have:=Gn (y :: r)
  unfold comp;split
  ·simp only[List.length_cons] at this ⊢;omega
  ·simp only[List.length_cons] at this ⊢;omega
theorem Nz{l:List Node}(h:l.length<2):comp l=l:=by
 match l,h with
 | [],_=>rfl
 | [x],_=>rfl
 | x :: y :: r,h=>simp at h;omega
theorem Vr{l:List Node}:comp (l.take 1)=l.take 1:=Nz (by rw[List.length_take];omega)
end o
namespace bn
open Go Go.RowKit
theorem Ju:∀(cs:List Value) (w:World) (b aj i:Nat) (cur:Array Value) (e:TypeId),w.heap[b]? = some (.cells cur e)→aj+i+cs.length≤cur.size →
  ∃qx,(jB w ⟨b,aj,none⟩ cs i).heap[b]? = some (.cells qx e)∧qx.size=cur.size∧(∀j,j<aj+i∨aj+i+cs.length≤j→qx[j]? = cur[j]?)∧∀j (h:j<cs.length),qx[aj+i+j]? = some cs[j]
 | [],w,b,aj,i,cur,e,aA,_=>⟨cur,aA,rfl,fun _ _=>rfl,fun j h=>absurd h (Nat.not_lt_zero _)⟩
 | c :: cs,w,b,aj,i,cur,e,aA,aN=>by
  have aP:aj+i<cur.size:=by simp at aN;omega
  have h1:=EJ aA aP c;have ic:Addr.add ⟨b,0,none⟩ (aj+i)=Addr.add ⟨b,aj,none⟩ i:=by rw[add_eq,add_eq,Nat.zero_add]
  rw[ic] at h1;obtain⟨qx,da,cZ,fr,iO⟩:=Ju cs _ b aj (i+1) _ e h1 (by simp at aN ⊢;omega);refine⟨qx,da,by simpa using cZ,fun j oh=>?_,fun j h=>?_⟩
  ·rw[fr j (by simp at oh ⊢;omega),Array.getElem?_set_ne _ (by simp at oh;omega)]
  ·cases j with
   | zero =>
    rw[Nat.add_zero,fr (aj+i) (by omega),Array.getElem?_set_self];rfl
   | succ j =>
    have:=iO j (by simpa using h)
    rw[show aj+i+(j+1)=aj+(i+1)+j from by omega,this];rfl
end bn
namespace Go.Proofs.R
open Go Go.RowKit bn
theorem zg{w:World}{b j:Nat}{c:Array Value}{t:TypeId}{v:Value}(h:w.heap[b]? = some (.cells c t))(aP:c[j]? = some v):w.cell? ⟨b,j,none⟩=some v:=by
 simp[World.cell?,h,aP]
structure fT(w:World)(b:Nat)(l:List o.Node):Prop where
 ex:∃cur,w.heap[b]? = some (.cells cur T.f)∧2*l.length≤cur.size∧∀i (h:i<l.length),cur[2*i]? = some (.int .i64 l[i].op)∧cur[2*i+1]? = some (.int .i64 l[i].n)
theorem fT.mod{w w':World}{b:Nat}{l:List o.Node}{A:Nat→Prop}(h:fT w b l)(hm:Mod A w w')(eT:¬A b):fT w' b l:=by
 obtain⟨cur,h1,U,ai⟩:=h.ex;exact⟨cur,hm.obj eT h1,U,ai⟩
theorem fT.ext{w w':World}{b:Nat}{l:List o.Node}(h:fT w b l)(he:Ext w w'):fT w' b l:=by
 obtain⟨cur,h1,U,ai⟩:=h.ex;exact⟨cur,he.obj h1,U,ai⟩
theorem fT.at_{w:World}{b:Nat}{l:List o.Node}(h:fT w b l){i:Nat}(ad:i<l.length):e2 w ⟨b,2*i,none⟩ l[i].enc:=by
 obtain⟨cur,h1,U,ai⟩:=h.ex;have e:(⟨b,2*i,none⟩:Addr)=Addr.add ⟨b,0,none⟩ (2*i):=by rw[add_eq,Nat.zero_add]
 intro j v aP;obtain⟨da,cZ⟩:=ai i ad;rw[e,add_eq,add_eq,Nat.zero_add]
 match j,aP with
 | 0,aP=>
  have:v = .int .i64 l[i].op:=by simpa[o.Node.enc] using aP.symm
  subst this;exact zg h1 da
 | 1,aP=>
  have:v = .int .i64 l[i].n:=by simpa[o.Node.enc] using aP.symm
  subst this;exact zg h1 cZ
 | n+2,aP=>simp[o.Node.enc] at aP
theorem fT.take{w:World}{b:Nat}{l:List o.Node}(h:fT w b l)(k:Nat):fT w b (l.take k):=by
 obtain⟨cur,h1,U,ai⟩:=h.ex;refine⟨cur,h1,by rw[List.length_take];omega,fun i ad=>?_⟩;rw[List.length_take] at ad
 have:=ai i (by omega)
 simpa using this
theorem fT.Sq{w:World}{b c:Nat}{l:List o.Node}(h:fT w b l)(ay:l.length≤c)(hm:c≤maxLen):bE 2 (Flat o.Node.enc) w (.slice (some ⟨b,0,none⟩) l.length c) l :=
 ⟨_,_,rfl,ay,hm,fun _=>rfl,fun a bD i ad=>by
  injection bD with bD;subst bD
  have:=h.at_ ad
  rw[show(⟨b,2*i,none⟩:Addr)=Addr.add ⟨b,0,none⟩ (i*2) from by rw[add_eq,Nat.zero_add,Nat.mul_comm]] at this;exact this⟩
theorem fT.set{w:World}{b i:Nat}{l:List o.Node}(h:fT w b l)(ad:i<l.length)(x:o.Node):fT (jB w ⟨b,2*i,none⟩ x.enc 0) b (l.set i x):=by
 obtain⟨cur,h1,U,ai⟩:=h.ex;obtain⟨qx,da,cZ,fr,iO⟩:=Ju x.enc w b (2*i) 0 cur _ h1 (by simp[o.Node.enc];omega);refine⟨qx,da,by rw[List.length_set,cZ];exact U,fun j aP=>?_⟩;rw[List.length_set] at aP;have a0:=iO 0 (by simp[o.Node.enc]);have dF:=iO 1 (by simp[o.Node.enc]);by_cases e:i=j
 ·subst e;rw[List.getElem_set_self];simp only[Nat.add_zero,o.Node.enc] at a0 dF;exact⟨a0,dF⟩
 ·rw[List.getElem_set_ne e,fr _ (by simp[o.Node.enc];omega),fr _ (by simp[o.Node.enc];omega)];exact ai j aP
theorem fT.cut{w:World}{b k:Nat}{l:List o.Node}{qh:List Value}(h:fT w b l)(bK:2*k+qh.length≤2*l.length):fT (jB w ⟨b,2*k,none⟩ qh 0) b (l.take k):=by
 obtain⟨cur,h1,U,ai⟩:=h.ex;obtain⟨qx,da,cZ,fr,_⟩:=Ju qh w b (2*k) 0 cur _ h1 (by omega);refine⟨qx,da,by rw[List.length_take,cZ];omega,fun j aP=>?_⟩;rw[List.length_take] at aP;rw[List.getElem_take,fr _ (by omega),fr _ (by omega)];exact ai j (by omega)
theorem ae1{P:Program}{ty:TypeId}{z:Value}(h:(P.info? ty).bind (·.zero)=some z)(w:World):(zeroValue ty).run P w = .ok z w:=by
 cases ad:P.info? ty with
 | none=>rw[ad] at h;cases h
 | some i =>
  rw[ad] at h;have U:i.zero=some z:=h;simp[zeroValue,q1 ad,U]
theorem aa6(x:o.Node):∀c∈x.enc.toArray.toList,c.oneCell'=true:=by simp[o.Node.enc,Value.oneCell']
theorem fT.free{w:World}{b:Nat}{l:List o.Node}(h:fT w b l){j:Nat}(aP:j<2*l.length):(∃jx,w.cell? ⟨b,j,none⟩=some jx)∧w.frozen? ⟨b,j,none⟩=false:=by
 obtain⟨cur,h1,U,_⟩:=h.ex;exact⟨⟨cur[j]'(by omega),zg h1 (Array.getElem?_eq_getElem (by omega))⟩,by simp[World.frozen?,h1]⟩
theorem K.ad1{w:World}{b i:Nat}{l:List o.Node}{x:o.Node}{a:Addr}{gr:World→Prop}{t}(h:fT w b l)(bD:a=⟨b,2*i,none⟩)(ad:i<l.length)(hk:∀ar,dT b w ar→fT ar b (l.set i x)→gr ar) :
  wD 2 (.pointer (some a)) (.agg x.enc.toArray) w gr t:=by
 subst bD;refine K.ph rfl (fun j aP=>?_) (aa6 x) (hk _ (dT.jB _ w ⟨b,2*i,none⟩ 0) (h.set ad x));rw[add_eq];exact h.free (by omega)
theorem K.Vl{S:Fr}{w:World}{b k n cap:Nat}{l:List o.Node}{x:Operand}{bf:Option Addr}{cI:Value→World→Prop}{ty:TypeId}{t}(h:fT w b l)(aD:a7 S x = .slice bf n cap)(aM:k+n=l.length)(bD:0<n→bf=some ⟨b,2*k,none⟩)
  (hk:∀v ar,Mod (fun i=>i=b) w ar→fT ar b (l.take k)→cI v ar):rp Tryz.prog (.call ⟨.builtin .clear,#[x],#[T.x]⟩) ty S w cI t:=by
 have bK:∀w:World,(zeroValue T.f).run Tryz.prog w = .ok (.agg #[.int .i64 0,.int .i64 0]) w:=ae1 (by kernel_rfl);have hu:Tryz.prog.underlying T.x=some (.slice T.f):=by kernel_rfl
 cases n with
 | zero =>
  refine K.raw (v:=.tuple #[]) (w':=w) ?_ (hk _ _ (Mod.refl _ _) (h.take k));cases bf<;>simp[execOp,resolve,invoke,builtin,aD,Builtin.clear_,run_underlying hu]
 | succ n =>
  obtain rfl:=bD (by omega);refine K.raw (v:=.tuple #[]) (w':=jB w ⟨b,2*k,none⟩ (Builtin.zeroCells #[.int .i64 0,.int .i64 0] (n+1)).toList 0) ?_ (hk _ _ ((dT.jB _ w ⟨b,2*k,none⟩ 0).mod rfl) (h.cut ?_))
  ·have aw:=Jo Tryz.prog ⟨b,2*k,none⟩ (Builtin.zeroCells #[.int .i64 0,.int .i64 0] (n+1)).toList 0 w (fun j aP=>?_) ?_
   ·simp[execOp,resolve,invoke,builtin,aD,Builtin.clear_,run_underlying hu,bK,Value.cells,aw]
   ·rw[add_eq];exact h.free (by simp[Builtin.zeroCells] at aP;omega)
   ·intro c ay;simp only[Builtin.zeroCells,Array.toList_map,List.mem_map] at ay;obtain⟨i,_,rfl⟩:=ay;show((#[Value.int .i64 0,.int .i64 0]:Array Value)[i % 2]!).oneCell'=true;rcases Nat.mod_two_eq_zero_or_one i with e | e<;>rw[e]<;>rfl
  ·simp[Builtin.zeroCells];omega
theorem C3(x y:Int):pM [.i,.i] [.int .i64 x,.int .i64 y]:=⟨⟨_,rfl⟩,⟨_,rfl⟩,trivial⟩
theorem N1{x y:o.Node}:x.enc=y.enc↔x.op=y.op∧x.n=y.n:=by simp[o.Node.enc]
theorem Vt(b c:Nat)(l:List o.Node)(w:World)(h:fT w b l)(ay:l.length≤c)(hm:c≤maxLen) :
  bw Tryz.prog F.u #[.slice (some ⟨b,0,none⟩) l.length c] w fun v w'=>v = .slice (some ⟨b,0,none⟩) (o.comp l).length c∧fT w' b (o.comp l)∧Mod (fun i=>i=b) w w':=by
 have fK:=o.Gn l;unfold maxLen at hm;refine bO E.u ?_;refine bH ?_;refine ao ?_;apply K.cond<;>intro g1
 ·have e:=o.Nz (l:=l) (by omega);refine ao ?_;exact⟨by rw[e],by rw[e];exact h,Mod.refl _ _⟩
 refine ao ?_;refine K.yz [0] (fun k:Nat=>[(3,.int .i64 k)]) 1 (fun k W=>1≤k∧k≤l.length∧o.comp (l.take k)=l.take k∧Ext w W) (fun k=>l.length - k) bp ⟨by omega,by omega,o.Vr,Ext.refl _⟩ ?_;rintro k S ar ⟨vi,cp,oi,aE⟩;have ot:=h.ext aE;have xf:=ot.Sq ay hm;refine ao ?_;apply K.cond<;>intro g2;rotate_left
 ·have jM:k=l.length:=by omega
  rw[jM,List.take_length] at oi;refine ao ?_;exact⟨by rw[oi],by rw[oi];exact ot,aE.mod⟩
 have kT:k<l.length:=by omega
 refine ao ?_;refine K.du (k - 1) (by omega) (by omega) ?_;refine ao ?_;refine K.V3 (sig:=[.i,.i]) (by kernel_rfl) (C3 _ _) (C3 _ _) fun r ba=>?_;rw[N1] at ba;refine ao ?_;intro aW aF;have lB:=ot.ext aF;have aZ:=aE.trans aF;cases r with
 | false =>
  have de:¬(l[k - 1].op=l[k].op∧l[k - 1].n=l[k].n):=fun e=>by have:=ba.2 ⟨e.1.symm,e.2.symm⟩;cases this
  have YH:o.comp (l.take (k+1))=l.take (k+1):=by rw[o.Gr vi kT,if_neg de,oi,List.take_succ_eq_append_getElem kT]
  refine ao ?_;exact⟨k+1,⟨bq,trivial⟩,⟨by omega,by omega,YH,aZ⟩,by omega⟩
 | true =>
  obtain⟨dS,dP⟩:=ba.1 rfl;have HF:o.comp (l.take (k+1))=l.take k:=by rw[o.Gr vi kT,if_pos ⟨dS.symm,dP.symm⟩,oi]
  have jL:¬c=k:=by omega
  clear xf;refine ao ?_;refine K.gV k l.length c (by simp[e7,eS,ca]) (by simp[e7]) (by simp[e7]) ⟨by omega,ay,Nat.le_refl _⟩ (by simp) ?_;rw[if_neg jL,Option.map_some];refine ao ?_;refine K.yz [0,4] (fun x:Nat×Nat×List o.Node=>[(3,.int .i64 x.1),(5,.int .i64 x.2.1)]) (k,1,l) (fun x W=>1≤x.2.1∧k+x.2.1≤l.length∧1≤x.1∧x.1+1≤k+x.2.1∧x.2.2.length=l.length∧fT W b x.2.2∧Mod (fun i=>i=b) w W∧x.2.2.take x.1=o.comp (l.take (k+x.2.1))∧∀j,x.1≤j→x.2.2[j]? = l[j]?) (fun x=>l.length - (k+x.2.1)) bp ⟨Nat.le_refl _,by simp only;omega,vi,Nat.le_refl _,rfl,lB,aZ.mod,HF.symm,fun _ _=>rfl⟩ ?_;rintro⟨r9,cZ,R⟩ CE bh ⟨AE,AF,vw,Z3,Iw,AG,Eb,xJ,AH⟩;dsimp only at AE AF vw Z3 Iw AG Eb xJ AH ⊢;refine ao ?_;apply K.cond<;>intro g3
  ·have xt:k+cZ<l.length:=by omega
   have qp:∀i,(Addr.add ⟨b,0,none⟩ (k*2)).add (i*2)=⟨b,2*(k+i),none⟩:=fun i=>by
    rw[add_eq,add_eq];congr 1;omega
   have k4:R[k+cZ]'(by omega)=l[k+cZ]:=by
    have:=AH (k+cZ) (by omega)
    rw[List.getElem?_eq_getElem (by omega),List.getElem?_eq_getElem (by omega)] at this;injection this
   have k5:R[k+cZ - 1]'(by omega)=l[k+cZ - 1]:=by
    have:=AH (k+cZ - 1) (by omega)
    rw[List.getElem?_eq_getElem (by omega),List.getElem?_eq_getElem (by omega)] at this;injection this
   have d1:e2 bh ((Addr.add ⟨b,0,none⟩ (k*2)).add (cZ*2)) l[k+cZ].enc:=by
    rw[qp,←k4];exact AG.at_ _
   have d2:e2 bh ((Addr.add ⟨b,0,none⟩ (k*2)).add ((cZ - 1)*2)) l[k+cZ - 1].enc:=by
    rw[qp,←k5,show k+(cZ - 1)=k+cZ - 1 from by omega];exact AG.at_ _
   have tn:=o.Gr (l:=l) (n:=k+cZ) (by omega) xt;refine ao ?_;refine K.du (cZ - 1) (by omega) (by omega) ?_;refine ao ?_;refine K.aa9 (sig:=[.i,.i]) (by kernel_rfl) (C3 _ _) (C3 _ _) fun r ba=>?_;rw[ne_eq,N1] at ba;refine ao ?_;intro bj aH;have Qn:=AG.ext aH;have afD:=d1.ext aH;cases r with
   | false =>
    have heq:l[k+cZ - 1].op=l[k+cZ].op∧l[k+cZ - 1].n=l[k+cZ].n:=Classical.byContradiction fun e=>by have:=ba.2 (fun aZ=>e ⟨aZ.1.symm,aZ.2.symm⟩);cases this
    rw[if_pos heq] at tn;refine ao ?_;refine⟨(r9,cZ+1,R),⟨bq,bq,trivial⟩,⟨by simp only;omega,by simp only;omega,vw,by simp only;omega,Iw,Qn,Eb.trans aH.mod,?_,AH⟩,by simp only;omega⟩;simp only;rw[←Nat.add_assoc,tn,xJ]
   | true =>
    have de:¬(l[k+cZ - 1].op=l[k+cZ].op∧l[k+cZ - 1].n=l[k+cZ].n):=fun e=>(ba.1 rfl) ⟨e.1.symm,e.2.symm⟩;rw[if_neg de] at tn;refine ao ?_;refine K.ad1 (i:=r9) Qn (by rw[add_eq,Nat.zero_add,Nat.mul_comm]) (by omega) fun bF eU HM=>?_;refine ao ?_;refine⟨(r9+1,cZ+1,R.set r9 l[k+cZ]),⟨bq,bq,trivial⟩,⟨by simp only;omega,by simp only;omega,by simp only;omega,by simp only;omega,by rw[List.length_set];exact Iw,HM,(Eb.trans aH.mod).trans (eU.mod rfl),?_,fun j aP=>?_⟩,by simp only;omega⟩
    ·simp only;rw[←Nat.add_assoc,tn,←xJ,List.take_succ_eq_append_getElem (by rw[List.length_set];omega),List.getElem_set_self,List.take_set_of_le (Nat.le_refl _)]
    ·simp only at aP;rw[List.getElem?_set_ne (by omega)];exact AH j (by omega)
  ·have YI:k+cZ=l.length:=by omega
   rw[YI,List.take_length] at xJ;have HG:(o.comp l).length=r9:=by rw[←xJ,List.length_take];omega
   refine ao ?_;refine K.gV r9 l.length c (by simp[e7,eS,ca]) (by simp[e7]) (by simp[e7]) ⟨by omega,ay,Nat.le_refl _⟩ (by simp) ?_;rw[if_neg (show ¬c=r9 by omega),Option.map_some];refine ao ?_;refine K.Vl (k:=r9) AG (by simp only[eS,ca];rfl) (by omega) (fun _=>by rw[add_eq,Nat.zero_add,Nat.mul_comm]) fun v bj mH mI=>?_;rw[xJ] at mI;refine ao ?_;refine K.gV 0 r9 c (by simp[e7]) (by simp[e7,eS,ca]) (by simp[e7]) ⟨by omega,by omega,Nat.le_refl _⟩ (by simp) ?_;rw[if_neg (show ¬c=0 by omega),Option.map_some];refine ao ?_;exact⟨by rw[HG,add_eq];rfl,mI,Eb.trans mH⟩
end Go.Proofs.R
end
section
namespace Go.Proofs
open Go.Shelf
def Tryz.adQ:Go.Shelf.Ren:=⟨fun | 6=>150 | 15=>205 | 14=>204 | 28=>278 | 29=>279 | 20=>270 | 21=>271 | 22=>272 | 23=>273 | 24=>274 | 25=>275 | 26=>276 | 27=>277 | 46=>312 | 47=>313 | 48=>314 | 49=>315 | 50=>316 | 57=>337 | n=>n,fun | 22=>70 | 24=>101 | 25=>224 | 3=>3 | 39=>60 | 0=>0 | 53=>316 | 55=>54 | 4=>4 | 46=>310 | 45=>309 | 50=>214 | 5=>5 | 9=>9 | 66=>337 | 70=>341 | 76=>357 | 77=>140 | n=>n,fun | n=>n⟩
theorem Tryz.Sr:Go.Proofs.SlLaysF0.n6 Tryz.prog Tryz.adQ:={
 mixed:=by kernel_rfl
 f6:=⟨Tryz.f150.name,by decide,Tryz.func150.trans (congrArg some (by kernel_rfl))⟩
 f14:=⟨Tryz.f204.name,by decide,Tryz.func204.trans (congrArg some (by kernel_rfl))⟩
 f15:=Tryz.func205.trans (congrArg some (by kernel_rfl))
 f20:=⟨Tryz.f270.name,by decide,Tryz.func270.trans (congrArg some (by kernel_rfl))⟩
 f21:=⟨Tryz.f271.name,by decide,Tryz.func271.trans (congrArg some (by kernel_rfl))⟩
 f22:=⟨Tryz.f272.name,by decide,Tryz.func272.trans (congrArg some (by kernel_rfl))⟩
 f23:=⟨Tryz.f273.name,by decide,Tryz.func273.trans (congrArg some (by kernel_rfl))⟩
 f24:=⟨Tryz.f274.name,by decide,Tryz.func274.trans (congrArg some (by kernel_rfl))⟩
 f25:=⟨Tryz.f275.name,by decide,Tryz.func275.trans (congrArg some (by kernel_rfl))⟩
 f26:=⟨Tryz.f276.name,by decide,Tryz.func276.trans (congrArg some (by kernel_rfl))⟩
 f27:=⟨Tryz.f277.name,by decide,Tryz.func277.trans (congrArg some (by kernel_rfl))⟩
 f28:=Tryz.func278.trans (congrArg some (by kernel_rfl))
 f29:=Tryz.func279.trans (congrArg some (by kernel_rfl))
 f46:=⟨Tryz.f312.name,by decide,Tryz.func312.trans (congrArg some (by kernel_rfl))⟩
 f47:=Tryz.func313.trans (congrArg some (by kernel_rfl))
 f48:=Tryz.func314.trans (congrArg some (by kernel_rfl))
 f49:=⟨Tryz.f315.name,by decide,Tryz.func315.trans (congrArg some (by kernel_rfl))⟩
 f50:=⟨Tryz.f316.name,by decide,Tryz.func316.trans (congrArg some (by kernel_rfl))⟩
 f57:=⟨Tryz.f337.name,by decide,Tryz.func337.trans (congrArg some (by kernel_rfl))⟩
 t0:=Tryz.underlying0
 a0:=Tryz.isAgg0
 z0:=Tryz.sizeOf0
 v0:=Tryz.zeroValue0
 t3:=Tryz.underlying3
 a3:=Tryz.isAgg3
 z3:=Tryz.sizeOf3
 v3:=Tryz.zeroValue3
 t4:=Tryz.underlying4
 a4:=Tryz.isAgg4
 z4:=Tryz.sizeOf4
 v4:=Tryz.zeroValue4
 t5:=Tryz.underlying5
 a5:=Tryz.isAgg5
 z5:=Tryz.sizeOf5
 v5:=Tryz.zeroValue5
 t9:=Tryz.underlying9
 a9:=Tryz.isAgg9
 z9:=Tryz.sizeOf9
 v9:=Tryz.zeroValue9
 t22:=Tryz.underlying70
 a22:=Tryz.isAgg70
 z22:=Tryz.sizeOf70
 v22:=Tryz.zeroValue70
 t25:=Tryz.underlying224
 a25:=Tryz.isAgg224
 z25:=Tryz.sizeOf224
 v25:=Tryz.zeroValue224
 t39:=Tryz.underlying60
 a39:=Tryz.isAgg60
 z39:=Tryz.sizeOf60
 v39:=Tryz.zeroValue60
 t45:=Tryz.underlying309
 a45:=Tryz.isAgg309
 z45:=Tryz.sizeOf309
 v45:=Tryz.zeroValue309
 t46:=Tryz.underlying310
 a46:=Tryz.isAgg310
 z46:=Tryz.sizeOf310
 v46:=Tryz.zeroValue310
 t50:=Tryz.underlying214
 a50:=Tryz.isAgg214
 z50:=Tryz.sizeOf214
 v50:=Tryz.zeroValue214
 t53:=Tryz.underlying316
 a53:=Tryz.isAgg316
 z53:=Tryz.sizeOf316
 v53:=Tryz.zeroValue316
 t55:=Tryz.underlying54
 a55:=Tryz.isAgg54
 z55:=Tryz.sizeOf54
 v55:=Tryz.zeroValue54
 t66:=Tryz.underlying337
 a66:=Tryz.isAgg337
 z66:=Tryz.sizeOf337
 v66:=Tryz.zeroValue337
 t70:=Tryz.underlying341
 a70:=Tryz.isAgg341
 z70:=Tryz.sizeOf341
 v70:=Tryz.zeroValue341
 t76:=Tryz.underlying357
 a76:=Tryz.isAgg357
 z76:=Tryz.sizeOf357
 v76:=Tryz.zeroValue357
 t77:=Tryz.underlying140
 a77:=Tryz.isAgg140
 z77:=Tryz.sizeOf140
 v77:=Tryz.zeroValue140 }
end Go.Proofs
end
section
namespace Go.Proofs.R
open Go Go.RowKit Go.Sort Go.Shelf Go.Lib
theorem aey(x y:o.Node)(W:World):Calls Tryz.prog 151 #[.agg #[.int .i64 x.op,.int .i64 x.n],.agg #[.int .i64 y.op,.int .i64 y.n]] W fun e w'=>e = .returned (.int .i64 (o.x5 x y))∧∃q abG,w'=grow (W.drewN q) abG:=by
 go_enter Tryz.func151,Tryz.ntmps151
 go_wp2
 all_goals go_ret
 all_goals refine⟨?_,0,_,by rw[alloc_eq_grow,alloc_eq_grow,grow_grow];rfl⟩
 all_goals (congr 2;unfold o.x5;repeat' split)
 all_goals first | omega | rfl
theorem abf:SWO (ltOf o.x5) where
 irrefl x:=by
  have:=o.abb x
  rw[←o.Es] at this;simpa[ltOf] using this
 trans x y z h1 U:=by
  simp only[ltOf,decide_eq_true_eq] at h1 U ⊢;rw[o.Es] at *;exact o.abc x y z h1 U
 ntrans x y z h1 U:=by
  simp only[ltOf,decide_eq_false_iff_not] at h1 U ⊢;rw[o.Es] at *;unfold o.k2 at *;omega
instance:Inhabited o.Node:=⟨⟨0,0⟩⟩
theorem acd{w:World}{b:Nat}{cur:Array Value}{e:TypeId}{d:Array Value}(h:w.heap[b]? = some (.cells cur e)):(putRow id w b 0 d).heap[b]? = some (.cells (putCells id 0 d cur) e):=by
 unfold putRow mapBlock;simp only[Array.getElem?_modify,if_true,h,Option.map_some,onCells]
theorem ace{w:World}{b k:Nat}{d:Array Value}(h:k≠b):(putRow id w b 0 d).heap[k]? = w.heap[k]? := by
 unfold putRow mapBlock;simp only[Array.getElem?_modify];rw[if_neg (fun e=>h e.symm)]
theorem RC{w:World}{b:Nat}{d:Array Value}:(putRow id w b 0 d).heap.size=w.heap.size:=by
 unfold putRow mapBlock;simp
theorem Oq{d:Array o.Node}{i:Nat}(h:i<d.size):(flatK o.Node.enc 2 d)[2*i]! = .int .i64 d[i].op∧(flatK o.Node.enc 2 d)[2*i+1]! = .int .i64 d[i].n:=by
 constructor
 ·rw[get_flatK _ _ _ _ (by omega),show 2*i / 2=i from by omega,show 2*i % 2=0 from by omega,getElem!_pos _ i h];rfl
 ·rw[get_flatK _ _ _ _ (by omega),show(2*i+1) / 2=i from by omega,show(2*i+1) % 2=1 from by omega,getElem!_pos _ i h];rfl
theorem adR{w:World}{b n:Nat}{l:List o.Node}{d:Array o.Node}{os:Array Obj}(h:fT w b l)(bx:d.size=l.length):fT (sortWorldK o.Node.enc 2 w b 0 n d os) b d.toList∧bn.Mod (fun i=>i=b) w (sortWorldK o.Node.enc 2 w b 0 n d os):=by
 obtain⟨cur,h1,U,ai⟩:=h.ex;have cb:=bn.cL h1;have oc:(Sort.ahead w n).heap[b]? = some (.cells cur T.f):=h1;have aX:∀k,k<w.heap.size→(sortWorldK o.Node.enc 2 w b 0 n d os).heap[k]? = (putRow id (Sort.ahead w n) b 0 (flatK o.Node.enc 2 d)).heap[k]? := fun k hk=>by
  unfold sortWorldK grow putRowK;exact Array.getElem?_append_left (by rw[RC];exact hk)
 constructor
 ·refine⟨_,(aX b cb).trans (acd oc),by simp[putCells];omega,fun i ad=>?_⟩;have cr:i<d.size:=by simpa using ad
  obtain⟨f1,f2⟩:=Oq cr;simp only[putCells,Array.getElem?_mapIdx,size_flatK,Array.getElem_toList];constructor
  ·rw[Array.getElem?_eq_getElem (show 2*i<cur.size by omega),Option.map_some,if_pos (by omega),Nat.sub_zero,f1];rfl
  ·rw[Array.getElem?_eq_getElem (show 2*i+1<cur.size by omega),Option.map_some,if_pos (by omega),Nat.sub_zero,f2];rfl
 ·refine⟨rfl,rfl,rfl,?_,fun k hk aM=>(aX k hk).trans (ace aM)⟩;unfold sortWorldK grow putRowK;rw[Array.size_append,RC];exact Nat.le_add_right _ _
theorem adH{P:Program}{t:TypeId}{k:Nat}(h:(P.info? t).map (·.size)=some k)(w:World):(Go.sizeOf t).run P w = .ok k w:=by
 cases ad:P.info? t with
 | none=>rw[ad] at h;cases h
 | some i =>
  rw[ad] at h;have U:i.size=k:=by simpa using h
  simp[Go.sizeOf,bn.q1 ad,U]
theorem adP(b c:Nat)(l:List o.Node)(w:World)(h:fT w b l)(aN:l.length≤1000000) :
  bn.bw Tryz.prog F.zF #[.slice (some ⟨b,0,none⟩) l.length c,.func (.func F.ex) #[] #[]] w fun _ w' => ∃r:List o.Node,r.Perm l∧r.Pairwise (fun x y => ¬o.k2 y x)∧fT w' b r∧bn.Mod (fun i=>i=b) w w':=by
 obtain⟨cur,h1,U,ai⟩:=h.ex;have Hf:=AnyQ.slices_SortFunc Tryz.Sr 2 (fun w=>bn.tZ (t:=T.f) (b:=true) (by kernel_rfl) w) (fun w=>adH (t:=T.f) (by kernel_rfl) w) o.Node.enc (fun _=>rfl) (fun x v aS=>by simp[o.Node.enc] at aS;rcases aS with rfl | rfl<;>rfl) o.x5 abf F.ex #[] b 0 c l.toArray w
  (enters_of Tryz.func151 (by kernel_rfl) rfl) (fun _ _ _ _ x y=>aey x y _) ?_ (bn.cL h1) (by simp;omega)
 ·change Calls Tryz.prog F.zF _ _ _ at Hf;simp only[List.size_toArray] at Hf;refine Calls.mono Hf ?_;rintro e w' ⟨rfl,rz,n,os,bg,aw,rfl⟩;have c5:rz.size=l.length:=by simpa using bg.1
  obtain⟨da,cZ⟩:=adR (n:=n) (os:=os) h c5;refine⟨_,rfl,rz.toList,?_,?_,da,cZ⟩
  ·have:=bg.2.2
   rw[show rz.extract 0 l.length=rz from by rw[←c5];simp,show l.toArray.extract 0 l.length=l.toArray from by simp] at this;simpa using this
  ·rw[List.pairwise_iff_getElem];intro i j ad aP Ai;have cr:i<rz.size:=by simpa using ad
   have eH:j<rz.size:=by simpa using aP
   have:=aw i j (Nat.zero_le _) Ai (by omega)
   rw[getElem!_pos _ i cr,getElem!_pos _ j eH] at this;simp only[ltOf,decide_eq_false_iff_not] at this;rw[o.Es] at this;simpa using this
 ·unfold HoldsK Holds;intro j aP;rw[size_flatK] at aP;have oh:j<2*l.length:=by simp at aP;omega
  have ad:j / 2<l.length:=by omega
  obtain⟨f1,f2⟩:=Oq (d:=l.toArray) (i:=j / 2) (by simpa using ad);obtain⟨g1,g2⟩:=ai (j / 2) ad;have qJ:w.frozen? ⟨b,0+j,none⟩=false:=by simp[World.frozen?,h1]
  refine⟨?_,qJ⟩;rw[Nat.zero_add];rcases Nat.mod_two_eq_zero_or_one j with e | e
  ·have n3:2*(j / 2)=j:=by omega
   rw[n3] at f1 g1;rw[f1];exact zg h1 (by simpa using g1)
  ·have n3:2*(j / 2)+1=j:=by omega
   rw[n3] at f2 g2;rw[f2];exact zg h1 (by simpa using g2)
end Go.Proofs.R
end
section
namespace o
open Go
def ud(e:List Node):List Node:=e.filter fun x=>qe x.op
theorem adX{e:List Node}{k:Nat}(h:k<e.length):ud (e.take (k+1))=ud (e.take k)++if qe e[k].op then [e[k]] else []:=by
 unfold ud;rw[List.take_succ_eq_append_getElem h,List.filter_append];cases aw:qe e[k].op<;>simp[aw]
theorem Sw(e:List Node):(ud e).length≤e.length:=List.length_filter_le _ _
theorem SZ{e s:List Node}(bg:s.Perm (ud e))(aw:s.Pairwise fun x y => ¬k2 y x):CH e (comp s):=by
 refine⟨NA s aw,fun x=>?_⟩;rw[Gp,bg.mem_iff];unfold ud;rw[List.mem_filter]
end o
namespace Go.Proofs.R
open Go Go.RowKit bn
theorem abe(x:o.Node):∀u∈x.enc,u.oneCell'=true:=by simp[o.Node.enc,Value.oneCell']
theorem Oo:∀(l:List o.Node) (i:Nat) (h:i<l.length),(l.flatMap o.Node.enc)[2*i]? = some (.int .i64 l[i].op)∧(l.flatMap o.Node.enc)[2*i+1]? = some (.int .i64 l[i].n)
 | x :: l,0,_=>⟨rfl,rfl⟩
 | x :: l,i+1,h=>by
  have eo:=Oo l i (by simpa using h);rw[show 2*(i+1)=2*i+2 from by omega,show 2*i+2+1=(2*i+1)+2 from by omega];exact eo
theorem abh{w:World}{base:Nat}{v:Value}{l:List o.Node}(h:br o.Node.enc T.f 2 base w v l)(aN:l≠[]):∃b c,v = .slice (some ⟨b,0,none⟩) l.length c∧base≤b∧fT w b l∧l.length≤c∧c≤maxLen:=by
 rcases h.2 with ⟨_,ak⟩ | ⟨g,cap,cur,h1,U,ai,aL,bt,bM,b6⟩
 ·exact absurd (List.eq_nil_of_length_eq_zero ak) aN
 ·refine⟨g,cap,h1,U,⟨cur,ai,by omega,fun i ad=>?_⟩,aL,bt⟩;have get:∀j,j<2*l.length→cur[j]? = (l.flatMap o.Node.enc)[j]? := fun j aP=>by
   rw[←b6,List.getElem?_take_of_lt (by omega),Array.getElem?_toList]
  rw[get _ (by omega),get _ (by omega)];exact Oo l i ad
structure FM(w:World)(base:Nat)(v:Value)(l:List o.Node):Prop where
 ex:(l=[]∧∃p c,v = .slice p 0 c)∨∃b c,v = .slice (some ⟨b,0,none⟩) l.length c∧base≤b∧fT w b l∧l.length≤c∧c≤maxLen
theorem adO(p:Option Addr)(c:Nat)(w:World):bw Tryz.prog F.zF #[.slice p 0 c,.func (.func F.ex) #[] #[]] w fun _ w'=>Ext w w':=by
 have h:=AnyF.slices_SortFunc_none Tryz.Sr p c (.func (.func F.ex) #[] #[]) w;change Calls Tryz.prog F.zF _ _ _ at h;refine Calls.mono h ?_;rintro e w' ⟨rfl,rfl⟩;exact⟨_,rfl,Ext.refl _⟩
theorem Vs(p:Option Addr)(c:Nat)(w:World):bw Tryz.prog F.u #[.slice p 0 c] w fun v w'=>v = .slice p 0 c∧Ext w w':=by
 refine bO E.u ?_;refine bH ?_;refine ao ?_;exact⟨bq,Ext.refl _⟩
theorem aeA(v:Value)(e:List o.Node)(w:World)(h:o.gG w v e)(aN:e.length≤1000000) :
  bw Tryz.prog F.co #[v] w fun u w'=>(∃r,o.CH e r∧FM w' w.heap.size u r)∧Ext w w':=by
 obtain⟨bf,jG,rfl,_⟩:=h.form;refine bO E.co ?_;refine bH ?_;refine ao ?_;refine K.cV 8 e.length [2,6,7] (fun u:Value=>[(3,u)]) (.slice none 0 0) (fun k u W=>br o.Node.enc T.f 2 w.heap.size W u (o.ud (e.take k))∧Ext w W) bp bp ⟨br.nil _ _ _ _ _,Ext.refl _⟩ ?_;rintro k u S ar hk ⟨hu,aE⟩;refine ao ?_;apply K.cond<;>intro g1
 ·have cp:k<e.length:=by omega
  obtain⟨a,rfl⟩:=h.addr (by omega);have aD:=(h.at k cp).cells.ext aE;obtain⟨qZ,kt,rfl,_⟩:=hu.form;have kc:=o.Sw (e.take k);have mN:=o.adX cp;unfold o.Node.enc at aD;rw[List.length_take] at kc;refine eD ?_;simp -dsimp only[bQ];refine eD ?_;simp -dsimp only[bQ];refine eD ?_;intro aW jl nj aF cK;have Ib:=hu.ext aF;have aZ:=aE.trans aF;simp -dsimp only[bQ];refine eD ?_;refine K.hU [2,3,5,6,7,8] (fun t:Bool=>[(14,.bool t)]) (fun t W=>t=o.qe e[k].op∧W=aW) ?_ ?_
  ·have sp:∀b,(b=true↔(e[k].op=2∨e[k].op=3∨e[k].op=4∨e[k].op=6∨e[k].op=7))→b=o.qe e[k].op:=fun b aA=>by
    unfold o.qe;cases b with
    | true=>exact(decide_eq_true (aA.1 rfl)).symm
    | false=>exact(decide_eq_false fun q=>by have:=aA.2 q;cases this).symm
   refine ao ?_;apply K.cond<;>intro g2
   ·refine ao ?_;exact⟨_,⟨bq,trivial⟩,sp _ (by simp[g2]),bq⟩
   refine ao ?_;apply K.cond<;>intro g3
   ·refine ao ?_;exact⟨_,⟨bq,trivial⟩,sp _ (by simp[g3]),bq⟩
   refine ao ?_;apply K.cond<;>intro g4
   ·refine ao ?_;exact⟨_,⟨bq,trivial⟩,sp _ (by simp[g4]),bq⟩
   refine ao ?_;apply K.cond<;>intro g5
   ·refine ao ?_;exact⟨_,⟨bq,trivial⟩,sp _ (by simp[g5]),bq⟩
   refine ao ?_;exact⟨_,⟨bq,trivial⟩,sp _ (by simp[g2,g3,g4,g5]),bq⟩
  rintro t ko bh ⟨rfl,rfl⟩;refine ao ?_;cases tA:o.qe e[k].op with
  | true =>
   rw[tA,if_pos rfl] at mN;refine ao ?_;intro bj Nf ON aH qF;refine ao ?_;refine K.kq (y:=e[k]) (Ib.ext aH) qF rfl (fun _=>rfl) abe (by omega) (by unfold maxLen;omega) (by have:=aH.size;have:=aZ.size;omega) fun bf n c bF ee hG=>?_;have a8:=br.jo (Ib.ext aH) (aZ.trans aH) hG (Nat.le_refl _);refine ao ?_;refine⟨cp,bq,_,⟨rfl,trivial⟩,?_,a8⟩;rw[mN];exact ee
  | false =>
   rw[tA,if_neg (by simp),List.append_nil] at mN;refine ao ?_;refine⟨cp,bq,_,⟨bq,trivial⟩,?_,aZ⟩;rw[mN];exact Ib
 ·have jM:k=e.length:=by omega
  rw[jM,List.take_length] at hu;have kc:=o.Sw e;by_cases aM:o.ud e=[]
  ·rw[aM] at hu;obtain⟨qZ,kt,rfl,_⟩:=hu.form;have ZA:o.CH e (o.comp []):=o.SZ (s:=[]) (by rw[aM]) List.Pairwise.nil;refine ao ?_;refine K.call (adO qZ kt ar) ?_;rintro _ aW aF;refine ao ?_;refine K.call (Vs qZ kt aW) ?_;rintro _ bh ⟨rfl,av⟩;refine ao ?_;exact⟨⟨_,ZA,⟨.inl ⟨rfl,qZ,kt,rfl⟩⟩⟩,(aE.trans aF).trans av⟩
  ·obtain⟨b,c,rfl,aA,ba,ay,hm⟩:=abh hu aM;refine ao ?_;refine K.call (adP b c _ ar ba (by omega)) ?_;rintro _ aW ⟨s,bg,aw,lB,xt⟩;have Zt:=bg.length_eq;have fK:=o.Gn s;rw[←Zt];refine ao ?_;refine K.call (Vt b c s aW lB (by omega) hm) ?_;rintro _ bh ⟨rfl,Zl,rV⟩;refine ao ?_;exact⟨⟨_,o.SZ bg aw,⟨.inr ⟨b,c,rfl,aA,Zl,by omega,hm⟩⟩⟩,(xt.trans rV).ext aE fun i ad e=>by omega⟩
end Go.Proofs.R
end
section
namespace o
open Go
theorem aew{m:Model}{x:Node}(h:qe x.op=false):e0 m 0 false x=[]:=by
 unfold qe at h;have h:=of_decide_eq_false h;unfold e0;rw[if_neg (by omega),if_neg (by omega),if_neg (by omega),if_neg (by omega),if_neg (by omega)]
theorem aez{m:Model}{e r:List Node}(h:CH e r)(z:Int):z∈r.flatMap (e0 m 0 false)↔z∈pb m e:=by
 unfold pb;simp only[List.mem_flatMap];constructor
 ·rintro⟨x,aD,bK⟩;exact⟨x,((h.mem x).1 aD).1,bK⟩
 ·rintro⟨x,aD,bK⟩;cases aw:qe x.op with
  | false=>rw[aew aw] at bK;cases bK
  | true=>exact⟨x,(h.mem x).2 ⟨aD,aw⟩,bK⟩
def ua(m:Model)(k:Nat):List Int:=(m.props.take k).flatMap fun p=>pb m p.expr
theorem adz{m:Model}{k:Nat}(h:k<m.props.length):ua m (k+1)=ua m k++pb m m.props[k].expr:=by
 unfold ua;rw[List.take_succ_eq_append_getElem h,List.flatMap_append];simp
theorem ady(m:Model):ua m m.props.length=sr m:=by unfold ua sr;rw[List.take_length]
end o
namespace Go.Proofs.R
open Go Go.RowKit bn
theorem FM.form{w:World}{base:Nat}{v:Value}{r:List o.Node}(h:FM w base v r):∃bf c,v = .slice bf r.length c∧(0<r.length→∃b,bf=some ⟨b,0,none⟩∧base≤b∧fT w b r∧r.length≤c∧c≤maxLen):=by
 rcases h.ex with ⟨rfl,p,c,rfl⟩ | ⟨b,c,rfl,aA,ba,ay,hm⟩
 ·exact⟨p,c,rfl,fun h=>absurd h (Nat.lt_irrefl _)⟩
 ·exact⟨_,c,rfl,fun _=>⟨b,rfl,aA,ba,ay,hm⟩⟩
theorem ID{a b c d e:Option Addr}{l9 jR nz si n5 c1 c2 bN bX n0:Nat}{n:Int}:∀x∈(#[.slice a l9 c1,.slice b jR c2,.slice c nz bN,.int .i64 n,.slice d si bX,.slice e n5 n0]:Array Value).toList,x.oneCell'=true:=by simp[Value.oneCell']
theorem Jt(cs:List Value)(m:o.Model)(w:World)(h:o.eh w cs m)(aX:m.cM)(a1:gf w) :
  bw Tryz.prog F.lS #[.agg cs.toArray] w fun u w'=>(∃b n,((o.iB m=[]∧n=0∧u = .slice none 0 0)∨u = .slice (some ⟨b,0,none⟩) n n∧n=(o.iB m).length∧w.heap.size≤b∧w'.heap[b]? = some (.cells (kE (o.iB m)).toArray T.s)))∧Ext w w':=by
 have gg:=h;obtain⟨cG,bR,cu,c1,cA,c2,cw,bN,cP,bX,rfl,ak,h1,U,ai,aL,et,dY,eg,dK,ed⟩:=h.form;refine bO E.lS ?_;refine bH ?_;refine ao ?_;intro ar bz cN aE al;refine ao ?_;refine K.call (El _ m ar (gg.ext aE) aX (a1.ext aE)) ?_;rintro _ aW ⟨rfl,aF⟩;replace al:=aF.obj al;have aZ:=aE.trans aF;refine ao ?_;refine K.kI (v:=.int .i64 (o.check m).cY) rfl ?_;refine ao ?_;apply K.cond<;>intro g1;rotate_left
 ·have e:o.iB m=[]:=by unfold o.iB;rw[if_neg g1]
  refine ao ?_;exact⟨⟨0,0,.inl ⟨e,rfl,bq⟩⟩,aZ⟩
 have oV:=o.o6 g1;have Al:o.lay m=o.layout m:=by unfold o.lay;rw[if_pos g1]
 refine eD ?_;refine K.hU [1] (fun x:Nat×Value=>[(3,.pointer (some ⟨x.1,0,none⟩)),(4,x.2)]) (fun x W => ∃ys:List Value,W.heap[x.1]? = some (.cells ys.toArray T.g)∧o.h6 W ys (o.layout m)∧pt W x.2 (o.insts m)∧Ext aW W) ?_ ?_
 ·have PA:∀{W},Ext aW W→bw Tryz.prog F.s #[.agg #[.slice cG m.scalars.length bR,.slice cu m.vars.length c1,.slice cA m.aK.length c2,.slice cw m.procs.length bN,.slice cP m.props.length bX]] W fun v w'=>(∃hP d0 fM d1 gR d2 iR d3 jT d4,v = .agg #[.slice hP (o.layout m).vars.length d0,.slice fM (o.layout m).aK.length d1,.slice gR (o.layout m).insts.length d2,.int .i64 (o.layout m).cells,.slice iR (o.layout m).bk.length d3,.slice jT (o.layout m).ad.length d4]∧ea W (fun w=>o.h6 w [.slice hP (o.layout m).vars.length d0,.slice fM (o.layout m).aK.length d1,.slice gR (o.layout m).insts.length d2,.int .i64 (o.layout m).cells,.slice iR (o.layout m).bk.length d3,.slice jT (o.layout m).ad.length d4] (o.layout m)) w')∧Ext W w':=fun {W} he=>(QN _ m W (gg.ext (aZ.trans he)) aX (a1.ext (aZ.trans he))).mono fun v w' ⟨⟨xs,aS,aM⟩,gZ⟩=>by
   rw[Al] at aM;obtain⟨hP,d0,fM,d1,gR,d2,iR,d3,jT,d4,rfl,_⟩:=aM.here.form;exact⟨⟨hP,d0,fM,d1,gR,d2,iR,d3,jT,d4,aS,aM⟩,gZ⟩
  have HA:∀{W},Ext aW W→bw Tryz.prog F.g #[.agg #[.slice cG m.scalars.length bR,.slice cu m.vars.length c1,.slice cA m.aK.length c2,.slice cw m.procs.length bN,.slice cP m.props.length bX]] W fun v w'=>(∃fw ci,v = .slice fw (o.insts m).length ci∧br o.eL.enc T.m 2 W.heap.size w' v (o.insts m))∧Ext W w':=fun {W} he=>(Is _ m W (gg.ext (aZ.trans he)) aX).mono fun v w' ⟨aS,gZ⟩=>by
   obtain⟨fw,ci,rfl,_⟩:=aS.form;exact⟨⟨fw,ci,rfl,aS⟩,gZ⟩
  refine eD ?_;intro bh av;replace al:=av.obj al;refine ao ?_;refine⟨?_,?_⟩
  ·refine K.call (PA av) ?_;rintro _ bj ⟨⟨hP,d0,fM,d1,gR,d2,iR,d3,jT,d4,rfl,dM⟩,aH⟩;have b5:=av.trans aH;refine⟨aH,?_⟩;refine ao ?_;refine⟨?_,?_⟩
   ·refine K.call (HA b5) ?_;rintro _ bF ⟨⟨fw,ci,rfl,ct⟩,a8⟩;have cf:=b5.trans a8;refine ao ?_;intro bV cE gh bo bA;refine⟨(aH.trans a8).trans bo,?_⟩;refine K.jh bA rfl rfl ID fun cc ec er=>?_;have eM:=ec.ext bo gh;refine ao ?_;exact⟨(cE,_),⟨bq,bq,trivial⟩,_,er,dM.here.ext (a8.trans eM),(br.lI (enc:=o.eL.enc) (fun _=>rfl) ct).ext Flat.ext eM,cf.trans eM⟩
   ·refine K.new ?_;intro bF cE gh a8 bA;have cf:=b5.trans a8;have cb:=cL bA;refine⟨aH.trans a8,?_⟩;refine ao ?_;refine K.call (HA cf) ?_;rintro _ bV ⟨⟨fw,ci,rfl,ct⟩,bo⟩;refine ao ?_;refine K.jh (bo.obj bA) rfl rfl ID fun cc ec er=>?_;have eM:=ec.ext (a8.trans bo) gh;refine ao ?_;exact⟨(cE,_),⟨bq,bq,trivial⟩,_,er,dM.here.ext eM,br.lI (enc:=o.eL.enc) (fun _=>rfl) (br.wr ec cb ct),b5.trans eM⟩
  ·refine K.new ?_;intro bj cE gh aH bA;have b5:=av.trans aH;have cb:=cL bA;refine⟨aH,?_⟩;refine ao ?_;refine K.call (PA b5) ?_;rintro _ bF ⟨⟨hP,d0,fM,d1,gR,d2,iR,d3,jT,d4,rfl,dM⟩,a8⟩;have cf:=b5.trans a8;have z5:=a8.size;refine⟨aH.trans a8,?_⟩;refine ao ?_;refine K.call (HA cf) ?_;rintro _ bV ⟨⟨fw,ci,rfl,ct⟩,bo⟩;refine ao ?_;refine K.jh ((a8.trans bo).obj bA) rfl rfl ID fun cc ec er=>?_;have eM:=ec.ext ((aH.trans a8).trans bo) gh;refine ao ?_;exact⟨(cE,_),⟨bq,bq,trivial⟩,_,er,((dM.ext bo z5).wr ec cb).here,br.lI (enc:=o.eL.enc) (fun _=>rfl) (br.wr ec (by omega) ct),av.trans eM⟩
 rintro⟨cE,cB⟩ S bh ⟨ys,bA,dM,ct,av⟩;dsimp only at bA dM ct ⊢;replace al:=av.obj al;have bJ:=aZ.trans av;have rK:=dM;obtain⟨hP,d0,fM,d1,gR,d2,iR,d3,jT,d4,rfl,_⟩:=dM.form;have fK:(o.layout m).cells=(o.eA m:Nat):=rfl;have mD:o.eA m≤64:=o.mO oV;have pV:=o.BA g1;refine ao ?_;refine K.Rc (o.eA m) fK (by omega) fun bj b aA aH b0=>?_;refine ao ?_;intro wn b9 Dv hX hs;refine ao ?_;intro bF eU mE;have a8:Ext bj bF:=eU.ext hX Dv;clear hs;have jE:=aH.trans a8;have lq:kp bF b9 b (o.eA m) (o.ua m 0):=⟨mE,_,a8.obj b0,o.lh.start _⟩;have nj:=cL (a8.obj b0);have tg:∀{W},Mod (fun i=>i=b) bF W→Ext bh W:=fun hm=>hm.ext jE fun k hk e=>by omega
 have X0:=jE.obj al;have X1:=jE.obj bA;clear b0 mE;refine ao ?_;refine K.cV 24 m.props.length [1,3,4,5,22,23] (fun _:Unit=>[]) () (fun k _ W=>kp W b9 b (o.eA m) (o.ua m k)∧Mod (fun i=>i=b) bF W) bp bp ⟨lq,Mod.refl _ _⟩ ?_;rintro k _ ko bV hk ⟨tj,ha⟩;have kN:=tg ha;have ez:=bJ.trans kN;have XH:=tj.box;have j7:=kN.obj al;have XQ:=kN.obj bA;clear X0 X1;refine ao ?_;apply K.cond<;>intro g2;rotate_left
 ·have jM:k=m.props.length:=by omega
  rw[jM,o.ady] at tj;obtain⟨aj,a1,aw⟩:=tj.row;have H7:=aw.Si g1;subst H7;have aN:=aw.len;refine ao ?_;exact⟨⟨b,o.eA m,.inr ⟨rfl,aN.symm,by have:=bJ.size;omega,a1⟩⟩,ez⟩
 have cp:k<m.props.length:=by omega
 obtain⟨a4,rfl⟩:=aL.addr (by omega);obtain⟨lC,fH,dR,fi⟩:=aL.at k cp;obtain⟨x7,ce,rfl,_⟩:=fi.form;have fz:=o.Ey g1 cp;have hle:=fz.len;unfold o.h7.enc at dR;have HR:=dR.ext ez;refine ao ?_;intro cc wM kO bY er;have eM:=ez.trans bY;refine ao ?_;refine K.call (aeA _ m.props[k].expr cc (fi.ext eM) (by omega)) ?_;rintro _ dq ⟨⟨r,ba,Xk⟩,cj⟩;obtain⟨bf,c,rfl,r0⟩:=Xk.form;have rR:=bY.trans cj;have u6:=tj.ext rR;have hb:=ha.trans rR.mod;have xi:=bY.size;have gi:b<bV.heap.size:=by have:=ha.size;omega
 clear er HR XH j7 XQ;refine ao ?_;refine K.cV 32 r.length [1,3,4,5,22,23,24,30,31] (fun _:Unit=>[]) () (fun i _ W=>kp W b9 b (o.eA m) (o.ua m k++(r.take i).flatMap (o.e0 m 0 false))∧Mod (fun i=>i=b) dq W) bp bp ⟨by simpa using u6,Mod.refl _ _⟩ ?_;rintro i _ CE dE ad ⟨xg,hJ⟩;have PC:=hb.trans hJ;have Dn:=tg PC;have tc:=bJ.trans Dn;have OQ:=xg.box;have zY:=Dn.obj al;have OT:=Dn.obj bA;refine ao ?_;apply K.cond<;>intro g3;rotate_left
 ·have Yw:i=r.length:=by omega
  rw[Yw,List.take_length] at xg;refine ao ?_;refine⟨cp,bq,(),trivial,xg.congr fun z=>?_,PC⟩;rw[o.adz cp,List.mem_append,List.mem_append,o.aez ba]
 have og:i<r.length:=by omega
 obtain⟨uL,rfl,af5,Y0,DV,PL⟩:=r0 (by omega);have xf:=(Y0.mod hJ (by omega)).Sq DV PL;obtain⟨Ij,_⟩:=(ba.mem r[i]).1 (List.getElem_mem og);have agw:r.length≤9223372036854775807:=by unfold maxLen at PL;omega
 have c4:(r[i]).ok:=by
  have PI:=List.length_pos_of_mem Ij;obtain⟨lT,rfl⟩:=fi.addr PI;obtain⟨j,aP,n3⟩:=List.mem_iff_getElem.1 Ij;rw[←n3];exact(fi.at j aP).ok
 have DW:=o.I9 g1 cp Ij;refine ao ?_;intro fl iY kv cO eY;replace OQ:=cO.obj OQ;replace zY:=cO.obj zY;replace OT:=cO.obj OT;refine ao ?_;refine K.call (VM r[i] _ _ _ b9 b _ m bh fl (gg.ext bJ) rK ct (Dn.trans cO) aA (xg.ext cO) oV DW c4) ?_;rintro _ gd ⟨Xv,xr⟩;refine ao ?_;refine⟨og,bq,(),trivial,?_,(hJ.trans cO.mod).trans xr⟩;rw[List.take_succ_eq_append_getElem og,List.flatMap_append,←List.append_assoc];simpa using Xv
end Go.Proofs.R
end
section
namespace o
open Go
def xa:List Node:=[⟨2,0⟩,⟨1,1⟩,⟨14,0⟩]
def fV:Model:=⟨[],[⟨⟨#[120]⟩,0,0,0,3,0⟩],[],[⟨⟨#[80]⟩,0,1,[],[]⟩],[⟨⟨#[112]⟩,xa⟩]⟩
theorem Dg:(check fV).cY=0:=by decide +kernel
theorem GJ:(b4 fV).map (fun c=>(c.bk,c.ad))=[(0,3),(0,0)]:=by decide +kernel
theorem Oa:eA fV=2:=by decide +kernel
theorem We:∀x∈xa,x.ok:=by
 intro x aD;simp[xa] at aD;rcases aD with rfl | rfl | rfl<;>exact⟨r5 (by simp),r5 (by simp)⟩
theorem Wd:fV.cM:=by
 refine⟨by simp[fV,dW],by simp[fV,dW],by simp[fV,dW],by simp[fV,dW],by simp[fV,dW],?_,?_,?_,?_,?_⟩
 ·intro a bD;simp[fV] at bD
 ·intro a bD;simp[fV] at bD;subst bD;exact⟨r5 (by simp),r5 (by simp),r5 (by simp),r5 (by simp),r5 (by simp)⟩
 ·intro a bD;simp[fV] at bD
 ·intro a bD;simp[fV] at bD;subst bD;refine⟨r5 (by simp),r5 (by simp),by simp[dW],by simp[dW],?_,by simp⟩;intro b aA;simp at aA
 ·intro a bD;simp[fV] at bD;subst bD;exact⟨by simp[xa,dW]⟩
theorem N9{x:Int}(ak:0≤x)(ai:x≤3):Fits fV [x,0]:=by
 refine⟨by rw[Oa];rfl,fun j h=>absurd h (Nat.not_lt_zero _),fun j h bB=>?_⟩;have e:=congrArg (fun l=>l[j]?) GJ;simp only[List.getElem?_map,List.getElem?_eq_getElem bB,Option.map_some] at e
 match j,h,bB,e with
 | 0,_,_,e=>simp at e;simp[e.1,e.2];omega
 | 1,_,_,e=>simp at e;simp[e.1,e.2]
 | n+2,h,_,_=>simp at h;omega
theorem Wj:¬Fits fV [9,9]:=by
 intro aI;have aN:1<(b4 fV).length:=by have:=congrArg List.length GJ;simp at this;omega
 have h:=aI.cell 1 (by simp) aN;have e:=congrArg (fun l=>l[1]?) GJ;simp[List.getElem?_map,List.getElem?_eq_getElem aN] at e;simp[e.2] at h
theorem Wf:¬Fits fV []:=by
 intro aI
 have:=aI.len
 rw[Oa] at this;cases this
theorem Wh:told fV [1,0]=1:=by decide +kernel
theorem Wi:told fV [2,0]=0:=by decide +kernel
theorem N8:fE fV [1,0]=(1,0):=by rw[sa Dg (N9 (by omega) (by omega)),Wh]
theorem Wa:fE fV [2,0]=(0,0):=by rw[sa Dg (N9 (by omega) (by omega)),Wi]
theorem Wb:fE fV []=(0,3):=tK Dg Wf
theorem Wc:fE fV [9,9]=(0,3):=tK Dg Wj
theorem Wg:iB fV=[true,false]:=by decide +kernel
end o
namespace Go.Proofs.R
open Go Go.RowKit bn
theorem abk{w:World}{b:Nat}{u v:Value}{k l:List Int}(h:w.heap[b]? = some (.cells #[u,v] T.b))(hu:gu w u k)(aS:gu w v l):oM w (.slice (some ⟨b,0,none⟩) 2 2) [k,l] :=
 ⟨_,_,rfl,Nat.le_refl _,by simp[maxLen],fun _=>rfl,fun a bD i ad=>by
  injection bD with bD;subst bD
  match i,ad with
  | 0,_=>exact⟨u,eZ (j:=0*1) h rfl,hu⟩
  | 1,_=>exact⟨v,eZ (j:=1*1) h rfl,aS⟩
  | n+2,ad=>simp at ad;omega⟩
theorem y6(w:World)(a1:gf w):bw Tryz.prog F.kY #[] w fun v w'=>v = .bool true∧Ext w w':=by
 refine bO E.kY ?_;refine bH ?_;refine ao ?_;intro ar bv af7 aE ev;refine ao ?_;intro aW sY af3 aF tm;refine ao ?_;intro bh Nj af2 av hs;refine ao ?_;intro bj sZ af4 aH O6;refine ao ?_;intro bF bz cN a8 al;have vx:=(((aF.trans av).trans aH).trans a8).obj ev;have Qy:=((av.trans aH).trans a8).obj tm;have Qx:=(aH.trans a8).obj hs;have Qz:=a8.obj O6;have Qv:o.gL bF (.slice (some ⟨bv,0,none⟩) 1 1) o.fV.vars:=o.gL.aR vx rfl (by decide) (by intro x aD;simp only[o.fV,List.mem_singleton] at aD;subst aD;decide);have Qt:o.pw bF (.slice (some ⟨sY,0,none⟩) 1 1) o.fV.procs:=bE.Ni [⟨(⟨⟨#[80]⟩,0,1,[],[]⟩:o.dx).enc (.slice none 0 0) (.slice none 0 0),rfl,by simp[o.dx.enc,Value.oneCell']⟩] Qy rfl rfl rfl (by decide) (by
  intro i h1 U
  have:i=0:=by simp at h1;omega
  subst this;exact⟨(show o.h2 ⟨#[80]⟩ by decide),_,_,rfl,bE.nil,bE.nil⟩)
 have Qs:o.gG bF (.slice (some ⟨Nj,0,none⟩) 3 3) o.xa:=bE.aR (enc:=o.Node.enc) (fun _=>rfl) Qx rfl (by decide) fun a x aD ay=>⟨ay,o.We x aD⟩;have Qu:o.sP bF (.slice (some ⟨sZ,0,none⟩) 1 1) o.fV.props:=bE.Ni [⟨(⟨⟨#[112]⟩,o.xa⟩:o.h7).enc (.slice (some ⟨Nj,0,none⟩) 3 3),rfl,by simp[o.h7.enc,Value.oneCell']⟩] Qz rfl rfl rfl (by decide) (by
  intro i h1 U
  have:i=0:=by simp at h1;omega
  subst this;exact⟨(show o.h2 ⟨#[112]⟩ by decide),_,rfl,Qs⟩)
 have bP:o.eh bF _ o.fV:=⟨_,_,_,_,_,rfl,bE.nil,Qv,bE.nil,Qt,Qu⟩;have aX:=o.Wd;have cf:=(((aE.trans aF).trans av).trans aH).trans a8;clear Qv Qt Qs Qu vx Qy Qx Qz ev tm hs O6;refine ao ?_;intro bV ia gi bo cW;replace al:=bo.obj al;refine ao ?_;refine K.call (sb _ o.fV _ [1,0] bV (bP.ext bo) aX (a1.ext (cf.trans bo)) (vM (l:=[1,0]) cW rfl (by simp[maxLen]))) ?_;rintro _ cc ⟨rfl,bY⟩;rw[o.N8];replace al:=bY.obj al;have eM:=bo.trans bY;clear cW;refine ao ?_;intro dq CO xi cj fp;replace al:=cj.obj al;have jI:=eM.trans cj;refine ao ?_;refine K.call (sb _ o.fV _ [2,0] dq (bP.ext jI) aX (a1.ext (cf.trans jI)) (vM (l:=[2,0]) fp rfl (by simp[maxLen]))) ?_;rintro _ dE ⟨rfl,cv⟩;rw[o.Wa];replace al:=cv.obj al;have tc:=jI.trans cv;clear fp;refine ao ?_;refine K.call (sb _ o.fV _ [] dE (bP.ext tc) aX (a1.ext (cf.trans tc)) bE.nil) ?_;rintro _ fl ⟨rfl,cO⟩;rw[o.Wb];replace al:=cO.obj al;have qy:=tc.trans cO;refine ao ?_;refine K.call (Jt _ o.fV fl (bP.ext qy) aX (a1.ext (cf.trans qy))) ?_;rintro _ gd ⟨⟨bs,n,aw⟩,fg⟩;rw[o.Wg] at aw;rcases aw with ⟨ak,_⟩ | ⟨rfl,aM,xj,fq⟩
 ·cases ak
 obtain rfl:n=2:=aM;replace al:=fg.obj al;have zy:=qy.trans fg;have fq:gd.heap[bs]? = some (.cells #[.bool true,.bool false] T.s):=fq;refine ao ?_;intro k3 CM pS gy kx;refine ao ?_;intro nC sV OL kR hF;refine ao ?_;intro yw Nc G3 l2 rO;have Gw:=((zy.trans gy).trans kR).trans l2;have VH:=(gy.trans kR).trans l2;refine ao ?_;refine K.call (Ta _ o.fV _ [[1,0],[9,9]] yw (bP.ext Gw) aX (a1.ext (cf.trans Gw)) (abk rO (vM (l:=[1,0]) ((kR.trans l2).obj kx) rfl (by simp[maxLen])) (vM (l:=[9,9]) (l2.obj hF) rfl (by simp[maxLen]))) (by simp)) ?_;rintro _ Fc ⟨hw,mF⟩;simp only[List.map_cons,List.map_nil,o.N8,o.Wc] at hw;replace hw:br pO T.l 1 yw.heap.size Fc _ [1,0]:=hw;obtain⟨abI,Vw,rfl,_⟩:=hw.form;have hW:bE 1 (Flat pO) Fc _ _:=br.lI (enc:=pO) (fun _=>rfl) hw;obtain⟨hA,rfl⟩:=hW.addr (by simp);replace fq:=(VH.trans mF).obj fq;clear hw al kx hF rO;refine ao ?_
 repeat' first
  | (refine K.dt (by first | rfl | decide | simp) ?_;refine ao ?_)
  | (refine K.dj rfl ?_;refine ao ?_)
  | (refine K.du 0 rfl (by decide) ?_;refine ao ?_)
  | (refine K.du 1 rfl (by decide) ?_;refine ao ?_)
  | (refine K.ld (eZ fq rfl) ?_;refine ao ?_)
  | (refine K.dn (i:=0) hW (Ext.refl _) (by decide) rfl ?_;refine ao ?_)
  | (refine K.dn (i:=1) hW (Ext.refl _) (by decide) rfl ?_;refine ao ?_)
 exact⟨by first | trivial | rfl | simp,cf.trans (Gw.trans mF)⟩
end Go.Proofs.R
end
section
namespace o
open Go
theorem UR{m:Model}{v:Nat}(bP:gF m)(h:v<m.vars.length):cells m.vars[v] m.scalars=(l8 m v:Nat)∧l8 m v≤64:=by
 have ba:=aeB bP h;rw[xQ h] at ba ⊢;have c4:=(bP.var _ (List.getElem_mem h)).e4
 have:0≤cells m.vars[v] m.scalars:=by
  unfold cells size;split
  ·omega
  ·split
   ·split<;>omega
   ·omega
 omega
end o
namespace Go.Proofs.R
open Go Go.RowKit bn
theorem acF(x:o.Node)(cs ys:List Value)(m:o.Model)(w:World)(h:o.eh w cs m)(aX:m.cM)(dM:o.h6 w ys (o.layout m))(bP:o.gF m)(aD:o.rq m x)(c4:x.ok) :
  bw Tryz.prog F.Bm #[.agg cs.toArray,.agg ys.toArray,.agg x.enc.toArray] w fun u w'=>br eb T.a 1 w.heap.size w' u (o.e0 m 0 false x)∧Ext w w':=by
 have gg:=h;have Il:=c4.op;have Ik:=c4.n;unfold o.df at Il Ik;obtain⟨cG,bR,cu,c1,cA,c2,cw,bN,cP,bX,rfl,ak,h1,U,ai,aL,et,dY,eg,dK,ed⟩:=h.form;obtain⟨hP,d0,fM,d1,gR,d2,iR,d3,jT,d4,rfl,hd,fP,gI,hQ,kh⟩:=dM.form;obtain⟨f5,f6,f8⟩:=o.IE m;have mD:o.eA m≤64:=o.mO bP;refine bO E.Bm ?_;refine bH ?_;refine ao ?_;intro ar cE gh aE bA;refine ao ?_;intro aW eu fo aF b0;replace bA:=aF.obj bA;refine ao ?_;intro bh jl nj av cK;replace bA:=av.obj bA;replace b0:=av.obj b0;have bJ:=(aE.trans aF).trans av;have z3:=bJ.size;unfold o.Node.enc at cK;refine ao ?_;apply K.cond<;>intro g2
 ·obtain⟨aM,fN,aN⟩:=aD.var bP g2;obtain⟨a0,rfl⟩:=hd.addr (by omega);have acq:=hd.ext Flat.ext bJ;obtain⟨fv,iy⟩:=o.yt aM;have ba:=o.yu aM;have pN:x.n=(x.n.toNat:Nat):=by omega
  rw[pN] at cK;have aZ:o.e0 m 0 false x=[(o.fF m x.n.toNat:Int)]:=by unfold o.e0;rw[if_pos g2,o.yg]
  rw[aZ];refine ao ?_;intro bj Nf ON aH qF;rw[iy] at qF;refine ao ?_;refine K.kq (y:=(o.fF m x.n.toNat:Int)) (br.nil eb T.a 1 w.heap.size bj) qF rfl (fun _=>rfl) lV (by simp) (by simp[maxLen]) (by have:=aH.size;omega) fun bf n c bF ee hG=>?_;have a8:=br.jo (br.nil eb T.a 1 w.heap.size bj) (bJ.trans aH) hG (Nat.le_refl _);refine ao ?_;exact⟨ee,a8⟩
 refine ao ?_;apply K.cond<;>intro g3
 ·obtain⟨aM,fN,_⟩:=aD.item bP g3;obtain⟨a0,rfl⟩:=hd.addr (by omega);obtain⟨TN,rfl⟩:=h1.addr (by omega);obtain⟨fv,iy⟩:=o.yt aM;obtain⟨jJ,agp⟩:=o.UR bP aM;have ba:=o.yu aM;have pN:x.n=(x.n.toNat:Nat):=by omega
  have Da:o.e0 m 0 false x=o.gb (o.fF m x.n.toNat) (o.l8 m x.n.toNat):=by
   unfold o.e0 o.xI;rw[if_neg g2,if_pos g3,if_neg (by simp)]
  rw[pN] at cK;rw[Da];have XP:=bA;have XR:=b0;have XT:=cK;clear bA b0 cK;refine ao ?_;refine K.cV 8 (o.l8 m x.n.toNat) [3,4,5] (fun u:Value=>[(7,u)]) (.slice none 0 0) (fun k u W=>br eb T.a 1 bh.heap.size W u (o.gb (o.fF m x.n.toNat) k)∧Ext bh W) bp bp ⟨br.nil _ _ _ _ _,Ext.refl _⟩ ?_;rintro k u S bj hk ⟨hu,aH⟩;have b5:=bJ.trans aH;obtain⟨qZ,kt,rfl,_⟩:=hu.form;have D1:=o.RX (o.fF m x.n.toNat) k;have bA:=aH.obj XP;have b0:=aH.obj XR;have cK:=aH.obj XT;have RH:=hd.ext Flat.ext b5;have Dm:=h1.ext b5;have mM:=ak.ext b5;refine ao ?_;refine K.fj (.int .i64 (o.cells m.vars[x.n.toNat] m.scalars)) (fun w' gZ=>EF m.vars[x.n.toNat] _ m.scalars w' (mM.ext gZ)) ?_;refine ao ?_;intro bF a8;have cf:=b5.trans a8;replace b0:=a8.obj b0;replace cK:=a8.obj cK;have acr:=RH.ext Flat.ext a8;have Ic:=hu.ext a8;clear RH Dm;refine ao ?_;apply K.cond<;>intro g4
  ·refine ao ?_;intro bV afs gi bo cW;rw[iy] at cW;refine ao ?_;refine K.kq (y:=((o.fF m x.n.toNat+k:Nat):Int)) (Ic.ext bo) cW (by unfold eb;rw[Int.natCast_add];rfl) (fun _=>rfl) lV (by omega) (by unfold maxLen;omega) (by have:=bo.size;have:=a8.size;have:=aH.size;omega) fun bf n c cc dk iM=>?_;have bY:=br.jo (Ic.ext bo) ((aH.trans a8).trans bo) iM (Nat.le_refl _);refine ao ?_;refine⟨by omega,bq,_,⟨rfl,trivial⟩,?_,bY⟩;rw[o.RY];exact dk
  ·have jM:k=o.l8 m x.n.toNat:=by omega
   refine ao ?_;exact⟨by rw[←jM];exact br.low z3 Ic,cf⟩
 refine ao ?_;apply K.cond<;>intro g6
 ·obtain⟨fN,ju⟩:=aD.node.len g6;have xB:x.n.toNat<m.aK.length:=ju;obtain⟨dF,rfl⟩:=fP.addr (by omega);have acs:=fP.ext Flat.ext bJ;obtain⟨jK,jJ⟩:=o.w4 xB;have pN:x.n=(x.n.toNat:Nat):=by omega
  rw[pN] at cK;have ez:o.e0 m 0 false x=[(o.gx m x.n.toNat:Int)]:=by
   unfold o.e0;rw[if_neg g2,if_neg g3,if_neg (by omega),if_pos g6,o.yg]
  rw[ez];refine ao ?_;intro bj Nf ON aH qF;rw[jJ] at qF;refine ao ?_;refine K.kq (y:=(o.gx m x.n.toNat:Int)) (br.nil eb T.a 1 w.heap.size bj) qF rfl (fun _=>rfl) lV (by simp) (by simp[maxLen]) (by have:=aH.size;omega) fun bf n c bF ee hG=>?_;have a8:=br.jo (br.nil eb T.a 1 w.heap.size bj) (bJ.trans aH) hG (Nat.le_refl _);refine ao ?_;exact⟨ee,a8⟩
 refine ao ?_;apply K.cond<;>intro g7;rotate_left
 ·have jI:o.e0 m 0 false x=[]:=by
   unfold o.e0;by_cases g4:x.op=4
   ·have:=(aD.node.loc g4).2
    have e:(o.ik m).locals=[]:=rfl;rw[e] at this;cases this
   rw[if_neg g2,if_neg g3,if_neg g4,if_neg g6,if_neg g7]
  rw[jI];refine ao ?_;exact⟨br.nil _ _ _ _ _,bJ⟩
 have eM:o.e0 m 0 false x=o.lU m (x.n.tdiv 16) (o.insts m).length:=by unfold o.e0;rw[if_neg g2,if_neg g3,if_neg (by omega),if_neg g6,if_pos g7]
 rw[eM];obtain⟨fN,HQ⟩:=aD.node.at_ g7;have Zi:=Int.tdiv_nonneg fN (show(0:Int)≤16 by omega);have Y9:(x.n.tdiv 16).toNat<m.procs.length:=HQ;have Za:=bP.procs;have Zh : -9223372036854775808≤x.n.tdiv 16∧x.n.tdiv 16≤9223372036854775807:=by omega
 have hp:=o.Ir bP;refine ao ?_;refine K.call (EG _ m bh (gg.ext bJ) aX) ?_;rintro cB bj ⟨fv,aH⟩;obtain⟨fw,ci,rfl,_⟩:=fv.form;have fz:pt bj _ _:=br.lI (enc:=o.eL.enc) (fun _=>rfl) fv;have XS:=aH.obj b0;have XU:=aH.obj cK;have b5:=bJ.trans aH;clear bA b0 cK fv;refine ao ?_;refine K.cV 10 (o.insts m).length [4,5,9] (fun u:Value=>[(7,u)]) (.slice none 0 0) (fun k u W=>br eb T.a 1 bj.heap.size W u (o.lU m (x.n.tdiv 16) k)∧Ext bj W) bp bp ⟨by simpa[o.lU] using br.nil _ _ _ _ _,Ext.refl _⟩ ?_;rintro k u S bF hk ⟨hu,a8⟩;obtain⟨qZ,kt,rfl,_⟩:=hu.form;have D1:=(o.M7 bP (x.n.tdiv 16) k hk).len;have b0:=a8.obj XS;have cK:=a8.obj XU;have cf:=b5.trans a8;have Yx:=fz.ext Flat.ext a8;have ya:=gI.ext Flat.ext cf;refine ao ?_;apply K.cond<;>intro g1
 ·have cp:k<(o.insts m).length:=by omega
  obtain⟨mq,rfl⟩:=fz.addr (by omega);obtain⟨Yv,Ah⟩:=o.xG cp;obtain⟨a2,rfl⟩:=gI.addr (by omega);have lu:=o.CK (m:=m) (p:=x.n.tdiv 16) cp;refine ao ?_;refine K.quo (by omega) ?_;refine ao ?_;intro bV bo;replace b0:=bo.obj b0;have Ie:=hu.ext bo;have ahj:=ya.ext Flat.ext bo;have iq:=a8.trans bo;clear Yx ya;refine ao ?_;apply K.cond<;>intro g2
  ·rw[if_pos g2,o.yg] at lu;refine ao ?_;intro cc aft kO bY er;rw[Ah] at er;refine ao ?_;refine K.kq (y:=(o.e3 m k:Int)) (Ie.ext bY) er rfl (fun _=>rfl) lV (by omega) (by unfold maxLen;omega) (by have:=bY.size;have:=iq.size;omega) fun bf n c dq gn Hs=>?_;have cj:=br.jo (Ie.ext bY) (iq.trans bY) Hs (Nat.le_refl _);refine ao ?_;refine⟨cp,bq,_,⟨rfl,trivial⟩,?_,cj⟩;rw[lu];exact gn
  ·rw[if_neg g2,List.append_nil] at lu;refine ao ?_;refine⟨cp,bq,_,⟨bq,trivial⟩,?_,iq⟩;rw[lu];exact Ie
 ·have jM:(o.insts m).length=k:=by omega
  rw[jM];refine ao ?_;exact⟨br.low b5.size hu,cf⟩
end Go.Proofs.R
end
section
namespace o
open Go
def tW(m:Model)(e:List Node)(k:Nat):List Int:=(e.take k).flatMap (e0 m 0 false)
theorem ab4{m:Model}{e:List Node}{k:Nat}(h:k<e.length):tW m e (k+1)=tW m e k++e0 m 0 false e[k]:=by
 unfold tW;rw[List.take_succ_eq_append_getElem h,List.flatMap_append];simp
theorem ab3(m:Model)(e:List Node):tW m e e.length=pb m e:=by unfold tW pb;rw[List.take_length]
def ss(m:Model)(k:Nat):List Int:=(m.props.take k).flatMap fun p=>pb m p.expr
theorem adx{m:Model}{k:Nat}(h:k<m.props.length):ss m (k+1)=ss m k++pb m m.props[k].expr:=by
 unfold ss;rw[List.take_succ_eq_append_getElem h,List.flatMap_append];simp
theorem adw(m:Model):ss m m.props.length=sr m:=by unfold ss sr;rw[List.take_length]
end o
namespace Go.Proofs.R
open Go Go.RowKit bn
structure uF(w:World)(b N:Nat)(L:List Int):Prop where
 row:∃aj,w.heap[b]? = some (.cells (kE aj).toArray T.s)∧o.lh N L aj
theorem uF.ext{w w':World}{b N:Nat}{L:List Int}(h:uF w b N L)(he:Ext w w'):uF w' b N L:=by
 obtain⟨aj,h1,U⟩:=h.row;exact⟨aj,he.obj h1,U⟩
theorem ade(cs:List Value)(m:o.Model)(w:World)(h:o.eh w cs m)(aX:m.cM) :
  bw Tryz.prog F.Bk #[.agg cs.toArray] w fun u w'=>(∃b n,((o.iB m=[]∧n=0∧u = .slice none 0 0)∨u = .slice (some ⟨b,0,none⟩) n n∧n=(o.iB m).length∧w.heap.size≤b∧w'.heap[b]? = some (.cells (kE (o.iB m)).toArray T.s)))∧Ext w w':=by
 have gg:=h;obtain⟨cG,bR,cu,c1,cA,c2,cw,bN,cP,bX,rfl,ak,h1,U,ai,aL,et,dY,eg,dK,ed⟩:=h.form;refine bO E.Bk ?_;refine bH ?_;refine ao ?_;intro ar bz cN aE al;refine ao ?_;refine K.call (Q9 _ m ar (gg.ext aE) aX) ?_;rintro _ aW ⟨rfl,aF⟩;replace al:=aF.obj al;have aZ:=aE.trans aF;refine ao ?_;apply K.cond<;>intro g1;rotate_left
 ·have e:o.iB m=[]:=by unfold o.iB;rw[if_neg g1]
  refine ao ?_;exact⟨⟨0,0,.inl ⟨e,rfl,bq⟩⟩,aZ⟩
 have oV:=o.o6 g1;have Al:o.lay m=o.layout m:=by unfold o.lay;rw[if_pos g1]
 have mD:o.eA m≤64:=o.mO oV;have pV:=o.BA g1;refine ao ?_;refine K.call (RO _ m aW (gg.ext aZ) aX) ?_;rintro _ bh ⟨⟨ys,rfl,dM⟩,av⟩;have bJ:=aZ.trans av;replace al:=av.obj al;rw[Al] at dM;have zP:=dM.here;have rK:=zP;obtain⟨hP,d0,fM,d1,gR,d2,iR,d3,jT,d4,rfl,_⟩:=zP.form;have fK:(o.layout m).cells=(o.eA m:Nat):=rfl;refine ao ?_;intro bj cE gh aH bA;replace al:=aH.obj al;have b5:=bJ.trans aH;have Dq:=rK.ext aH;refine ao ?_;refine K.Rc (o.eA m) fK (by omega) fun bF b aA a8 cK=>?_;have lq:uF bF b (o.eA m) (o.ss m 0):=⟨_,cK,o.lh.start _⟩;have nj:=cL cK;have tg:∀{W},Mod (fun i=>i=b) bF W→Ext bj W:=fun hm=>hm.ext a8 fun k hk e=>by omega
 clear cK;refine ao ?_;refine K.cV 5 m.props.length [1,3,4] (fun _:Unit=>[]) () (fun k _ W=>uF W b (o.eA m) (o.ss m k)∧Mod (fun i=>i=b) bF W) bp bp ⟨lq,Mod.refl _ _⟩ ?_;rintro k _ ko bV hk ⟨tj,ha⟩;have kN:=tg ha;have ez:=b5.trans kN;have j7:=kN.obj al;refine ao ?_;apply K.cond<;>intro g2;rotate_left
 ·have jM:k=m.props.length:=by omega
  rw[jM,o.adw] at tj;obtain⟨aj,a1,aw⟩:=tj.row;have H7:=aw.Si g1;subst H7;have aN:=aw.len;refine ao ?_;exact⟨⟨b,o.eA m,.inr ⟨rfl,aN.symm,by have:=b5.size;omega,a1⟩⟩,ez⟩
 have cp:k<m.props.length:=by omega
 obtain⟨a4,rfl⟩:=aL.addr (by omega);obtain⟨lC,fH,dR,fi⟩:=aL.at k cp;obtain⟨x7,ce,rfl,_⟩:=fi.form;have fz:=o.Ey g1 cp;have hle:=fz.len;unfold o.h7.enc at dR;have HR:=dR.ext ez;refine ao ?_;refine K.cV 7 m.props[k].expr.length [1,3,4,5,6] (fun _:Unit=>[]) () (fun i _ W=>uF W b (o.eA m) (o.ss m k++o.tW m m.props[k].expr i)∧Mod (fun i=>i=b) bF W) bp bp ⟨by simpa[o.tW] using tj,ha⟩ ?_;rintro i _ CE cc ad ⟨G0,hI⟩;have ni:=tg hI;have eM:=b5.trans ni;have OR:=ni.obj al;have OS:=ni.obj bA;refine ao ?_;apply K.cond<;>intro g3;rotate_left
 ·have Ah:i=m.props[k].expr.length:=by omega
  rw[Ah,o.ab3] at G0;refine ao ?_;refine⟨cp,bq,(),trivial,?_,hI⟩;rw[o.adx cp];exact G0
 have og:i<m.props[k].expr.length:=by omega
 obtain⟨lT,rfl⟩:=fi.addr (by omega);have vm:=fi.at i og;have DW:=o.I9 g1 cp (List.getElem_mem og);have xu:=vm.cells.ext eM;refine ao ?_;intro dq cj;replace OR:=cj.obj OR;replace OS:=cj.obj OS;replace xu:=xu.ext cj;refine ao ?_;refine K.call (acF m.props[k].expr[i] _ _ m dq (gg.ext (eM.trans cj)) aX (Dq.ext (ni.trans cj)) oV DW vm.ok) ?_;rintro _ dE ⟨fD,cv⟩;obtain⟨on,afy,rfl,_⟩:=fD.form;have Xu:bE 1 (Flat eb) dE _ _:=br.lI (enc:=eb) (fun _=>rfl) fD;have Pb:=cj.trans cv;have xg:=G0.ext Pb;have hJ:=hI.trans Pb.mod;have cb:=DW.lt oV;have xi:b<dq.heap.size:=by have:=hI.size;have:=cj.size;omega
 have agz:(o.e0 m 0 false m.props[k].expr[i]).length≤9223372036854775807:=by
  obtain⟨_,_,e,h1,U,_⟩:=Xu.ex;unfold maxLen at U;omega
 refine ao ?_;refine K.cV 9 (o.e0 m 0 false m.props[k].expr[i]).length [1,3,4,5,6,7,8] (fun _:Unit=>[]) () (fun j _ W=>uF W b (o.eA m) (o.ss m k++o.tW m m.props[k].expr i++(o.e0 m 0 false m.props[k].expr[i]).take j)∧Mod (fun i=>i=b) dE W) bp bp ⟨by simpa using xg,Mod.refl _ _⟩ ?_;rintro j _ oO fl aP ⟨GZ,ns⟩;have Xt:=br.mod fD ns (fun q aJ e=>by have:=(br.lt fD q aJ).1;omega);have xf:=br.lI (enc:=eb) (fun _=>rfl) Xt;refine ao ?_;apply K.cond<;>intro g4;rotate_left
 ·have YE:j=(o.e0 m 0 false m.props[k].expr[i]).length:=by omega
  rw[YE,List.take_length] at GZ;refine ao ?_;refine⟨og,bq,(),trivial,?_,hJ.trans ns⟩;rw[o.ab4 og,←List.append_assoc];exact GZ
 have oh:j<(o.e0 m 0 false m.props[k].expr[i]).length:=by omega
 obtain⟨nW,rfl⟩:=xf.addr (by omega);obtain⟨z0,fx⟩:=cb _ (List.getElem_mem oh);obtain⟨aj,a1,aw⟩:=GZ.row;have agt:=aw.len;have bK:(o.e0 m 0 false m.props[k].expr[i])[j]=(((o.e0 m 0 false m.props[k].expr[i])[j]).toNat:Nat):=by omega
 have PK:=aw.put (c:=((o.e0 m 0 false m.props[k].expr[i])[j]).toNat) (by omega);rw[←bK] at PK;refine ao ?_;refine K.du ((o.e0 m 0 false m.props[k].expr[i])[j]).toNat bK (by omega) ?_;refine ao ?_;refine K.SA a1 (by omega) fun gd hL ig=>?_;refine ao ?_;refine⟨oh,bq,(),trivial,⟨_,ig,?_⟩,ns.trans (hL.mod rfl)⟩;rw[List.take_succ_eq_append_getElem oh,←List.append_assoc];exact PK
end Go.Proofs.R
end
section
namespace o
structure Lz(m:Model):Prop where
 s:m.scalars.length≤8
 v:m.vars.length≤20
 c:m.aK.length≤8
 p:m.procs.length≤10
 q:m.props.length≤16
 i:∀(j:Nat) (h:j<m.procs.length),m.procs[j].vars.length≤10∧m.procs[j].c7.length≤16
end o
namespace Go.Proofs.R
open Go Go.RowKit bn
theorem aaH(cs:List Value)(c:o.ft)(w:World)(h:o.uj w cs c) :
  bw Tryz.prog F.A8 #[.agg cs.toArray] w fun v w'=>(∃b:Bool,v = .bool b)∧Ext w w':=by
 obtain⟨ak,_,_,rfl,aX,bD⟩:=h;obtain⟨_,_,rfl,_⟩:=aX.form;obtain⟨bf,jG,rfl,nx⟩:=bD.form;unfold o.ft.enc;refine bO E.A8 ?_;refine bH ?_;refine aa ?_;intro ar bz cN aE al;refine aa ?_;apply K.cond<;>intro g0
 ·refine aa ?_;exact⟨⟨_,rfl⟩,aE⟩
 refine aa ?_;apply K.cond<;>intro g1
 ·refine aa ?_;exact⟨⟨_,rfl⟩,aE⟩
 refine aa ?_;apply K.cond<;>intro g2
 ·refine aa ?_;exact⟨⟨_,rfl⟩,aE⟩
 refine aa ?_;refine K.cV 3 c.di.length [1] (fun _=>[]) () (fun k _ w'=>w'=ar) bp bp rfl ?_;rintro k _ S aW hk rfl;refine aa ?_;apply K.cond<;>intro g5
 ·have bd:k<c.di.length:=by omega
  obtain⟨a,rfl⟩:=bD.addr (by omega);obtain⟨cF,ei,bg,eO,dR⟩:=bD.at k bd;obtain⟨e4,gN,rfl,fA⟩:=eO.form;obtain⟨mQ,mv,rfl,lc⟩:=dR.form;refine aa ?_;apply K.cond<;>intro g6
  ·refine aa ?_;exact⟨⟨_,rfl⟩,aE⟩
  refine aa ?_;apply K.cond<;>intro g7
  ·refine aa ?_;exact⟨⟨_,rfl⟩,aE⟩
  refine aa ?_;exact⟨bd,bq,(),trivial,bq⟩
 refine aa ?_;exact⟨⟨_,rfl⟩,aE⟩
theorem Ek(cs:List Value)(m:o.Model)(w:World)(h:o.eh w cs m) :
  bw Tryz.prog F.tP #[.agg cs.toArray] w fun v w'=>(∃b,v = .bool b∧(b=true→o.Lz m))∧Ext w w':=by
 obtain⟨cG,bR,cu,c1,cA,c2,cw,bN,cP,bX,rfl,ak,h1,U,ai,aL,et,dY,eg,dK,ed⟩:=h.form;refine bO E.tP ?_;refine bH ?_;refine aa ?_;intro ar bz cN aE al;refine aa ?_;apply K.cond<;>intro g0
 ·refine aa ?_;exact⟨⟨false,rfl,fun h=>by cases h⟩,aE⟩
 refine aa ?_;apply K.cond<;>intro g1
 ·refine aa ?_;exact⟨⟨false,rfl,fun h=>by cases h⟩,aE⟩
 refine aa ?_;apply K.cond<;>intro g2
 ·refine aa ?_;exact⟨⟨false,rfl,fun h=>by cases h⟩,aE⟩
 refine aa ?_;apply K.cond<;>intro g3
 ·refine aa ?_;exact⟨⟨false,rfl,fun h=>by cases h⟩,aE⟩
 refine aa ?_;apply K.cond<;>intro g4
 ·refine aa ?_;exact⟨⟨false,rfl,fun h=>by cases h⟩,aE⟩
 have nm:=al;refine aa ?_;refine K.cV 3 m.procs.length [1] (fun _=>[]) () (fun k _ w'=>Ext ar w'∧∀j (h:j<m.procs.length),j<k→m.procs[j].vars.length≤10∧m.procs[j].c7.length≤16) bp bp ⟨Ext.refl _,fun j _ h=>absurd h (Nat.not_lt_zero _)⟩ ?_;rintro k _ S aW hk ⟨aF,c6⟩;replace al:=aF.obj nm;have aZ:=aE.trans aF;refine aa ?_;apply K.cond<;>intro g5
 ·have bd:k<m.procs.length:=by omega
  obtain⟨a,rfl⟩:=ai.addr (by omega);obtain⟨_,cF,ei,bg,eO,dR⟩:=ai.at k bd;obtain⟨e4,gN,rfl,fA⟩:=eO.form;obtain⟨mQ,mv,rfl,lc⟩:=dR.form;refine aa ?_;apply K.cond<;>intro g6
  ·refine aa ?_;exact⟨⟨false,rfl,fun h=>by cases h⟩,aZ⟩
  refine aa ?_;apply K.cond<;>intro g7
  ·refine aa ?_;exact⟨⟨false,rfl,fun h=>by cases h⟩,aZ⟩
  refine aa ?_;refine K.cV 4 m.procs[k].c7.length [1,3] (fun _=>[]) () (fun i _ w'=>Ext ar w') bp bp aF ?_;clear al aZ aF;rintro i _ S bh ad aF;have al:=aF.obj nm;have aZ:=aE.trans aF;refine aa ?_;apply K.cond<;>intro g8
  ·have cr:i<m.procs[k].c7.length:=by omega
   obtain⟨ac,rfl⟩:=dR.addr (by omega);obtain⟨afx,pU,j5⟩:=Rel.out (dR.at i cr);obtain⟨_,_,_,rfl,_,_⟩:=id j5;refine aa ?_;refine K.call (aaH _ m.procs[k].c7[i] bh (j5.ext aZ)) ?_;rintro _ bj ⟨⟨b,rfl⟩,aH⟩;cases b with
   | false =>
    refine aa ?_;exact⟨⟨false,rfl,fun h=>by cases h⟩,aZ.trans aH⟩
   | true =>
    refine aa ?_;exact⟨cr,bq,(),trivial,aF.trans aH⟩
  ·refine aa ?_;refine⟨bd,bq,(),trivial,aF,fun j aP fL=>?_⟩;by_cases ly:j=k
   ·subst ly;exact⟨by omega,by omega⟩
   ·exact c6 j aP (by omega)
 refine aa ?_;refine K.cV 5 m.props.length [1] (fun _=>[]) () (fun i _ w'=>w'=aW) bp bp rfl ?_;rintro i _ S bh ad rfl;refine aa ?_;apply K.cond<;>intro g8
 ·have cr:i<m.props.length:=by omega
  obtain⟨ac,rfl⟩:=aL.addr (by omega);obtain⟨_,fH,pU,iy⟩:=aL.at i cr;obtain⟨e4,gN,rfl,fA⟩:=iy.form;refine aa ?_;apply K.cond<;>intro g9
  ·refine aa ?_;exact⟨⟨false,rfl,fun h=>by cases h⟩,aZ⟩
  refine aa ?_;exact⟨cr,bq,(),trivial,bq⟩
 refine aa ?_;exact⟨⟨true,rfl,fun _=>⟨by omega,by omega,by omega,by omega,by omega,fun j aP=>c6 j aP (by omega)⟩⟩,aZ⟩
end Go.Proofs.R
end
section
namespace bn
open Go
theorem K.aba{P:Program}{im:TypeId}{cz cD:Operand}{ax:Value→Prop}{a:Bool}{t}(h:P.underlying im=some .bool)(hk:ax (.bool false)):eW P .neq im cz cD (.bool a) (.bool a) ax t:=K.IT h (by rw[bne_self_eq_false];exact hk)
end bn
namespace Go.Proofs.R
open Go Go.RowKit bn
theorem F2{w:World}{b k:Nat}{aj:List Bool}(h:w.heap[b]? = some (.cells (kE aj).toArray T.s))(hk:k<aj.length):w.cell? (Addr.add ⟨b,0,none⟩ (k*1))=some (.bool aj[k]) :=
 eZ h (by rw[Nat.mul_one];simp[kE,hk])
theorem Js{w:World}{base:Nat}{u:Value}{l:List Bool}(h:∃b n,((l=[]∧n=0∧u = .slice none 0 0)∨u = .slice (some ⟨b,0,none⟩) n n∧n=l.length∧base≤b∧w.heap[b]? = some (.cells (kE l).toArray T.s))) :
  ∃bf,u = .slice bf l.length l.length∧(0<l.length→∃b,bf=some ⟨b,0,none⟩∧base≤b∧w.heap[b]? = some (.cells (kE l).toArray T.s)):=by
 obtain⟨b,n,h | ⟨rfl,rfl,aA,ay⟩⟩:=h
 ·obtain⟨rfl,_,rfl⟩:=h;exact⟨none,rfl,fun h=>absurd h (Nat.lt_irrefl _)⟩
 ·exact⟨_,rfl,fun _=>⟨b,rfl,aA,ay⟩⟩
theorem adD(m:o.Model):(o.iB m).length≤64:=by
 unfold o.iB;split
 ·rename_i h
  have:=o.mO (o.o6 h)
  simp[o.eA,this]
 ·simp
theorem aap(cs:List Value)(m:o.Model)(w:World)(h:o.eh w cs m)(aX:m.cM)(a1:gf w) :
  bw Tryz.prog F.Bp #[.agg cs.toArray] w fun u w'=>u = .bool true∧Ext w w':=by
 have bP:=h;obtain⟨cG,bR,cu,c1,cA,c2,cw,bN,cP,bX,rfl,_⟩:=h.form;refine bO E.Bp ?_;refine bH ?_;refine ao ?_;intro ar bz cN aE al;refine ao ?_;refine K.call (Ek _ m ar (bP.ext aE)) ?_;rintro _ aW ⟨⟨t,rfl,_⟩,aF⟩;replace al:=aF.obj al;have aZ:=aE.trans aF;cases t with
 | false =>
  refine ao ?_;refine K.call (y6 _ (a1.ext aZ)) ?_;rintro _ bh ⟨rfl,av⟩;refine ao ?_;exact⟨bq,aZ.trans av⟩
 | true =>
  refine ao ?_;intro bh av;replace al:=av.obj al;have bJ:=aZ.trans av;have pV:=adD m;refine ao ?_;refine K.call (Jt _ m bh (bP.ext bJ) aX (a1.ext bJ)) ?_;rintro _ bj ⟨aw,aH⟩;obtain⟨bf,rfl,HU⟩:=Js aw;have b5:=bJ.trans aH;refine⟨aH,?_⟩;refine ao ?_;refine K.call (ade _ m bj (bP.ext b5) aX) ?_;rintro _ bF ⟨r1,a8⟩;obtain⟨tU,rfl,Zm⟩:=Js r1;have cf:=b5.trans a8;refine ao ?_;refine K.cV 5 (o.iB m).length [1,3,4] (fun _:Unit=>[]) () (fun _ _ W=>Ext bF W) bp bp (Ext.refl _) ?_;rintro k _ S bV hk bo;have ez:=cf.trans bo;refine ao ?_;apply K.cond<;>intro g1
  ·have cp:k<(o.iB m).length:=by omega
   obtain⟨fm,rfl,_,bD⟩:=HU (by omega);obtain⟨fI,rfl,_,aA⟩:=Zm (by omega);have G2:=F2 ((a8.trans bo).obj bD) cp;have gi:=F2 (bo.obj aA) cp;refine ao ?_;refine K.ld G2 ?_;refine ao ?_;refine K.ld gi ?_;refine ao ?_;refine K.aba (by kernel_rfl) ?_;refine ao ?_;intro cc bY;refine ao ?_;exact⟨cp,bq,(),trivial,bo.trans bY⟩
  ·refine ao ?_;refine K.call (y6 _ (a1.ext ez)) ?_;rintro _ cc ⟨rfl,bY⟩;refine ao ?_;exact⟨bq,ez.trans bY⟩
end Go.Proofs.R
end