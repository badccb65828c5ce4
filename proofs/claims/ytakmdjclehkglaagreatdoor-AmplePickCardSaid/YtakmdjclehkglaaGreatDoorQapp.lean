/- Parts. -/
import Derived.Test.YtakmdjclehkglaaGreatDoorQapo
import Derived.Shelf.SlSortCmp.WholeK
import Derived.Shelf.SlSortCmp.NoneTotal
set_option linter.all false
set_option maxRecDepth 8000
set_option maxHeartbeats 16000000
namespace o
open Go
structure l6(m:Model)(n:Nat)(L:List (List Int×List Int)):Prop where
 len:L.length=n
 is:∀i (h:i<L.length),kB m i L[i].1 L[i].2
def l6.nil(m:Model):l6 m 0 []:=⟨rfl,λi h=>absurd h (HI _)⟩
def l6.snoc{m:Model}{n:Nat}{L:C_ (C_ Int×C_ Int)}{a b:C_ Int}(h:l6 m n L)(aS:kB m n a b):l6 m (n+1) (L++[(a,b)]):=by
 refine⟨by rw[MD,h.len];rfl,λi U=>?_⟩;by_cases e:i<L.length
 .rw[AI4 e];exact h.is i e
 .have aH:i=L.length:=by simp at U;omega
  subst aH;rw[AI5 (EC _)];simp only[Nat.sub_self,List.getElem_cons_zero];rw[h.len];exact aS
def l6.eq{m:Model}{n:Nat}{L nI:C_ (C_ Int×C_ Int)}(h:l6 m n L)(br:l6 m n nI):L=nI:=by
 refine AK8 (h.len.trans br.len.symm) λi h1 I=>?_;obtain⟨bF,aH⟩:=(h.is i h1).eq (br.is i I);exact Prod.ext bF aH
end o
namespace Go.Proofs.R
open Go Go.RowKit a8
def zD(w:A_)(cs:C_ B_)(x:C_ Int×C_ Int):Prop := ∃v1 v2,cs=[v1,v2]/\c9 w v1 x.1/\c9 w v2 x.2
def Ox(w:A_)(a:Addr)(x:C_ Int×C_ Int):Prop := ∃v1 v2,fc w a [v1,v2]/\c9 w v1 x.1/\c9 w v2 x.2
theorem adj{w:A_}{v:B_}{l:C_ Int}(h:c9 w v l):v.oneCell'=true:=by
 obtain⟨ae,c,rfl,_⟩:=h.form;rfl
instance:Rel Ox zD 2 where
 out:=λ⟨v1,v2,h,h1,I⟩=>⟨_,h,v1,v2,rfl,h1,I⟩
 oZ:=λh ⟨v1,v2,e,h1,I⟩=>⟨v1,v2,e ▸ h,h1,I⟩
 len:=λ⟨v1,v2,e,_⟩=>by rw[e];rfl
 one:=λ⟨v1,v2,e,h1,I⟩ u hu=>by
  rw[e] at hu;simp only[List.mem_cons,List.not_mem_nil,or_false] at hu;rcases hu with rfl | rfl
  .exact adj h1
  .exact adj I
 ext:=λhe ⟨v1,v2,e,h1,I⟩=>⟨v1,v2,e,h1.ext Flat.ext he,I.ext Flat.ext he⟩
def MG{w w1:A_}{v:B_}{l:C_ Int}(h:aJ bX T.a 1 w.heap.size w1 v l):eL w (λW=>c9 W v l) w1:=λW m =>
 aJ.e3 (enc:=bX) (λ_=>rfl) (aJ.mod h m λk hk a=>by have:=(aJ.lt h k hk).1;omega)
def at7(cs:C_ B_)(m:o.Model)(w:A_)(h:o.dj w cs m)(aG:m.cv)(aQ:gJ w)(ch:o.uF m) :
  Du F.pq #[.agg cs.toArray] w λv w'=>(∃L base,o.l6 m (o.refs m).length L/\w.heap.size<=base/\base<=w'.heap.size/\eV zD T.ap 2 base w' v L)/\Ext w w':=by
 have b4:=h;obtain⟨b0,bz,bO,c1,bT,c2,bV,bu,b1,bB,rfl,_⟩:=h.form;have hR:=o.qo ch;refine bl E.pq ?_;refine J ?_;intro w1 bx cN ag al;refine J ?_;refine J_ (zt _ m w1 (b4.ext ag) ch) ?_;rintro vr aA ⟨fD,ai⟩;obtain⟨e9,mJ,rfl,_⟩:=fD.form;replace al:=ai.obj al;have aH:=ag.trans ai;have z2:=aH.size;clear fD;refine J ?_;refine L_ 10 (o.refs m).length [1,9] (λu:B_=>[(3,u)]) (.slice none 0 0) (λk u W => ∃L,o.l6 m k L/\eV zD T.ap 2 aA.heap.size W u L/\Ext aA W) a6 a6 ⟨[],o.l6.nil m,eV.nil _ _ _ _ _,Ext.refl _⟩ ?_;rintro k u S aM hk ⟨L,gL,bG,ah⟩;have aR:=aH.trans ah;have gr:=ah.obj al;refine J ?_;apply I_<;>intro g1;rotate_left
 .have gS:k=(o.refs m).length:=Ad
  rw[gS] at gL;refine J ?_;exact⟨⟨L,_,gL,z2,ah.size,bG⟩,aR⟩
 have cb:k<(o.refs m).length:=Ad
 have Qr:=gL.len;obtain⟨sY,nU,rfl,_⟩:=bG.form;refine J ?_;refine J_ (Ws _ m k aM (b4.ext aR) aG (aQ.ext aR)) ?_;rintro _ aU ⟨⟨va,iJ,a,b,rfl,fb,AU,Qm⟩,aq⟩;have aw:=((MG fb).and (MG AU)).imp (q:=λW=>zD W [va,iJ] (a,b)) λW h=>⟨va,iJ,rfl,h.1,h.2⟩;obtain⟨aN,fs,rfl,_⟩:=fb.form;obtain⟨qi,uP,rfl,_⟩:=AU.form;have z3:=ah.size;have z4:=aq.size;clear fb AU;refine J ?_;intro bh Iy jt av bI;have z5:=av.size;have tE:=(bG.ext aq).ext av;refine J ?_;refine _U tE (im bI) ((eL.ext aw av z4).own bG z3) rfl (by simp[Value.oneCell']) Ad (by unfold maxLen;omega) Ad λbU bq sC iF=>?_;have aD:=tE.kG ((ah.trans aq).trans av) iF (EC _);refine J ?_;exact⟨cb,aK,_,⟨rfl,trivial⟩,_,gL.snoc Qm,sC,aD⟩
def asI(cs:C_ B_)(m:o.Model)(w:A_)(h:o.dj w cs m)(aG:m.cv)(ch:o.uF m) :
  Du F.Mx #[.agg cs.toArray] w λv w'=>(∃L base,o.l6 m (o.refs m).length L/\w.heap.size<=base/\base<=w'.heap.size/\eV zD T.acS 2 base w' v L)/\Ext w w':=by
 have b4:=h;obtain⟨b0,bz,bO,c1,bT,c2,bV,bu,b1,bB,rfl,_⟩:=h.form;have hR:=o.qo ch;refine bl E.Mx ?_;refine J ?_;intro w1 bx cN ag al;have fQ:=ag.size;refine J ?_;refine L_ 4 (o.refs m).length [1] (λu:B_=>[(3,u)]) (.slice none 0 0) (λk u W => ∃L,o.l6 m k L/\eV zD T.acS 2 w1.heap.size W u L/\Ext w1 W) a6 a6 ⟨[],o.l6.nil m,eV.nil _ _ _ _ _,Ext.refl _⟩ ?_;rintro k u S aA hk ⟨L,gL,bG,ai⟩;have aH:=ag.trans ai;have h5:=ai.obj al;have Qr:=gL.len;obtain⟨sY,nU,rfl,_⟩:=bG.form;refine J ?_;refine J_ (Bs _ m aA (b4.ext aH) aG ch) ?_;rintro vr aM ⟨fD,ah⟩;obtain⟨e9,mJ,rfl,_⟩:=fD.form;replace h5:=ah.obj h5;have fr:=ai.trans ah;have aR:=aH.trans ah;have Qj:=bG.ext ah;clear fD;refine J ?_;apply I_<;>intro g1;rotate_left
 .have gS:k=(o.refs m).length:=Ad
  rw[gS] at gL;refine J ?_;exact⟨⟨L,_,gL,fQ,fr.size,Qj⟩,aR⟩
 have cb:k<(o.refs m).length:=Ad
 refine J ?_;refine J_ (adV _ m k aM (b4.ext aR) aG) ?_;rintro _ aU ⟨⟨va,iJ,a,b,rfl,fb,AU,Qm⟩,aq⟩;have aw:=((MG fb).and (MG AU)).imp (q:=λW=>zD W [va,iJ] (a,b)) λW h=>⟨va,iJ,rfl,h.1,h.2⟩;obtain⟨aN,fs,rfl,_⟩:=fb.form;obtain⟨qi,uP,rfl,_⟩:=AU.form;have z3:=fr.size;have z4:=aq.size;clear fb AU;refine J ?_;intro bh Iy jt av bI;have z5:=av.size;have tE:=(Qj.ext aq).ext av;refine J ?_;refine _U tE (im bI) ((eL.ext aw av z4).own Qj z3) rfl (by simp[Value.oneCell']) Ad (by unfold maxLen;omega) Ad λbU bq sC iF=>?_;have aD:=tE.kG ((fr.trans aq).trans av) iF (EC _);refine J ?_;exact⟨cb,aK,_,⟨rfl,trivial⟩,_,gL.snoc Qm,sC,aD⟩
end Go.Proofs.R
namespace o
open Go
def Ou(s:Scope)(x:Node):Prop:=x.op=3->∃v,s.vars[x.n.toNat]? = some v/\v.over≠0
def ao6{s:Scope}{x:Node}{top:Int}(h:(jy x s top).2=0):Ou s x:=by
 intro aR;unfold jy at h;rw[if_neg Ad,if_pos Ad] at h;simp only at h;by_cases au:(gz (if x.op=4 then s.locals else s.vars) x.n s).2.2=false
 .rw[if_pos au] at h;cases h
 rw[if_neg au] at h;obtain⟨v,cK,cV,fo,hC,vt,Ds⟩:=acA (by simpa using au);obtain⟨bO,bT,bV⟩:=acr Ds;rw[hC] at h;simp only at h;by_cases ab:(x.op=3/\((hD v.over s).1=0\/top≠(hD v.over s).1))\/(x.op≠3/\(hD v.over s).1≠0)
 .rw[if_pos ab] at h;cases h
 .refine⟨v,?_,λad=>ab (.inl ⟨aR,.inl ?_⟩)⟩
  .rw[if_neg Ad] at cV;exact cV
  .rw[bV,if_pos ad]
def aoF{e:C_ Node}{s:Scope}(h:(kind e s).2=0):∀k (hk:k<e.length),Ou s e[k]:=by
 unfold kind mY at h;by_cases h1:e.length > 24
 .rw[if_pos h1] at h;cases h
 rw[if_neg h1] at h;by_cases I:e.length=0
 .exact λk hk=>Ad
 rw[if_neg I] at h;by_cases ab:(gm (fX s) e []).1≠0
 .rw[if_pos ab] at h;exact absurd h ab
 have ab:(gm (fX s) e []).1=0:=by simpa using ab
 intro k hk;have sN:∀j,(gm (fX s) (e.take j) []).1=0:=λj=>Classical.byContradiction λaw=>by
  have:=TR (f:=fX s) (e:=e) (k:=j) rfl aw
  rw[this] at ab;exact aw ab
 have hS:gm (fX s) (e.take k) []=(0,(gm (fX s) (e.take k) []).2):=Prod.ext (sN k) rfl;have aC:=DQ hk hS;have a1:=sN (k+1);rw[aC] at a1;unfold stepG at a1;by_cases c5:fO e[k].op<0
 .rw[if_pos c5] at a1;cases a1
 rw[if_neg c5] at a1;by_cases dA:((gm (fX s) (e.take k) []).2.length:Int)<fO e[k].op
 .rw[if_pos dA] at a1;cases a1
 rw[if_neg dA] at a1;by_cases ea:(fX s e[k] (gm (fX s) (e.take k) []).2).2≠0
 .rw[if_pos ea] at a1;exact absurd a1 ea
 have ea:(fX s e[k] (gm (fX s) (e.take k) []).2).2=0:=by simpa using ea
 by_cases aQ:zd e[k].op=false
 .unfold fX at ea;rw[Ta aQ] at ea;exact ao6 ea
 .intro aR;simp only[zd,decide_eq_false_iff_not] at aQ;omega
def aq9{m:Model}(h:(check m).cJ=0){j:Nat}(az:j<m.props.length):(kind m.props[j].expr (ev m)).2=0:=by
 obtain⟨_,_,ab⟩:=Pd h;have dp:=MQ ab j az;rw[Fe az] at dp;refine Classical.byContradiction λaw=>?_
 repeat' split at dp
 all_goals first | omega | (exact absurd dp aw) | skip
 all_goals contradiction
def abQ{m:Model}{q:Nat}(h:q<(insts m).length):cU m q+1<=di m:=by
 obtain⟨p,ar⟩:=A7 h
 have:=ar.room
 omega
def D5{m:Model}{v:Nat}(h:v<m.vars.length):fY m v+lu m v<=di m:=by
 have:=sb h
 rw[q8 h]
 have:=nq m
 omega
def X6{m:Model}{c:Nat}(h:c<m.ax.length):b7 m c+(1+gF m c)<=di m:=by
 have:=wv h
 rw[oL h]
 have:=nq m
 omega
structure v8(m:Model)(x:Node):Prop where
 node:BY (ev m) x
 over:Ou (ev m) x
def v8.var{m:Model}(aL:ey m){x:Node}(h:v8 m x)(e:x.op=2):∃aw:x.n.toNat<m.vars.length,0<=x.n/\lu m x.n.toNat=1:=by
 obtain⟨ad,v,aF,iw⟩:=h.node.var e;have dO:m.vars[x.n.toNat]? = some v:=aF;obtain⟨h1,I⟩:=List.getElem?_eq_some_iff.1 dO;refine⟨h1,ad,?_⟩;rw[q8 h1,I];unfold cells;rw[if_pos iw];rfl
theorem v8.item{m:Model}(aL:ey m){x:Node}(h:v8 m x)(e:x.op=3):∃aw:x.n.toNat<m.vars.length,0<=x.n/\∃aQ:((m.vars[x.n.toNat]).over - 1).toNat<m.scalars.length,1<=(m.vars[x.n.toNat]).over/\(m.scalars[((m.vars[x.n.toNat]).over - 1).toNat]).size=(lu m x.n.toNat:Nat)/\lu m x.n.toNat<=4:=by
 obtain⟨ad,_⟩:=h.node.item e;obtain⟨v,aF,iw⟩:=h.over e;have dO:m.vars[x.n.toNat]? = some v:=aF;obtain⟨h1,I⟩:=List.getElem?_eq_some_iff.1 dO;have c8:=aL.var _ (ED h1);have aj:size (m.vars[x.n.toNat]).over m.scalars≠0:=by
  rcases c8.ei with q | q
  .rw[I] at q;exact absurd q iw
  .exact q
 have an:cells (m.vars[x.n.toNat]) m.scalars=size (m.vars[x.n.toNat]).over m.scalars:=by
  unfold cells;rw[if_neg (by rw[I];exact iw)]
 refine⟨h1,ad,?_⟩;rw[q8 h1,an];unfold size at aj ⊢;cases hk:m.scalars[((m.vars[x.n.toNat]).over - 1).toNat]? with
 | none=>rw[hk] at aj;exact absurd rfl aj
 | some y =>
  rw[hk] at aj;simp only at aj ⊢;obtain⟨g1,g2⟩:=List.getElem?_eq_some_iff.1 hk;by_cases q:1<=(m.vars[x.n.toNat]).over/\1<=y.size/\y.size<=4
  .rw[if_pos q];refine⟨g1,q.1,?_,?_⟩
   .rw[g2];omega
   .omega
  .rw[if_neg q] at aj;exact absurd rfl aj
def adE{m:Model}(h:(check m).cJ=0){j:Nat}(az:j<m.props.length){x:Node}(af:x∈m.props[j].expr):v8 m x:=by
 obtain⟨k,hk,rfl⟩:=List.mem_iff_getElem.1 af;exact⟨((To h az).node k hk).1,aoF (aq9 h az) k hk⟩
def v8.lt{m:Model}(aL:ey m){x:Node}(h:v8 m x):∀z∈ef m 0 false x,0<=z/\z<di m:=by
 intro z bA;unfold ef at bA;by_cases I:x.op=2
 .rw[if_pos I] at bA;obtain⟨aw,_,aE⟩:=h.var aL I
  have:=D5 aw
  have:=qq.1 bA
  omega
 rw[if_neg I] at bA;by_cases ab:x.op=3
 .rw[if_pos ab] at bA;obtain⟨aw,_⟩:=h.item aL ab
  have:=D5 aw
  unfold mm at bA;rw[if_neg CC] at bA
  have:=qq.1 bA
  omega
 rw[if_neg ab] at bA;by_cases aC:x.op=4
 .obtain⟨_,a1⟩:=h.node.loc aC
  have:(ev m).locals=[]:=rfl
  rw[this] at a1;cases a1
 rw[if_neg aC] at bA;by_cases bJ:x.op=6
 .rw[if_pos bJ] at bA;have an:x.n.toNat<m.ax.length:=(h.node.len bJ).2
  have:=X6 an
  have:=qq.1 bA
  omega
 rw[if_neg bJ] at bA;by_cases cr:x.op=7
 .rw[if_pos cr] at bA;unfold nN at bA;obtain⟨j,az,bA⟩:=List.mem_flatMap.1 bA;split at bA
  .have:=abQ (m:=m) (List.mem_range.1 az)
   have:=qq.1 bA
   omega
  .cases bA
 .rw[if_neg cr] at bA;cases bA
def Aj(x:Nat×Nat):C_ B_:=[.slice (some ⟨x.1,0,none⟩) x.2 x.2]
def qV(m:Model)(bs:C_ Nat):C_ (Nat×Nat):=bs.zip (m.procs.map λp=>p.cm.toNat)
theorem yT{m:Model}{bs:C_ Nat}(h:bs.length<=m.procs.length):(qV m bs).length=bs.length:=by simp[qV];omega
def F4{m:Model}{bs:C_ Nat}{k:Nat}(h:k<bs.length)(ar:k<m.procs.length):(qV m bs)[k]? = some (bs[k],m.procs[k].cm.toNat):=by
 simp[qV,List.getElem?_zip_eq_some,h,ar]
def amx{m:Model}{bs:C_ Nat}{b:Nat}(ar:bs.length<m.procs.length):qV m (bs++[b])=qV m bs++[(b,m.procs[bs.length].cm.toNat)]:=by
 apply List.ext_getElem?;intro i;by_cases h1:i<bs.length
 .rw[F4 (by simp;omega) Ad,List.getElem?_append_left (by rw[yT Ad];exact h1),F4 h1 Ad];simp[List.getElem_append_left h1]
 .by_cases I:i=bs.length
  .subst I;rw[F4 CC ar,List.getElem?_append_right (by rw[yT Ad];exact EC _),yT Ad];simp
  .rw[List.getElem?_eq_none (by rw[yT (by simp;omega)];simp;omega),List.getElem?_eq_none (by rw[MD,yT Ad];simp;omega)]
end o
namespace Go.Proofs.R
open Go Go.RowKit a8
structure ox(m:o.Model)(base:Nat)(bs:List Nat)(nS:Nat->List Int)(v:Value)(W:World):Prop where
 row:aJ o.Aj T.b 1 base W v (o.qV m bs)
 low:∀b∈bs,base<=b
 nodup:bs.Nodup
 cy:∀p (h:p<bs.length),W.heap[bs[p]]? = some (.cells (oh (nS p)).toArray T.a)
theorem ox.ext{m:o.Model}{base:Nat}{bs:C_ Nat}{nS:Nat->C_ Int}{v:B_}{w w':A_}(h:ox m base bs nS v w)(he:Ext w w'):ox m base bs nS v w' :=
 ⟨h.row.ext he,h.low,h.nodup,λp ar=>he.obj (h.cy p ar)⟩
def ox.mod{m:o.Model}{base:Nat}{bs:C_ Nat}{nS:Nat->C_ Int}{v:B_}{w w':A_}{A:Nat->Prop}(h:ox m base bs nS v w)(hm:Mod A w w')(dd:∀k,A k->k<base):ox m base bs nS v w' :=
 ⟨h.row.mod hm λk hk a=>by have:=(h.row.lt k hk).1;have:=dd k a;omega,h.low,h.nodup,λp ar=>hm.obj (λa=>by have:=h.low _ (ED ar);have:=dd _ a;omega) (h.cy p ar)⟩
def apV{l:C_ Nat}(h:l.Nodup){i j:Nat}(U:i<l.length)(az:j<l.length)(e:l[i]=l[j]):i=j:=by
 rcases Nat.lt_trichotomy i j with h1 | h1 | h1
 .exact absurd e (List.pairwise_iff_getElem.1 h i j U az h1)
 .exact h1
 .exact absurd e.symm (List.pairwise_iff_getElem.1 h j i az U h1)
def aiZ(x:Nat×Nat):∀u∈o.Aj x,u.oneCell'=true:=by simp[o.Aj,Value.oneCell']
def ox.step{m:o.Model}{base:Nat}{bs:C_ Nat}{nS Ph:Nat->C_ Int}{v:B_}{w w':A_}{q:Nat}(h:ox m base bs nS v w)(au:q<bs.length)(hw:du bs[q] w w')(an:w'.heap[bs[q]]? = some (.cells (oh (Ph q)).toArray T.a))
  (aj:∀p,p<bs.length->p≠q->Ph p=nS p):ox m base bs Ph v w':=by
 refine⟨h.row.mod (hw.mod (A:=λi=>i=bs[q]) rfl) λk hk e=>?_,h.low,h.nodup,λp ar=>?_⟩
 .obtain⟨cur,h1⟩:=h.row.cy k hk;have I:=h.cy q au;rw[e,I] at h1;injection h1 with h1
  injection h1 with _ h1
  revert h1;decide
 .by_cases e:p=q
  .subst e;exact an
  .rw[aj p ar e];exact hw.obj (h.cy p ar) λaH=>e (apV h.nodup ar au aH)
def ox.snoc{m:o.Model}{base:Nat}{bs:C_ Nat}{nS:Nat->C_ Int}{v bU:B_}{w w':A_}{b:Nat}(h:ox m base bs nS v w)(hk:bs.length<m.procs.length)(kM:aJ o.Aj T.b 1 base w' bU (o.qV m bs++[(b,m.procs[bs.length].cm.toNat)]))
  (aG:w.grownBy w' v.ownBlock)(ak:base<=b)(anh:∀p (ar:p<bs.length),bs[p]≠b)(an:w.heap[b]? = some (.cells (oh (nS bs.length)).toArray T.a)):ox m base (bs++[b]) nS bU w':=by
 refine⟨by rw[o.amx hk];exact kM,λx af=>?_,?_,λp ar=>?_⟩
 .rcases List.mem_append.1 af with af | af
  .exact h.low x af
  .rw[AF2] at af;omega
 .rw[AK1];refine⟨h.nodup,CC,λa aY c an e=>?_⟩;rw[AF2] at an;obtain⟨p,ar,rfl⟩:=List.mem_iff_getElem.1 aY;exact anh p ar (by rw[e,an])
 .by_cases xa:p<bs.length
  .rw[AI4 xa];exact h.row.box aG (h.cy p xa) By
  .have e:p=bs.length:=by simp at ar;omega
   subst e;rw[AI5 (EC _)];simpa using h.row.box aG an By
def ox.apY{m:o.Model}{base:Nat}{bs:C_ Nat}{nS:Nat->C_ Int}{v:B_}{W:A_}{L:C_ (C_ Int)}(h:ox m base bs nS v W)(ak:bs.length=m.procs.length)(ch:L.length=m.procs.length)
  (aE:∀p (ar:p<m.procs.length),(nS p).length=m.procs[p].cm.toNat/\m.procs[p].cm.toNat<=12)(an:∀p,p<m.procs.length->L[p]? = some (nS p)):yb W v L:=by
 obtain⟨aN,cap,rfl,h1,I,ab,aC⟩:=(aJ.jN (enc:=o.Aj) (sz:=1) (λ_=>rfl) h.row).ex;have cR:=o.yT (m:=m) (bs:=bs) Ad;refine⟨aN,cap,by rw[cR,ak,ch],Ad,I,λaw=>ab (by intro e;rw[e] at cR;simp at cR;exact aw (AF7 Ad)),λa aY i U=>?_⟩;have cw:i<m.procs.length:=Ad
 have aG:=o.F4 (m:=m) (bs:=bs) (k:=i) Ad cw;obtain⟨cu,Ra⟩:=List.getElem?_eq_some_iff.1 aG;have gM:=aC a aY i cu 0 _ (show(o.Aj (o.qV m bs)[i])[0]? = some _ from rfl);rw[Ra,add_zero] at gM;refine⟨_,gM,?_⟩;obtain⟨_,ak0⟩:=List.getElem?_eq_some_iff.1 (an i cw);rw[ak0];exact S6 (h.cy i Ad) (aE i cw).1.symm (by have:=aE i cw;unfold maxLen;omega)
end Go.Proofs.R
namespace a8
open Go Go.RowKit
def afP(_:A_)(cs:C_ B_)(x:Nat):Prop:=cs=uW x
instance awU:Rel (Flat uW) afP 1 where
 out h:=⟨_,h,rfl⟩
 oZ h k:=by cases k;exact h
 len h:=by cases h;rfl
 one h:=by cases h;exact aiY _
 ext _ h:=h
def mG(ae:C_ Bool):C_ B_:=ae.map Value.bool
def auO(n:Nat):se (Value.bool false).cells (n*1)=(mG (List.replicate n false)).toArray:=by
 apply Array.ext_getElem?;intro i;by_cases h:i<n
 .simp[se,mG,Value.cells,h,Nat.mod_one]
 .simp[se,mG,h]
def AA5{cL:B_->A_->Prop}{w:A_}{e:F_}{n:Int}{t}(N:Nat)(aw:n=N)(ak:N<=1000000)(hk:∀w1 b,w.heap.size<=b->Ext w w1->w1.heap[b]? = some (.cells (mG (List.replicate N false)).toArray e)->cL (.slice (some ⟨b,0,none⟩) N N) w1) :
  Eo e 1 1 (.bool false) (.I n) (.I n) w cL t:=by
 subst aw;refine _6 ⟨Ad,Ad,Ad,Ad⟩ ?_;have h:=hk (w.alloc (.cells (mG (List.replicate N false)).toArray e)) _ (EC _) ((Ext.refl w).alloc _) (heap_alloc_new w _);rw[AH1,auO];exact h
def AA6{b c:Nat}{ae:C_ Bool}{w:A_}{e:F_}{KW:A_->Prop}{t}(h:w.heap[b]? = some (.cells (mG ae).toArray e))(an:c<ae.length)
  (hk:∀w1,du b w w1->w1.heap[b]? = some (.cells (mG (ae.set c true)).toArray e)->KW w1):sl (.pointer (some (Addr.add ⟨b,0,none⟩ (c*1)))) (.bool true) w KW t:=by
 have aj:c<(mG ae).toArray.size:=by simp[mG];exact an
 rw[AG2];refine _1 (fM h (Array.getElem?_eq_getElem aj)) (by rw[add_eq];simp[World.frozen?,h]) rfl (hk _ ?_ ?_)
 .have:=du.setCell w (Addr.add ⟨b,0,none⟩ c) (.bool true)
  rwa[zU] at this
 .rw[Hr h aj];simp[mG,List.map_set]
end a8
namespace Go.Proofs.R
open Go Go.RowKit a8
structure nn(w:World)(bL b N:Nat)(L:List Int):Prop where
 box:w.heap[bL]? = some (.cells #[.slice (some ⟨b,0,none⟩) N N] T.gp)
 row:∃ae,w.heap[b]? = some (.cells (mG ae).toArray T.j)/\o.oE N L ae
def nn.ne{w:A_}{bL b N:Nat}{L:C_ Int}(h:nn w bL b N L):¬bL=b:=λe=>by
 obtain⟨ae,h1,_⟩:=h.row;subst e;have I:=h.box;rw[h1] at I;injection I with I
 injection I with _ I
 revert I;decide
theorem nn.ext{w w':A_}{bL b N:Nat}{L:C_ Int}(h:nn w bL b N L)(he:Ext w w'):nn w' bL b N L:=by
 obtain⟨ae,h1,I⟩:=h.row;exact⟨he.obj h.box,ae,he.obj h1,I⟩
def nn.other{w:A_}{bL b N k:Nat}{L:C_ Int}{cs:Array B_}{t:F_}(h:nn w bL b N L)(hk:w.heap[k]? = some (.cells cs t))(aB:t≠T.j):¬k=b:=λe=>by
 obtain⟨ae,h1,_⟩:=h.row;subst e;rw[h1] at hk;injection hk with hk
 injection hk with _ hk
 exact aB hk.symm
def nn.congr{w:A_}{bL b N:Nat}{L nI:C_ Int}(h:nn w bL b N L)(e:∀x,x∈L↔x∈nI):nn w bL b N nI:=by
 obtain⟨ae,h1,I⟩:=h.row;exact⟨h.box,ae,h1,I.congr e⟩
def M8(c bL b N:Nat)(L:C_ Int)(x:Int)(w:A_)(h:nn w bL b N L)(af:x=c)(an:c<N)(fj:N<=1000000) :
  Du F.a2 #[.I x,.pointer (some ⟨bL,0,none⟩)] w λ_ w'=>nn w' bL b N (L++o.gB c 1)/\Mod (λk=>k=b) w w':=by
 subst af;have ct:=h.ne;obtain⟨ae,h1,I⟩:=h.row;have oR:=h.box;have aE:=I.len;refine bl E.a2 ?_;refine J ?_;refine AA6 h1 Ad λw1 ix al=>?_;refine J ?_;refine⟨⟨ix.obj oR ct,_,al,?_⟩,ix.mod rfl⟩;rw[o.lY];exact I.put an
def aiR(x:o.Node)(cs ys:C_ B_)(bK:B_)(bL b:Nat)(L:C_ Int)(m:o.Model)(w0 w:A_)(h:o.dj w0 cs m)(ch:o.jk w0 ys (o.layout m))(aP:ik w0 bK (o.insts m))(he:Ext w0 w)(rN:w0.heap.size<=b)
  (b5:nn w bL b (o.di m) L)(aL:o.ey m)(af:o.v8 m x)(c8:x.ok) :
  Du F.d1 #[.agg cs.toArray,.agg ys.toArray,bK,.agg x.enc.toArray,.func (.func F.a2) #[] #[.pointer (some ⟨bL,0,none⟩)]] w λ_ w'=>nn w' bL b (o.di m) (L++o.ef m 0 false x)/\Mod (λk=>k=b) w w':=by
 have A5:=c8.op;have A4:=c8.n;unfold o.dX at A5 A4;obtain⟨eH,d0,dK,d1,eg,d2,eD,d3,eU,d4,rfl,ad,h1,I,ab,aC,eu,dz,dJ,dR,ee⟩:=h.form;obtain⟨b0,bz,bO,c1,bT,c2,bV,bu,b1,bB,rfl,dB,cP,cA,eI,fp⟩:=ch.form;obtain⟨b8,ci,rfl,_⟩:=aP.form;obtain⟨f5,f6,f8⟩:=o.pH m;have p8:o.di m<=64:=o.iG aL;refine bl E.d1 ?_;refine J ?_;intro w1 dF jt ag bI;refine J ?_;intro aA dC e5 ai bS;replace bI:=ai.obj bI;refine J ?_;intro aM jZ mc ah cD;replace bI:=ah.obj bI;replace bS:=ah.obj bS;have fr:=(ag.trans ai).trans ah;have zE:=he.trans fr;have yK:=b5.ext fr;have n5:=yK.other bI By;have n6:=yK.other bS By;have n8:=yK.other cD By;unfold o.Node.enc at cD;refine J ?_;apply I_<;>intro g2
 .obtain⟨aw,fh,aE⟩:=af.var aL g2;obtain⟨a0,rfl⟩:=dB.addr;have arz:=dB.ext Flat.ext zE;obtain⟨dP,gk⟩:=o.ri aw;have aS:=o.D5 aw;have gG:x.n=(x.n.toNat:Nat):=Ad
  rw[gG] at cD;have aH:o.ef m 0 false x=o.gB (o.fY m x.n.toNat) 1:=by unfold o.ef;rw[if_pos g2]
  rw[aH];refine J ?_;refine V_ (first:=[]) (cap:=[.pointer (some ⟨bL,0,none⟩)]) Ci (M8 (o.fY m x.n.toNat) bL b _ L _ aM yK (by rw[gk]) Ad Ad) ?_;rintro _ aU ⟨kN,j6⟩;refine J ?_;exact⟨kN,fr.mod.trans j6⟩
 refine J ?_;apply I_<;>intro g3
 .obtain⟨aw,fh,anu,kL,dq,awl⟩:=af.item aL g3;obtain⟨a0,rfl⟩:=dB.addr;obtain⟨au5,rfl⟩:=ad.addr;obtain⟨ago,rfl⟩:=h1.addr;obtain⟨dP,gk⟩:=o.ri aw;have aS:=o.D5 aw;have gG:x.n=(x.n.toNat:Nat):=Ad
  have aR:o.ef m 0 false x=o.gB (o.fY m x.n.toNat) (o.lu m x.n.toNat):=by
   unfold o.ef o.mm;rw[if_neg g2,if_pos g3,if_neg CC]
  rw[gG] at cD;rw[aR];refine J ?_;refine K_ _ Ad anu ?_;refine J ?_;intro aU aq;have ec:=zE.trans aq;have FB:=yK.ext aq;have tH:=aq.obj bS;have QJ:=aq.obj cD;clear bS cD bI;refine J ?_;refine L_ 40 (o.lu m x.n.toNat) [4,6,8,39] (λ_:Unit=>[]) () (λk _ W=>nn W bL b (o.di m) (L++o.gB (o.fY m x.n.toNat) k)/\Mod (λk=>k=b) aU W) a6 a6 ⟨by rw[o.aek,SN];exact FB,Mod.refl _ _⟩ ?_;rintro k _ S bh hk ⟨oQ,lQ⟩;have bS:=lQ.obj n6 tH;have cD:=lQ.obj n8 QJ;have Br:=dB.ext Flat.ext (lQ.ext ec λi U e=>Ad);refine J ?_;apply I_<;>intro g4
  .refine J ?_;refine V_ (first:=[]) (cap:=[.pointer (some ⟨bL,0,none⟩)]) Ci (M8 (o.fY m x.n.toNat+k) bL b _ _ _ bh oQ (by rw[gk];omega) Ad Ad) ?_;rintro _ bq ⟨Dn,iX⟩;refine J ?_;refine⟨Ad,aK,(),trivial,?_,lQ.trans iX⟩;rw[o.lY] at Dn;rw[o.adJ];exact Dn
  .have gS:k=o.lu m x.n.toNat:=Ad
   rw[gS] at oQ;refine J ?_;exact⟨oQ,(fr.mod.trans aq.mod).trans lQ⟩
 refine J ?_;apply I_<;>intro g6
 .obtain⟨fh,dO⟩:=af.node.len g6;have dE:x.n.toNat<m.ax.length:=dO;obtain⟨db,rfl⟩:=cP.addr;have arA:=cP.ext Flat.ext zE;obtain⟨iV,eB⟩:=o.p1 dE;have aS:=o.X6 dE;have gG:x.n=(x.n.toNat:Nat):=Ad
  rw[gG] at cD;have b6:o.ef m 0 false x=o.gB (o.b7 m x.n.toNat) 1:=by
   unfold o.ef;rw[if_neg g2,if_neg g3,if_neg Ad,if_pos g6]
  rw[b6];refine J ?_;refine V_ (first:=[]) (cap:=[.pointer (some ⟨bL,0,none⟩)]) Ci (M8 (o.b7 m x.n.toNat) bL b _ L _ aM yK (by rw[eB]) Ad Ad) ?_;rintro _ aU ⟨kN,j6⟩;refine J ?_;exact⟨kN,fr.mod.trans j6⟩
 refine J ?_;apply I_<;>intro g7;rotate_left
 .have eN:o.ef m 0 false x=[]:=by
   unfold o.ef;by_cases g4:x.op=4
   .have:=(af.node.loc g4).2
    have e:(o.ev m).locals=[]:=rfl;rw[e] at this;cases this
   rw[if_neg g2,if_neg g3,if_neg g4,if_neg g6,if_neg g7]
  rw[eN,SN];refine J ?_;exact⟨yK,fr.mod⟩
 have cM:o.ef m 0 false x=o.nN m (x.n.tdiv 16) (o.insts m).length:=by unfold o.ef;rw[if_neg g2,if_neg g3,if_neg Ad,if_neg g6,if_pos g7]
 rw[cM];obtain⟨fh,vk⟩:=af.node.at_ g7;have RD:(x.n.tdiv 16).toNat<m.procs.length:=vk;have RH:=AK4 fh (show(0:Int)<=16 by omega);have RF:=aL.procs;have abv : -9223372036854775808<=x.n.tdiv 16/\x.n.tdiv 16<=9223372036854775807:=Ad
 have gf:=o.xk aL;have p4:∀{W},Mod (λk=>k=b) aM W->Ext w0 W:=λhm=>hm.ext zE λk hk e=>Ad
 have tH:=bS;have QJ:=cD;clear bS cD bI;refine J ?_;refine L_ 68 (o.insts m).length [2,4,6,8,66,67] (λ_:Unit=>[]) () (λk _ W=>Mod (λi=>i=b) aM W/\nn W bL b (o.di m) (L++o.nN m (x.n.tdiv 16) k)) a6 a6 ⟨Mod.refl _ _,by simpa[o.nN] using yK⟩ ?_;rintro k _ S aU hk ⟨j6,FB⟩;have bS:=j6.obj n6 tH;have cD:=j6.obj n8 QJ;have yI:=aP.ext Flat.ext (p4 j6);refine J ?_;apply I_<;>intro g1
 .have cb:k<(o.insts m).length:=Ad
  obtain⟨gp,rfl⟩:=aP.addr;obtain⟨sG,iv⟩:=o.oe cb;have ve:=o.abQ cb;obtain⟨a2,rfl⟩:=cA.addr;have xI:=cA.ext Flat.ext (p4 j6);refine J ?_;intro wn Ce tF e8 eC;refine J ?_;intro bh eY h5;have av:Ext aU bh:=eY.ext e8 tF;replace bS:=av.obj bS;replace cD:=av.obj cD;replace xI:=xI.ext Flat.ext av;have oQ:=FB.ext av;have lQ:=j6.trans av.mod;clear FB yI;refine J ?_;refine _C Ad ?_;refine J ?_;apply I_<;>intro g2
  .refine J ?_;refine V_ (first:=[]) (cap:=[.pointer (some ⟨bL,0,none⟩)]) Ci (M8 (o.cU m k) bL b _ _ _ bh oQ (by rw[iv]) Ad Ad) ?_;rintro _ bq ⟨Dn,iX⟩;refine J ?_;refine⟨cb,aK,(),trivial,lQ.trans iX,?_⟩;rw[o.zX cb,if_pos g2,<-MV];exact Dn
  .refine J ?_;refine⟨cb,aK,(),trivial,lQ,?_⟩;rw[o.zX cb,if_neg g2,SN];exact oQ
 .have gS:(o.insts m).length=k:=Ad
  rw[gS];refine J ?_;exact⟨FB,fr.mod.trans j6⟩
end Go.Proofs.R
namespace o
open Go
def oo(x y:Node):Prop:=x.op<y.op\/(x.op=y.op/\x.n<y.n)
def DD(x y:Node):Int:=if x.op=y.op/\x.n=y.n then 0 else if x.op<y.op\/(x.op=y.op/\x.n<y.n) then -1 else 1
def adf{x y:Node}(h1:x.op=y.op)(I:x.n=y.n):x=y:=by cases x;cases y;simp_all
def apQ(x:Node):¬oo x x:=by unfold oo;omega
def apR(x y z:Node)(h:oo x y)(k:oo y z):oo x z:=by unfold oo at *;omega
def MH(x y:Node):DD x y<0↔oo x y:=by
 unfold DD oo;split
 .omega
 .split<;>omega
def uw (op:Int):Bool:=decide (op=2\/op=3\/op=4\/op=6\/op=7)
structure Ip(e r:List Node):Prop where
 lz:r.Pairwise oo
 mem:∀x,x∈r↔x∈e/\uw x.op=true
def comp:C_ Node->C_ Node
 | []=>[]
 | [x]=>[x]
 | x :: y :: r=>if x.op=y.op/\x.n=y.n then comp (y :: r) else x :: comp (y :: r)
theorem Pn:∀(l:C_ Node) (x:Node),x∈comp l↔x∈l
 | [],x=>Iff.rfl
 | [y],x=>Iff.rfl
 | y :: z :: r,x=>by
  unfold comp;have fm:=Pn (z :: r) x;split
  .rename_i h
   have:y=z:=adf h.1 h.2
   subst this;rw[fm];simp
  .rw[AJ4,fm,AJ4 (b:=y)]
theorem Yp:∀(l:C_ Node),l.Pairwise (λx y => ¬oo y x)->(comp l).Pairwise oo
 | [],_=>List.Pairwise.nil
 | [y],_=>by unfold comp;simp
 | y :: z :: r,h=>by
  unfold comp;rw[AI0] at h;have fm:=Yp (z :: r) h.2;split
  .exact fm
  .rename_i ct;rw[AI0];refine⟨λx af=>?_,fm⟩;rw[Pn] at af;have awG:=h.1 z (AG5 ..);have cu:oo y z:=by unfold oo at *;omega
   rcases List.mem_cons.1 af with e | e
   .rw[e];exact cu
   .have I:=h.2;rw[AI0] at I
    have:=I.1 x e
    unfold oo at *;omega
structure auW(l:List Int)(n:Int)(r:List Int):Prop where
 lz:r.Pairwise (· < ·)
 mem:∀x,x∈r↔x∈l\/x=n
 len:r.length<=l.length+1
structure auX(e:List Node)(op:Int)(l:List Int):Prop where
 lz:l.Pairwise (· < ·)
 mem:∀n,n∈l↔∃x∈e,x.op=op/\x.n=n
 len:l.length<=e.length
def opsL:C_ Int:=[2,3,4,6,7]
structure au3(e:List Node)(k:Nat)(r:List Node):Prop where
 lz:r.Pairwise oo
 mem:∀x,x∈r↔x∈e/\x.op∈opsL.take k
 len:r.length<=k*e.length
theorem Po:∀(l:C_ Node) (x y:Node),comp (l++[x,y])=if x.op=y.op/\x.n=y.n then comp (l++[x]) else comp (l++[x])++[y]
 | [],x,y=>by
  by_cases h:x.op=y.op/\x.n=y.n
  .have:x=y:=adf h.1 h.2
   subst this;simp[comp]
  .simp[comp,h]
 | [a],x,y=>by
  have fm:=Po [] x y;simp only[List.nil_append,List.cons_append] at fm ⊢;unfold comp;rw[fm];by_cases h:a.op=x.op/\a.n=x.n
  .simp only[if_pos h]
  .simp only[if_neg h];by_cases I:x.op=y.op/\x.n=y.n
   .simp[I,comp]
   .simp[I,comp]
 | a :: b :: l,x,y=>by
  have fm:=Po (b :: l) x y;simp only[List.cons_append] at fm ⊢;unfold comp;rw[fm];by_cases h:a.op=b.op/\a.n=b.n
  .simp only[if_pos h]
  .simp only[if_neg h];by_cases I:x.op=y.op/\x.n=y.n
   .simp only[if_pos I]
   .simp only[if_neg I,List.cons_append]
def Pp{l:C_ Node}{n:Nat}(h1:1<=n)(I:n<l.length):comp (l.take (n+1))=if l[n - 1].op=l[n].op/\l[n - 1].n=l[n].n then comp (l.take n) else comp (l.take n)++[l[n]]:=by
 obtain⟨k,rfl⟩:∃k,n=k+1:=⟨n - 1,Ad⟩;have bF:l.take (k+1)=l.take k++[l[k]]:=Iu Ad;have aH:l.take (k+1+1)=l.take k++[l[k],l[k+1]]:=by rw[Iu I,bF,MV];rfl
 rw[aH,Po,bF];rfl
theorem Pm:∀l:C_ Node,(comp l).length<=l.length
 | []=>EC _
 | [x]=>EC _
 | x :: y :: r=>by
  have:=Pm (y :: r)
  unfold comp;split
  .simp only[List.length_cons] at this ⊢;omega
  .simp only[List.length_cons] at this ⊢;omega
theorem Yo{l:C_ Node}(h:l.length<2):comp l=l:=by
 match l,h with
 | [],_=>rfl
 | [x],_=>rfl
 | x :: y :: r,h=>simp at h;omega
def aiq{l:C_ Node}:comp (l.take 1)=l.take 1:=Yo (by rw[Hs];omega)
end o
namespace a8
open Go Go.RowKit
theorem TW:∀(cs:C_ B_) (w:A_) (b ae i:Nat) (cur:Array B_) (e:F_),w.heap[b]? = some (.cells cur e)->ae+i+cs.length<=cur.size ->
  ∃ma,(iA w ⟨b,ae,none⟩ cs i).heap[b]? = some (.cells ma e)/\ma.size=cur.size/\(∀j,j<ae+i\/ae+i+cs.length<=j->ma[j]? = cur[j]?)/\∀j (h:j<cs.length),ma[ae+i+j]? = some cs[j]
 | [],w,b,ae,i,cur,e,ak,_=>⟨cur,ak,rfl,λ_ _=>rfl,λj h=>absurd h (HI _)⟩
 | c :: cs,w,b,ae,i,cur,e,ak,aE=>by
  have az:ae+i<cur.size:=by simp at aE;omega
  have h1:=Hr ak az c;have kZ:Addr.add ⟨b,0,none⟩ (ae+i)=Addr.add ⟨b,ae,none⟩ i:=by rw[add_eq,add_eq,SO]
  rw[kZ] at h1;obtain⟨ma,cK,cV,fo,hC⟩:=TW cs _ b ae (i+1) _ e h1 (by simp at aE ⊢;omega);refine⟨ma,cK,by simpa using cV,λj ju=>?_,λj h=>?_⟩
  .rw[fo j (by simp at ju ⊢;omega),Array.getElem?_set_ne _ (by simp at ju;omega)]
  .cases j with
   | zero =>
    rw[AJ1,fo (ae+i) Ad,Array.getElem?_set_self];rfl
   | succ j =>
    have:=hC j (by simpa using h)
    rw[show ae+i+(j+1)=ae+(i+1)+j from Ad,this];rfl
end a8
namespace Go.Proofs.R
open Go Go.RowKit a8
def EY{w:A_}{b j:Nat}{c:Array B_}{t:F_}{v:B_}(h:w.heap[b]? = some (.cells c t))(az:c[j]? = some v):w.cell? ⟨b,j,none⟩=some v:=by
 simp[World.cell?,h,az]
structure hz(w:World)(b:Nat)(l:List o.Node):Prop where
 ex:∃cur,w.heap[b]? = some (.cells cur T.e)/\2*l.length<=cur.size/\∀i (h:i<l.length),cur[2*i]? = some (.int .i64 l[i].op)/\cur[2*i+1]? = some (.int .i64 l[i].n)
def hz.mod{w w':A_}{b:Nat}{l:C_ o.Node}{A:Nat->Prop}(h:hz w b l)(hm:Mod A w w')(dd:¬A b):hz w' b l:=by
 obtain⟨cur,h1,I,ab⟩:=h.ex;exact⟨cur,hm.obj dd h1,I,ab⟩
theorem hz.ext{w w':A_}{b:Nat}{l:C_ o.Node}(h:hz w b l)(he:Ext w w'):hz w' b l:=by
 obtain⟨cur,h1,I,ab⟩:=h.ex;exact⟨cur,he.obj h1,I,ab⟩
theorem hz.at_{w:A_}{b:Nat}{l:C_ o.Node}(h:hz w b l){i:Nat}(U:i<l.length):fc w ⟨b,2*i,none⟩ l[i].enc:=by
 obtain⟨cur,h1,I,ab⟩:=h.ex;have e:(⟨b,2*i,none⟩:Addr)=Addr.add ⟨b,0,none⟩ (2*i):=by rw[add_eq,SO]
 intro j v az;obtain⟨cK,cV⟩:=ab i U;rw[e,add_eq,add_eq,SO]
 match j,az with
 | 0,az =>
  have:v = .I l[i].op:=by simpa[o.Node.enc] using az.symm
  subst this;exact EY h1 cK
 | 1,az =>
  have:v = .I l[i].n:=by simpa[o.Node.enc] using az.symm
  subst this;exact EY h1 cV
 | n+2,az=>simp[o.Node.enc] at az
def hz.take{w:A_}{b:Nat}{l:C_ o.Node}(h:hz w b l)(k:Nat):hz w b (l.take k):=by
 obtain⟨cur,h1,I,ab⟩:=h.ex;refine⟨cur,h1,by rw[Hs];omega,λi U=>?_⟩;rw[Hs] at U
 have:=ab i Ad
 simpa using this
def hz.aeT{w:A_}{b c:Nat}{l:C_ o.Node}(h:hz w b l)(an:l.length<=c)(hm:c<=maxLen):bm 2 (Flat o.Node.enc) w (.slice (some ⟨b,0,none⟩) l.length c) l :=
 ⟨_,_,rfl,an,hm,λ_=>rfl,λa aY i U=>by
  injection aY with aY;subst aY
  have:=h.at_ U
  rw[show(⟨b,2*i,none⟩:Addr)=Addr.add ⟨b,0,none⟩ (i*2) from by rw[add_eq,SO,AH7]] at this;exact this⟩
def hz.set{w:A_}{b i:Nat}{l:C_ o.Node}(h:hz w b l)(U:i<l.length)(x:o.Node):hz (iA w ⟨b,2*i,none⟩ x.enc 0) b (l.set i x):=by
 obtain⟨cur,h1,I,ab⟩:=h.ex;obtain⟨ma,cK,cV,fo,hC⟩:=TW x.enc w b (2*i) 0 cur _ h1 (by simp[o.Node.enc];omega);refine⟨ma,cK,by rw[XK,cV];exact I,λj az=>?_⟩;rw[XK] at az;have a0:=hC 0 (by simp[o.Node.enc]);have db:=hC 1 (by simp[o.Node.enc]);by_cases e:i=j
 .subst e;rw[AK5];simp only[Nat.add_zero,o.Node.enc] at a0 db;exact⟨a0,db⟩
 .rw[List.getElem_set_ne e,fo _ (by simp[o.Node.enc];omega),fo _ (by simp[o.Node.enc];omega)];exact ab j az
def hz.cut{w:A_}{b k:Nat}{l:C_ o.Node}{zs:C_ B_}(h:hz w b l)(bA:2*k+zs.length<=2*l.length):hz (iA w ⟨b,2*k,none⟩ zs 0) b (l.take k):=by
 obtain⟨cur,h1,I,ab⟩:=h.ex;obtain⟨ma,cK,cV,fo,_⟩:=TW zs w b (2*k) 0 cur _ h1 Ad;refine⟨ma,cK,by rw[Hs,cV];omega,λj az=>?_⟩;rw[Hs] at az;rw[AI6,fo _ Ad,fo _ Ad];exact ab j Ad
theorem auM{P:D_}{ty:F_}{z:B_}(h:(P.info? ty).bind (·.zero)=some z)(w:A_):(zeroValue ty).run P w = .ok z w:=by
 cases U:P.info? ty with
 | none=>rw[U] at h;cases h
 | some i =>
  rw[U] at h;have I:i.zero=some z:=h;simp[zeroValue,uu U,I]
def apM(x:o.Node):∀c∈x.enc.toArray.toList,c.oneCell'=true:=by simp[o.Node.enc,Value.oneCell']
def hz.free{w:A_}{b:Nat}{l:C_ o.Node}(h:hz w b l){j:Nat}(az:j<2*l.length):(∃hF,w.cell? ⟨b,j,none⟩=some hF)/\w.frozen? ⟨b,j,none⟩=false:=by
 obtain⟨cur,h1,I,_⟩:=h.ex;exact⟨⟨cur[j]' Ad,EY h1 (Array.getElem?_eq_getElem Ad)⟩,by simp[World.frozen?,h1]⟩
def AD6{w:A_}{b i:Nat}{l:C_ o.Node}{x:o.Node}{a:Addr}{KW:A_->Prop}{t}(h:hz w b l)(aY:a=⟨b,2*i,none⟩)(U:i<l.length)(hk:∀w1,du b w w1->hz w1 b (l.set i x)->KW w1) :
  B6 2 (.pointer (some a)) (.agg x.enc.toArray) w KW t:=by
 subst aY;refine _5 rfl (λj az=>?_) (apM x) (hk _ (du.iA _ w ⟨b,2*i,none⟩ 0) (h.set U x));rw[add_eq];exact h.free Ad
theorem AD7{S:Fr}{w:A_}{b k n cap:Nat}{l:C_ o.Node}{x:G_}{aN:H_ Addr}{cL:B_->A_->Prop}{ty:F_}{t}(h:hz w b l)(af:bp S x = .slice aN n cap)(aw:k+n=l.length)(aY:0<n->aN=some ⟨b,2*k,none⟩)
  (hk:∀v w1,Mod (λi=>i=b) w w1->hz w1 b (l.take k)->cL v w1):uH Tryz.prog (.call ⟨.builtin .clear,#[x],#[T.t]⟩) ty S w cL t:=by
 have bA:∀w:A_,(zeroValue T.e).run Tryz.prog w = .ok (.agg #[.I 0,.I 0]) w:=auM Ci;have hu:Tryz.prog.underlying T.t=some (.slice T.e):=Ci
 cases n with
 | zero =>
  refine _F (v:=.tuple #[]) (w':=w) ?_ (hk _ _ (Mod.refl _ _) (h.take k));cases aN<;>simp[execOp,resolve,invoke,builtin,af,Builtin.clear_,run_underlying hu]
 | succ n =>
  obtain rfl:=aY Ad;refine _F (v:=.tuple #[]) (w':=iA w ⟨b,2*k,none⟩ (Builtin.zeroCells #[.I 0,.I 0] (n+1)).toList 0) ?_ (hk _ _ ((du.iA _ w ⟨b,2*k,none⟩ 0).mod rfl) (h.cut ?_))
  .have aj:=Hn Tryz.prog ⟨b,2*k,none⟩ (Builtin.zeroCells #[.I 0,.I 0] (n+1)).toList 0 w (λj az=>?_) ?_
   .simp[execOp,resolve,invoke,builtin,af,Builtin.clear_,run_underlying hu,bA,Value.cells,aj]
   .rw[add_eq];exact h.free (by simp[Builtin.zeroCells] at az;omega)
   .intro c an;simp only[Builtin.zeroCells,Array.toList_map,List.mem_map] at an;obtain⟨i,_,rfl⟩:=an;show((#[Value.int .i64 0,.I 0]:Array B_)[i % 2]!).oneCell'=true;rcases AL1 i with e | e<;>rw[e]<;>rfl
  .simp[Builtin.zeroCells];omega
def IS(x y:Int):sw [.i,.i] [.I x,.I y]:=⟨⟨_,rfl⟩,⟨_,rfl⟩,trivial⟩
def YW{x y:o.Node}:x.enc=y.enc↔x.op=y.op/\x.n=y.n:=by simp[o.Node.enc]
theorem ais(b c:Nat)(l:C_ o.Node)(w:A_)(h:hz w b l)(an:l.length<=c)(hm:c<=maxLen) :
  Du F.ae #[.slice (some ⟨b,0,none⟩) l.length c] w λv w'=>v = .slice (some ⟨b,0,none⟩) (o.comp l).length c/\hz w' b (o.comp l)/\Mod (λi=>i=b) w w':=by
 have dL:=o.Pm l;unfold maxLen at hm;refine vW E.ae ?_;refine oI ?_;refine J ?_;apply I_<;>intro g1
 .have e:=o.Yo (l:=l) Ad;refine J ?_;exact⟨by rw[e],by rw[e];exact h,Mod.refl _ _⟩
 refine J ?_;refine _M [0] (λk:Nat=>[(3,.I k)]) 1 (λk W=>1<=k/\k<=l.length/\o.comp (l.take k)=l.take k/\Ext w W) (λk=>l.length - k) a6 ⟨Ad,Ad,o.aiq,Ext.refl _⟩ ?_;rintro k S w1 ⟨AM,cb,rU,ag⟩;have k3:=h.ext ag;have yH:=k3.aeT an hm;refine J ?_;apply I_<;>intro g2;rotate_left
 .have gS:k=l.length:=Ad
  rw[gS,AE8] at rU;refine J ?_;exact⟨by rw[rU],by rw[rU];exact k3,ag.mod⟩
 have oa:k<l.length:=Ad
 refine J ?_;refine K_ (k - 1) Ad Ad ?_;refine J ?_;refine AB5 (sig:=[.i,.i]) Ci (IS _ _) (IS _ _) λr aS=>?_;rw[YW] at aS;refine J ?_;intro aA ai;have jK:=k3.ext ai;have aH:=ag.trans ai;cases r with
 | false =>
  have ct:¬(l[k - 1].op=l[k].op/\l[k - 1].n=l[k].n):=λe=>by have:=aS.2 ⟨e.1.symm,e.2.symm⟩;cases this
  have amS:o.comp (l.take (k+1))=l.take (k+1):=by rw[o.Pp AM oa,if_neg ct,rU,Iu oa]
  refine J ?_;exact⟨k+1,⟨aK,trivial⟩,⟨Ad,Ad,amS,aH⟩,Ad⟩
 | true =>
  obtain⟨c5,dA⟩:=aS.1 rfl;have yX:o.comp (l.take (k+1))=l.take k:=by rw[o.Pp AM oa,if_pos ⟨c5.symm,dA.symm⟩,rU]
  have me:¬c=k:=Ad
  clear yH;refine J ?_;refine _B k l.length c (by simp[eJ,dc,bD]) (by simp[eJ]) (by simp[eJ]) ⟨Ad,an,EC _⟩ CC ?_;rw[if_neg me,AG3];refine J ?_;refine _M [0,4] (λx:Nat×Nat×C_ o.Node=>[(3,.I x.1),(5,.I x.2.1)]) (k,1,l) (λx W=>1<=x.2.1/\k+x.2.1<=l.length/\1<=x.1/\x.1+1<=k+x.2.1/\x.2.2.length=l.length/\hz W b x.2.2/\Mod (λi=>i=b) w W/\x.2.2.take x.1=o.comp (l.take (k+x.2.1))/\∀j,x.1<=j->x.2.2[j]? = l[j]?) (λx=>l.length - (k+x.2.1)) a6 ⟨EC _,by simp only;omega,AM,EC _,rfl,jK,aH.mod,yX.symm,λ_ _=>rfl⟩ ?_;rintro⟨oi,cV,R⟩ Ey aM ⟨kO,jM,xn,aoB,Bb,vp,zf,r1,vq⟩;dsimp only at kO jM xn aoB Bb vp zf r1 vq ⊢;refine J ?_;apply I_<;>intro g3
  .have fU:k+cV<l.length:=Ad
   have nL:∀i,(Addr.add ⟨b,0,none⟩ (k*2)).add (i*2)=⟨b,2*(k+i),none⟩:=λi=>by
    rw[add_eq,add_eq];congr 1;omega
   have ie:R[k+cV]' Ad=l[k+cV]:=by
    have:=vq (k+cV) Ad
    rw[List.getElem?_eq_getElem Ad,List.getElem?_eq_getElem Ad] at this;injection this
   have ji:R[k+cV - 1]' Ad=l[k+cV - 1]:=by
    have:=vq (k+cV - 1) Ad
    rw[List.getElem?_eq_getElem Ad,List.getElem?_eq_getElem Ad] at this;injection this
   have d1:fc aM ((Addr.add ⟨b,0,none⟩ (k*2)).add (cV*2)) l[k+cV].enc:=by
    rw[nL,<-ie];exact vp.at_ _
   have d2:fc aM ((Addr.add ⟨b,0,none⟩ (k*2)).add ((cV - 1)*2)) l[k+cV - 1].enc:=by
    rw[nL,<-ji,show k+(cV - 1)=k+cV - 1 from Ad];exact vp.at_ _
   have yR:=o.Pp (l:=l) (n:=k+cV) Ad fU;refine J ?_;refine K_ (cV - 1) Ad Ad ?_;refine J ?_;refine _9 (sig:=[.i,.i]) Ci (IS _ _) (IS _ _) λr aS=>?_;rw[ne_eq,YW] at aS;refine J ?_;intro aU aq;have ace:=vp.ext aq;have avr:=d1.ext aq;cases r with
   | false =>
    have heq:l[k+cV - 1].op=l[k+cV].op/\l[k+cV - 1].n=l[k+cV].n:=Classical.byContradiction λe=>by have:=aS.2 (λaH=>e ⟨aH.1.symm,aH.2.symm⟩);cases this
    rw[if_pos heq] at yR;refine J ?_;refine⟨(oi,cV+1,R),⟨aK,aK,trivial⟩,⟨by simp only;omega,by simp only;omega,xn,by simp only;omega,Bb,ace,zf.trans aq.mod,?_,vq⟩,by simp only;omega⟩;simp only;rw[<-AI2,yR,r1]
   | true =>
    have ct:¬(l[k+cV - 1].op=l[k+cV].op/\l[k+cV - 1].n=l[k+cV].n):=λe=>(aS.1 rfl) ⟨e.1.symm,e.2.symm⟩;rw[if_neg ct] at yR;refine J ?_;refine AD6 (i:=oi) ace (by rw[add_eq,SO,AH7]) Ad λbh eY Gl=>?_;refine J ?_;refine⟨(oi+1,cV+1,R.set oi l[k+cV]),⟨aK,aK,trivial⟩,⟨by simp only;omega,by simp only;omega,by simp only;omega,by simp only;omega,by rw[XK];exact Bb,Gl,(zf.trans aq.mod).trans (eY.mod rfl),?_,λj az=>?_⟩,by simp only;omega⟩
    .simp only;rw[<-AI2,yR,<-r1,Iu (by rw[XK];omega),AK5,List.take_set_of_le (EC _)]
    .simp only at az;rw[List.getElem?_set_ne Ad];exact vq j Ad
  .have AO:k+cV=l.length:=Ad
   rw[AO,AE8] at r1;have oW:(o.comp l).length=oi:=by rw[<-r1,Hs];omega
   refine J ?_;refine _B oi l.length c (by simp[eJ,dc,bD]) (by simp[eJ]) (by simp[eJ]) ⟨Ad,an,EC _⟩ CC ?_;rw[if_neg (show ¬c=oi by omega),AG3];refine J ?_;refine AD7 (k:=oi) vp (by simp only[dc,bD];rfl) Ad (λ_=>by rw[add_eq,SO,AH7]) λv aU j6 mQ=>?_;rw[r1] at mQ;refine J ?_;refine _B 0 oi c (by simp[eJ]) (by simp[eJ,dc,bD]) (by simp[eJ]) ⟨Ad,Ad,EC _⟩ CC ?_;rw[if_neg (show ¬c=0 by omega),AG3];refine J ?_;exact⟨by rw[oW,add_eq];rfl,mQ,zf.trans j6⟩
end Go.Proofs.R
namespace Go.Proofs
open Go.Shelf
def Tryz.ati:Go.Shelf.Ren:=⟨λ| 6=>193 | 15=>245 | 14=>244 | 28=>286 | 29=>287 | 20=>278 | 21=>279 | 22=>280 | 23=>281 | 24=>282 | 25=>283 | 26=>284 | 27=>285 | 46=>306 | 47=>307 | 48=>308 | 49=>309 | 50=>310 | 57=>316 | n=>n,λ| 22=>57 | 24=>72 | 25=>260 | 3=>3 | 39=>169 | 0=>0 | 53=>337 | 55=>52 | 4=>4 | 46=>331 | 45=>330 | 50=>249 | 5=>5 | 9=>9 | 66=>346 | 70=>350 | 76=>355 | 77=>89 | n=>n,λ| n=>n⟩
def Tryz.aeU:Go.Proofs.SlLaysF0.n6 Tryz.prog Tryz.ati:={
 mixed:=Ci
 f6:=⟨Tryz.f193.name,By,Tryz.func193.trans (congrArg some Ci)⟩
 f14:=⟨Tryz.f244.name,By,Tryz.func244.trans (congrArg some Ci)⟩
 f15:=Tryz.func245.trans (congrArg some Ci)
 f20:=⟨Tryz.f278.name,By,Tryz.func278.trans (congrArg some Ci)⟩
 f21:=⟨Tryz.f279.name,By,Tryz.func279.trans (congrArg some Ci)⟩
 f22:=⟨Tryz.f280.name,By,Tryz.func280.trans (congrArg some Ci)⟩
 f23:=⟨Tryz.f281.name,By,Tryz.func281.trans (congrArg some Ci)⟩
 f24:=⟨Tryz.f282.name,By,Tryz.func282.trans (congrArg some Ci)⟩
 f25:=⟨Tryz.f283.name,By,Tryz.func283.trans (congrArg some Ci)⟩
 f26:=⟨Tryz.f284.name,By,Tryz.func284.trans (congrArg some Ci)⟩
 f27:=⟨Tryz.f285.name,By,Tryz.func285.trans (congrArg some Ci)⟩
 f28:=Tryz.func286.trans (congrArg some Ci)
 f29:=Tryz.func287.trans (congrArg some Ci)
 f46:=⟨Tryz.f306.name,By,Tryz.func306.trans (congrArg some Ci)⟩
 f47:=Tryz.func307.trans (congrArg some Ci)
 f48:=Tryz.func308.trans (congrArg some Ci)
 f49:=⟨Tryz.f309.name,By,Tryz.func309.trans (congrArg some Ci)⟩
 f50:=⟨Tryz.f310.name,By,Tryz.func310.trans (congrArg some Ci)⟩
 f57:=⟨Tryz.f316.name,By,Tryz.func316.trans (congrArg some Ci)⟩
 t0:=Tryz.underlying0
 a0:=Tryz.isAgg0
 z0:=Tryz.sizeOf0
 v0:=Tryz.zeroValue0
 t3:=Tryz.underlying3
 a3:=Tryz.isAgg3
 z3:=Tryz.sizeOf3
 v3:=Tryz.zeroValue3
 t4:=Tryz.underlying4
 a4:=Tryz.isAgg4
 z4:=Tryz.sizeOf4
 v4:=Tryz.zeroValue4
 t5:=Tryz.underlying5
 a5:=Tryz.isAgg5
 z5:=Tryz.sizeOf5
 v5:=Tryz.zeroValue5
 t9:=Tryz.underlying9
 a9:=Tryz.isAgg9
 z9:=Tryz.sizeOf9
 v9:=Tryz.zeroValue9
 t22:=Tryz.underlying57
 a22:=Tryz.isAgg57
 z22:=Tryz.sizeOf57
 v22:=Tryz.zeroValue57
 t25:=Tryz.underlying260
 a25:=Tryz.isAgg260
 z25:=Tryz.sizeOf260
 v25:=Tryz.zeroValue260
 t39:=Tryz.underlying169
 a39:=Tryz.isAgg169
 z39:=Tryz.sizeOf169
 v39:=Tryz.zeroValue169
 t45:=Tryz.underlying330
 a45:=Tryz.isAgg330
 z45:=Tryz.sizeOf330
 v45:=Tryz.zeroValue330
 t46:=Tryz.underlying331
 a46:=Tryz.isAgg331
 z46:=Tryz.sizeOf331
 v46:=Tryz.zeroValue331
 t50:=Tryz.underlying249
 a50:=Tryz.isAgg249
 z50:=Tryz.sizeOf249
 v50:=Tryz.zeroValue249
 t53:=Tryz.underlying337
 a53:=Tryz.isAgg337
 z53:=Tryz.sizeOf337
 v53:=Tryz.zeroValue337
 t55:=Tryz.underlying52
 a55:=Tryz.isAgg52
 z55:=Tryz.sizeOf52
 v55:=Tryz.zeroValue52
 t66:=Tryz.underlying346
 a66:=Tryz.isAgg346
 z66:=Tryz.sizeOf346
 v66:=Tryz.zeroValue346
 t70:=Tryz.underlying350
 a70:=Tryz.isAgg350
 z70:=Tryz.sizeOf350
 v70:=Tryz.zeroValue350
 t76:=Tryz.underlying355
 a76:=Tryz.isAgg355
 z76:=Tryz.sizeOf355
 v76:=Tryz.zeroValue355
 t77:=Tryz.underlying89
 a77:=Tryz.isAgg89
 z77:=Tryz.sizeOf89
 v77:=Tryz.zeroValue89 }
end Go.Proofs
namespace Go.Proofs.R
open Go Go.RowKit Go.Sort Go.Shelf Go.Lib
def at6(x y:o.Node)(W:A_):Calls Tryz.prog 194 #[.agg #[.I x.op,.I x.n],.agg #[.I y.op,.I y.n]] W λe w'=>e = .returned (.I (o.DD x y))/\∃q aqx,w'=grow (W.drewN q) aqx:=by
 go_enter Tryz.func194,Tryz.ntmps194
 go_wp2
 all_goals go_ret
 all_goals refine⟨?_,0,_,by rw[alloc_eq_grow,alloc_eq_grow,grow_grow];rfl⟩
 all_goals (congr 2;unfold o.DD;repeat' split)
 all_goals first | omega | rfl
def apU:SWO (ltOf o.DD) where
 irrefl x:=by
  have:=o.apQ x
  rw[<-o.MH] at this;simpa[ltOf] using this
 trans x y z h1 I:=by
  simp only[ltOf,decide_eq_true_eq] at h1 I ⊢;rw[o.MH] at *;exact o.apR x y z h1 I
 ntrans x y z h1 I:=by
  simp only[ltOf,decide_eq_false_iff_not] at h1 I ⊢;rw[o.MH] at *;unfold o.oo at *;omega
instance:Inhabited o.Node:=⟨⟨0,0⟩⟩
def are{w:A_}{b:Nat}{cur:Array B_}{e:F_}{d:Array B_}(h:w.heap[b]? = some (.cells cur e)):(putRow id w b 0 d).heap[b]? = some (.cells (putCells id 0 d cur) e):=by
 unfold putRow mapBlock;simp only[Array.getElem?_modify,if_true,h,Option.map_some,onCells]
def arf{w:A_}{b k:Nat}{d:Array B_}(h:k≠b):(putRow id w b 0 d).heap[k]? = w.heap[k]? := by
 unfold putRow mapBlock;simp only[Array.getElem?_modify];rw[if_neg (λe=>h e.symm)]
def adI{w:A_}{b:Nat}{d:Array B_}:(putRow id w b 0 d).heap.size=w.heap.size:=by
 unfold putRow mapBlock;simp
def Zp{d:Array o.Node}{i:Nat}(h:i<d.size):(flatK o.Node.enc 2 d)[2*i]! = .I d[i].op/\(flatK o.Node.enc 2 d)[2*i+1]! = .I d[i].n:=by
 constructor
 .rw[get_flatK _ _ _ _ Ad,show 2*i / 2=i from Ad,show 2*i % 2=0 from Ad,getElem!_pos _ i h];rfl
 .rw[get_flatK _ _ _ _ Ad,show(2*i+1) / 2=i from Ad,show(2*i+1) % 2=1 from Ad,getElem!_pos _ i h];rfl
def atj{w:A_}{b n:Nat}{l:C_ o.Node}{d:Array o.Node}{os:Array Obj}(h:hz w b l)(bb:d.size=l.length):hz (sortWorldK o.Node.enc 2 w b 0 n d os) b d.toList/\a8.Mod (λi=>i=b) w (sortWorldK o.Node.enc 2 w b 0 n d os):=by
 obtain⟨cur,h1,I,ab⟩:=h.ex;have cu:=a8.cq h1;have rK:(Sort.ahead w n).heap[b]? = some (.cells cur T.e):=h1;have aG:∀k,k<w.heap.size->(sortWorldK o.Node.enc 2 w b 0 n d os).heap[k]? = (putRow id (Sort.ahead w n) b 0 (flatK o.Node.enc 2 d)).heap[k]? := λk hk=>by
  unfold sortWorldK grow putRowK;exact Array.getElem?_append_left (by rw[adI];exact hk)
 constructor
 .refine⟨_,(aG b cu).trans (are rK),by simp[putCells];omega,λi U=>?_⟩;have cw:i<d.size:=by simpa using U
  obtain⟨f1,f2⟩:=Zp cw;simp only[putCells,Array.getElem?_mapIdx,size_flatK,Array.getElem_toList];constructor
  .rw[Array.getElem?_eq_getElem (show 2*i<cur.size by omega),AG3,if_pos Ad,Nat.sub_zero,f1];rfl
  .rw[Array.getElem?_eq_getElem (show 2*i+1<cur.size by omega),AG3,if_pos Ad,Nat.sub_zero,f2];rfl
 .refine⟨rfl,rfl,rfl,?_,λk hk aw=>(aG k hk).trans (arf aw)⟩;unfold sortWorldK grow putRowK;rw[Array.size_append,adI];exact Nat.le_add_right _ _
theorem as7{P:D_}{t:F_}{k:Nat}(h:(P.info? t).map (·.size)=some k)(w:A_):(Go.sizeOf t).run P w = .ok k w:=by
 cases U:P.info? t with
 | none=>rw[U] at h;cases h
 | some i =>
  rw[U] at h;have I:i.size=k:=by simpa using h
  simp[Go.sizeOf,a8.uu U,I]
def ath(b c:Nat)(l:C_ o.Node)(w:A_)(h:hz w b l)(aE:l.length<=1000000) :
  a8.aX Tryz.prog F.g9 #[.slice (some ⟨b,0,none⟩) l.length c,.func (.func F.aY) #[] #[]] w λ_ w' => ∃r:C_ o.Node,r.Perm l/\r.Pairwise (λx y => ¬o.oo y x)/\hz w' b r/\a8.Mod (λi=>i=b) w w':=by
 obtain⟨cur,h1,I,ab⟩:=h.ex;have QQ:=AnyQ.slices_SortFunc Tryz.aeU 2 (λw=>a8.zv (t:=T.e) (b:=true) Ci w) (λw=>as7 (t:=T.e) Ci w) o.Node.enc (λ_=>rfl) (λx v aF=>by simp[o.Node.enc] at aF;rcases aF with rfl | rfl<;>rfl) o.DD apU F.aY #[] b 0 c l.toArray w
  (enters_of Tryz.func194 Ci rfl) (λ_ _ _ _ x y=>at6 x y _) ?_ (a8.cq h1) (by simp;omega)
 .change Calls Tryz.prog F.g9 _ _ _ at QQ;simp only[List.size_toArray] at QQ;refine Calls.mono QQ ?_;rintro e w' ⟨rfl,wD,n,os,ar,aj,rfl⟩;have dq:wD.size=l.length:=by simpa using ar.1
  obtain⟨cK,cV⟩:=atj (n:=n) (os:=os) h dq;refine⟨_,rfl,wD.toList,?_,?_,cK,cV⟩
  .have:=ar.2.2
   rw[show wD.extract 0 l.length=wD from by rw[<-dq];simp,show l.toArray.extract 0 l.length=l.toArray from CC] at this;simpa using this
  .rw[List.pairwise_iff_getElem];intro i j U az Db;have cw:i<wD.size:=by simpa using U
   have eP:j<wD.size:=by simpa using az
   have:=aj i j (AF6 _) Db Ad
   rw[getElem!_pos _ i cw,getElem!_pos _ j eP] at this;simp only[ltOf,decide_eq_false_iff_not] at this;rw[o.MH] at this;simpa using this
 .unfold HoldsK Holds;intro j az;rw[size_flatK] at az;have ju:j<2*l.length:=by simp at az;omega
  have U:j / 2<l.length:=Ad
  obtain⟨f1,f2⟩:=Zp (d:=l.toArray) (i:=j / 2) (by simpa using U);obtain⟨g1,g2⟩:=ab (j / 2) U;have qZ:w.frozen? ⟨b,0+j,none⟩=false:=by simp[World.frozen?,h1]
  refine⟨?_,qZ⟩;rw[SO];rcases AL1 j with e | e
  .have Ah:2*(j / 2)=j:=Ad
   rw[Ah] at f1 g1;rw[f1];exact EY h1 (by simpa using g1)
  .have Ah:2*(j / 2)+1=j:=Ad
   rw[Ah] at f2 g2;rw[f2];exact EY h1 (by simpa using g2)
end Go.Proofs.R
namespace o
open Go
def zz(e:C_ Node):C_ Node:=e.filter λx=>uw x.op
def att{e:C_ Node}{k:Nat}(h:k<e.length):zz (e.take (k+1))=zz (e.take k)++if uw e[k].op then [e[k]] else []:=by
 unfold zz;rw[Iu h,AK2];cases aj:uw e[k].op<;>simp[aj]
def aeZ(e:C_ Node):(zz e).length<=e.length:=AK3 _ _
def afo{e s:C_ Node}(ar:s.Perm (zz e))(aj:s.Pairwise λx y => ¬oo y x):Ip e (comp s):=by
 refine⟨Yp s aj,λx=>?_⟩;rw[Pn,ar.mem_iff];unfold zz;rw[AJ5]
end o
namespace Go.Proofs.R
open Go Go.RowKit a8
def apT(x:o.Node):∀u∈x.enc,u.oneCell'=true:=by simp[o.Node.enc,Value.oneCell']
theorem Zn:∀(l:C_ o.Node) (i:Nat) (h:i<l.length),(l.flatMap o.Node.enc)[2*i]? = some (.I l[i].op)/\(l.flatMap o.Node.enc)[2*i+1]? = some (.I l[i].n)
 | x :: l,0,_=>⟨rfl,rfl⟩
 | x :: l,i+1,h=>by
  have fm:=Zn l i (by simpa using h);rw[show 2*(i+1)=2*i+2 from Ad,show 2*i+2+1=(2*i+1)+2 from Ad];exact fm
def apW{w:A_}{base:Nat}{v:B_}{l:C_ o.Node}(h:aJ o.Node.enc T.e 2 base w v l)(aE:l≠[]):∃b c,v = .slice (some ⟨b,0,none⟩) l.length c/\base<=b/\hz w b l/\l.length<=c/\c<=maxLen:=by
 rcases h.2 with ⟨_,ad⟩ | ⟨g,cap,cur,h1,I,ab,aC,a1,bJ,cr⟩
 .exact absurd (AF7 ad) aE
 .refine⟨g,cap,h1,I,⟨cur,ab,Ad,λi U=>?_⟩,aC,a1⟩;have get:∀j,j<2*l.length->cur[j]? = (l.flatMap o.Node.enc)[j]? := λj az=>by
   rw[<-cr,List.getElem?_take_of_lt Ad,Array.getElem?_toList]
  rw[get _ Ad,get _ Ad];exact Zn l i U
structure OD(w:World)(base:Nat)(v:Value)(l:List o.Node):Prop where
 ex:(l=[]/\∃p c,v = .slice p 0 c/\c<=maxLen)\/∃b c,v = .slice (some ⟨b,0,none⟩) l.length c/\base<=b/\hz w b l/\l.length<=c/\c<=maxLen
def atg(p:H_ Addr)(c:Nat)(w:A_):Du F.g9 #[.slice p 0 c,.func (.func F.aY) #[] #[]] w λ_ w'=>Ext w w':=by
 have h:=AnyF.slices_SortFunc_none Tryz.aeU p c (.func (.func F.aY) #[] #[]) w;change Calls Tryz.prog F.g9 _ _ _ at h;refine Calls.mono h ?_;rintro e w' ⟨rfl,rfl⟩;exact⟨_,rfl,Ext.refl _⟩
def air(p:H_ Addr)(c:Nat)(w:A_):Du F.ae #[.slice p 0 c] w λv w'=>v = .slice p 0 c/\Ext w w':=by
 refine vW E.ae ?_;refine oI ?_;refine J ?_;exact⟨aK,Ext.refl _⟩
def aub(v:B_)(e:C_ o.Node)(w:A_)(h:o.eS w v e)(aE:e.length<=1000000) :
  Du F.d0 #[v] w λu w'=>(∃r,o.Ip e r/\OD w' w.heap.size u r)/\Ext w w':=by
 obtain⟨aN,fs,rfl,_⟩:=h.form;refine bl E.d0 ?_;refine J ?_;refine L_ 8 e.length [2,6,7] (λu:B_=>[(3,u)]) (.slice none 0 0) (λk u W=>aJ o.Node.enc T.e 2 w.heap.size W u (o.zz (e.take k))/\Ext w W) a6 a6 ⟨aJ.nil _ _ _ _ _,Ext.refl _⟩ ?_;rintro k u S w1 hk ⟨hu,ag⟩;refine J ?_;apply I_<;>intro g1
 .have cb:k<e.length:=Ad
  obtain⟨a,rfl⟩:=h.addr;have af:=(h.at k cb).cells.ext ag;obtain⟨sY,nU,rfl,_⟩:=hu.form;have jL:=o.aeZ (e.take k);have hS:=o.att cb;unfold o.Node.enc at af;rw[Hs] at jL;refine dS ?_;simp -dsimp only[cH];refine dS ?_;simp -dsimp only[cH];refine dS ?_;intro aA dF jt ai bI;have R3:=hu.ext ai;have aH:=ag.trans ai;simp -dsimp only[cH];refine dS ?_;refine R_ [2,3,5,6,7,8] (λt:Bool=>[(14,.bool t)]) (λt W=>t=o.uw e[k].op/\W=aA) ?_ ?_
  .have sp:∀b,(b=true↔(e[k].op=2\/e[k].op=3\/e[k].op=4\/e[k].op=6\/e[k].op=7))->b=o.uw e[k].op:=λb ak=>by
    unfold o.uw;cases b with
    | true=>exact(decide_eq_true (ak.1 rfl)).symm
    | false=>exact(decide_eq_false λq=>by have:=ak.2 q;cases this).symm
   refine J ?_;apply I_<;>intro g2
   .refine J ?_;exact⟨_,⟨aK,trivial⟩,sp _ (by simp[g2]),aK⟩
   refine J ?_;apply I_<;>intro g3
   .refine J ?_;exact⟨_,⟨aK,trivial⟩,sp _ (by simp[g3]),aK⟩
   refine J ?_;apply I_<;>intro g4
   .refine J ?_;exact⟨_,⟨aK,trivial⟩,sp _ (by simp[g4]),aK⟩
   refine J ?_;apply I_<;>intro g5
   .refine J ?_;exact⟨_,⟨aK,trivial⟩,sp _ (by simp[g5]),aK⟩
   refine J ?_;exact⟨_,⟨aK,trivial⟩,sp _ (by simp[g2,g3,g4,g5]),aK⟩
  rintro t jW aM ⟨rfl,rfl⟩;refine J ?_;cases y6:o.uw e[k].op with
  | true =>
   rw[y6,if_pos rfl] at hS;refine J ?_;intro aU XS Z7 aq rO;refine J ?_;refine S_ (y:=e[k]) (R3.ext aq) rO rfl (λ_=>rfl) apT Ad (by unfold maxLen;omega) (by have:=aq.size;have:=aH.size;omega) λaN n c bh dM mP=>?_;have av:=aJ.kG (R3.ext aq) (aH.trans aq) mP (EC _);refine J ?_;refine⟨cb,aK,_,⟨rfl,trivial⟩,?_,av⟩;rw[hS];exact dM
  | false =>
   rw[y6,if_neg CC,SN] at hS;refine J ?_;refine⟨cb,aK,_,⟨aK,trivial⟩,?_,aH⟩;rw[hS];exact R3
 .have gS:k=e.length:=Ad
  rw[gS,AE8] at hu;have jL:=o.aeZ e;by_cases aw:o.zz e=[]
  .rw[aw] at hu;obtain⟨sY,nU,rfl,_⟩:=hu.form;have amh:nU<=maxLen:=by
    obtain⟨iI,cap,h1,_,ab,_⟩:=(aJ.jN (enc:=o.Node.enc) (λ_=>rfl) hu).ex;injection h1 with _ _ h1
    omega
   have an1:o.Ip e (o.comp []):=o.afo (s:=[]) (by rw[aw]) List.Pairwise.nil;refine J ?_;refine J_ (atg sY nU w1) ?_;rintro _ aA ai;refine J ?_;refine J_ (air sY nU aA) ?_;rintro _ aM ⟨rfl,ah⟩;refine J ?_;exact⟨⟨_,an1,⟨.inl ⟨rfl,sY,nU,rfl,amh⟩⟩⟩,(ag.trans ai).trans ah⟩
  .obtain⟨b,c,rfl,ak,aS,an,hm⟩:=apW hu aw;refine J ?_;refine J_ (ath b c _ w1 aS Ad) ?_;rintro _ aA ⟨s,ar,aj,jK,fU⟩;have anV:=ar.length_eq;have dL:=o.Pm s;rw[<-anV];refine J ?_;refine J_ (ais b c s aA jK Ad hm) ?_;rintro _ aM ⟨rfl,RL,jv⟩;refine J ?_;exact⟨⟨_,o.afo ar aj,⟨.inr ⟨b,c,rfl,ak,RL,Ad,hm⟩⟩⟩,(fU.trans jv).ext ag λi U e=>Ad⟩
end Go.Proofs.R
namespace o
open Go
def at4{m:Model}{x:Node}(h:uw x.op=false):ef m 0 false x=[]:=by
 unfold uw at h;have h:=of_decide_eq_false h;unfold ef;rw[if_neg Ad,if_neg Ad,if_neg Ad,if_neg Ad,if_neg Ad]
def aua{m:Model}{e r:C_ Node}(h:Ip e r)(z:Int):z∈r.flatMap (ef m 0 false)↔z∈xF m e:=by
 unfold xF;simp only[List.mem_flatMap];constructor
 .rintro⟨x,af,bA⟩;exact⟨x,((h.mem x).1 af).1,bA⟩
 .rintro⟨x,af,bA⟩;cases aj:uw x.op with
  | false=>rw[at4 aj] at bA;cases bA
  | true=>exact⟨x,(h.mem x).2 ⟨af,aj⟩,bA⟩
def zw(m:Model)(k:Nat):C_ Int:=(m.props.take k).flatMap λp=>xF m p.expr
def asZ{m:Model}{k:Nat}(h:k<m.props.length):zw m (k+1)=zw m k++xF m m.props[k].expr:=by
 unfold zw;rw[Iu h,AF8];simp
def asY(m:Model):zw m m.props.length=s3 m:=by unfold zw s3;rw[AE8]
end o
namespace Go.Proofs.R
open Go Go.RowKit a8
def OD.form{w:A_}{base:Nat}{v:B_}{r:C_ o.Node}(h:OD w base v r):∃aN c,v = .slice aN r.length c/\(0<r.length->∃b,aN=some ⟨b,0,none⟩/\base<=b/\hz w b r/\r.length<=c/\c<=maxLen):=by
 rcases h.ex with ⟨rfl,p,c,rfl,_⟩ | ⟨b,c,rfl,ak,aS,an,hm⟩
 .exact⟨p,c,rfl,λh=>absurd h (Nat.lt_irrefl _)⟩
 .exact⟨_,c,rfl,λ_=>⟨b,rfl,ak,aS,an,hm⟩⟩
def SM{a b c d e:H_ Addr}{kQ ka o5 ud n5 c1 c2 bu bB z8:Nat}{n:Int}:∀x∈(#[.slice a kQ c1,.slice b ka c2,.slice c o5 bu,.I n,.slice d ud bB,.slice e n5 z8]:Array B_).toList,x.oneCell'=true:=by simp[Value.oneCell']
def as2(cs:C_ B_)(m:o.Model)(w:A_)(h:o.dj w cs m)(aG:m.cv)(aQ:gJ w) :
  Du F.pr #[.agg cs.toArray] w λu w'=>(∃b n,((o.jC m=[]/\n=0/\u = .slice none 0 0)\/u = .slice (some ⟨b,0,none⟩) n n/\n=(o.jC m).length/\w.heap.size<=b/\w'.heap[b]? = some (.cells (mG (o.jC m)).toArray T.j)))/\Ext w w':=by
 have b4:=h;obtain⟨b0,bz,bO,c1,bT,c2,bV,bu,b1,bB,rfl,ad,h1,I,ab,aC,eu,dz,dJ,dR,ee⟩:=h.form;refine bl E.pr ?_;refine J ?_;intro w1 bx cN ag al;refine J ?_;refine J_ (zh _ m w1 (b4.ext ag) aG (aQ.ext ag)) ?_;rintro _ aA ⟨rfl,ai⟩;replace al:=ai.obj al;have aH:=ag.trans ai;refine J ?_;refine Y_ (v:=.I (o.check m).cJ) rfl ?_;refine J ?_;apply I_<;>intro g1;rotate_left
 .have e:o.jC m=[]:=by unfold o.jC;rw[if_neg g1]
  refine J ?_;exact⟨⟨0,0,.inl ⟨e,rfl,aK⟩⟩,aH⟩
 have gQ:=o.hE g1;have AQ:o.lay m=o.layout m:=by unfold o.lay;rw[if_pos g1]
 refine dS ?_;refine R_ [1] (λx:Nat×B_=>[(3,.pointer (some ⟨x.1,0,none⟩)),(4,x.2)]) (λx W => ∃ys:C_ B_,W.heap[x.1]? = some (.cells ys.toArray T.h)/\o.jk W ys (o.layout m)/\ik W x.2 (o.insts m)/\Ext aA W) ?_ ?_
 .have Gi:∀{W},Ext aA W->Du F.l #[.agg #[.slice b0 m.scalars.length bz,.slice bO m.vars.length c1,.slice bT m.ax.length c2,.slice bV m.procs.length bu,.slice b1 m.props.length bB]] W λv w'=>(∃eH d0 dK d1 eg d2 eD d3 eU d4,v = .agg #[.slice eH (o.layout m).vars.length d0,.slice dK (o.layout m).ax.length d1,.slice eg (o.layout m).insts.length d2,.I (o.layout m).cells,.slice eD (o.layout m).aV.length d3,.slice eU (o.layout m).U.length d4]/\eL W (λw=>o.jk w [.slice eH (o.layout m).vars.length d0,.slice dK (o.layout m).ax.length d1,.slice eg (o.layout m).insts.length d2,.I (o.layout m).cells,.slice eD (o.layout m).aV.length d3,.slice eU (o.layout m).U.length d4] (o.layout m)) w')/\Ext W w':=λ{W} he=>(GR _ m W (b4.ext (aH.trans he)) aG (aQ.ext (aH.trans he))).mono λv w' ⟨⟨xs,aF,aw⟩,hn⟩=>by
   rw[AQ] at aw;obtain⟨eH,d0,dK,d1,eg,d2,eD,d3,eU,d4,rfl,_⟩:=aw.here.form;exact⟨⟨eH,d0,dK,d1,eg,d2,eD,d3,eU,d4,aF,aw⟩,hn⟩
  have sH:∀{W},Ext aA W->Du F.c #[.agg #[.slice b0 m.scalars.length bz,.slice bO m.vars.length c1,.slice bT m.ax.length c2,.slice bV m.procs.length bu,.slice b1 m.props.length bB]] W λv w'=>(∃b8 ci,v = .slice b8 (o.insts m).length ci/\aJ o.cO.enc T.d 2 W.heap.size w' v (o.insts m))/\Ext W w':=λ{W} he=>(xl _ m W (b4.ext (aH.trans he)) aG).mono λv w' ⟨aF,hn⟩=>by
   obtain⟨b8,ci,rfl,_⟩:=aF.form;exact⟨⟨b8,ci,rfl,aF⟩,hn⟩
  refine dS ?_;intro aM ah;replace al:=ah.obj al;refine J ?_;refine⟨?_,?_⟩
  .refine J_ (Gi ah) ?_;rintro _ aU ⟨⟨eH,d0,dK,d1,eg,d2,eD,d3,eU,d4,rfl,ch⟩,aq⟩;have bn:=ah.trans aq;refine⟨aq,?_⟩;refine J ?_;refine⟨?_,?_⟩
   .refine J_ (sH bn) ?_;rintro _ bh ⟨⟨b8,ci,rfl,aP⟩,av⟩;have bC:=bn.trans av;refine J ?_;intro bq bW eX aD ba;refine⟨(aq.trans av).trans aD,?_⟩;refine U_ ba rfl rfl SM λbH dw bZ=>?_;have cM:=dw.ext aD eX;refine J ?_;exact⟨(bW,_),⟨aK,aK,trivial⟩,_,bZ,ch.here.ext (av.trans cM),(aJ.e3 (enc:=o.cO.enc) (λ_=>rfl) aP).ext Flat.ext cM,bC.trans cM⟩
   .refine O_ ?_;intro bh bW eX av ba;have bC:=bn.trans av;have cu:=cq ba;refine⟨aq.trans av,?_⟩;refine J ?_;refine J_ (sH bC) ?_;rintro _ bq ⟨⟨b8,ci,rfl,aP⟩,aD⟩;refine J ?_;refine U_ (aD.obj ba) rfl rfl SM λbH dw bZ=>?_;have cM:=dw.ext (av.trans aD) eX;refine J ?_;exact⟨(bW,_),⟨aK,aK,trivial⟩,_,bZ,ch.here.ext cM,aJ.e3 (enc:=o.cO.enc) (λ_=>rfl) (aJ.wr dw cu aP),bn.trans cM⟩
  .refine O_ ?_;intro aU bW eX aq ba;have bn:=ah.trans aq;have cu:=cq ba;refine⟨aq,?_⟩;refine J ?_;refine J_ (Gi bn) ?_;rintro _ bh ⟨⟨eH,d0,dK,d1,eg,d2,eD,d3,eU,d4,rfl,ch⟩,av⟩;have bC:=bn.trans av;have z5:=av.size;refine⟨aq.trans av,?_⟩;refine J ?_;refine J_ (sH bC) ?_;rintro _ bq ⟨⟨b8,ci,rfl,aP⟩,aD⟩;refine J ?_;refine U_ ((av.trans aD).obj ba) rfl rfl SM λbH dw bZ=>?_;have cM:=dw.ext ((aq.trans av).trans aD) eX;refine J ?_;exact⟨(bW,_),⟨aK,aK,trivial⟩,_,bZ,((ch.ext aD z5).wr dw cu).here,aJ.e3 (enc:=o.cO.enc) (λ_=>rfl) (aJ.wr dw Ad aP),ah.trans cM⟩
 rintro⟨bW,bK⟩ S aM ⟨ys,ba,ch,aP,ah⟩;dsimp only at ba ch aP ⊢;replace al:=ah.obj al;have aR:=aH.trans ah;have py:=ch;obtain⟨eH,d0,dK,d1,eg,d2,eD,d3,eU,d4,rfl,_⟩:=ch.form;have dL:(o.layout m).cells=(o.di m:Nat):=rfl;have p8:o.di m<=64:=o.iG gQ;have p9:=o.adD g1;refine J ?_;refine AA5 (o.di m) dL Ad λaU b ak aq bo=>?_;refine J ?_;intro wn bL oR e8 eC;refine J ?_;intro bh eY kJ;have av:Ext aU bh:=eY.ext e8 oR;clear eC;have hh:=aq.trans av;have oQ:nn bh bL b (o.di m) (o.zw m 0):=⟨kJ,_,av.obj bo,o.oE.start _⟩;have jt:=cq (av.obj bo);have p4:∀{W},Mod (λi=>i=b) bh W->Ext aM W:=λhm=>hm.ext hh λk hk e=>Ad
 have al6:=hh.obj al;have AD:=hh.obj ba;clear bo kJ;refine J ?_;refine L_ 24 m.props.length [1,3,4,5,22,23] (λ_:Unit=>[]) () (λk _ W=>nn W bL b (o.di m) (o.zw m k)/\Mod (λi=>i=b) bh W) a6 a6 ⟨oQ,Mod.refl _ _⟩ ?_;rintro k _ jW bq hk ⟨yL,iX⟩;have tC:=p4 iX;have b6:=aR.trans tC;have alG:=yL.box;have oS:=tC.obj al;have alS:=tC.obj ba;clear al6 AD;refine J ?_;apply I_<;>intro g2;rotate_left
 .have gS:k=m.props.length:=Ad
  rw[gS,o.asY] at yL;obtain⟨ae,aQ,aj⟩:=yL.row;have iZ:=aj.aeG g1;subst iZ;have aE:=aj.len;refine J ?_;exact⟨⟨b,o.di m,.inr ⟨rfl,aE.symm,by have:=aR.size;omega,aQ⟩⟩,b6⟩
 have cb:k<m.props.length:=Ad
 obtain⟨a4,rfl⟩:=aC.addr;obtain⟨kr,gP,c3,hd⟩:=aC.at k cb;obtain⟨MM,ce,rfl,_⟩:=hd.form;have en:=o.To g1 cb;have hle:=en.len;unfold o.lE.enc at c3;have xb:=c3.ext b6;refine J ?_;intro bH h2 gZ bc bZ;have cM:=b6.trans bc;refine J ?_;refine J_ (aub _ m.props[k].expr bH (hd.ext cM) Ad) ?_;rintro _ cB ⟨⟨r,aS,akM⟩,bt⟩;obtain⟨aN,c,rfl,kM⟩:=akM.form;have w3:=bc.trans bt;have rM:=yL.ext w3;have iY:=iX.trans w3.mod;have mc:=bc.size;have e5:b<bq.heap.size:=by have:=iX.size;omega
 clear bZ xb alG oS alS;refine J ?_;refine L_ 32 r.length [1,3,4,5,22,23,24,30,31] (λ_:Unit=>[]) () (λi _ W=>nn W bL b (o.di m) (o.zw m k++(r.take i).flatMap (o.ef m 0 false))/\Mod (λi=>i=b) cB W) a6 a6 ⟨by simpa using rM,Mod.refl _ _⟩ ?_;rintro i _ Ey cG U ⟨CV,mh⟩;have aba:=iY.trans mh;have JW:=p4 aba;have fW:=aR.trans JW;have aaa:=CV.box;have FN:=JW.obj al;have aad:=JW.obj ba;refine J ?_;apply I_<;>intro g3;rotate_left
 .have amN:i=r.length:=Ad
  rw[amN,AE8] at CV;refine J ?_;refine⟨cb,aK,(),trivial,CV.congr λz=>?_,aba⟩;rw[o.asZ cb,AG0,AG0,o.aua aS]
 have lO:i<r.length:=Ad
 obtain⟨wq,rfl,Qx,anm,KC,Gs⟩:=kM Ad;have yH:=(anm.mod mh Ad).aeT KC Gs;obtain⟨Sl,_⟩:=(aS.mem r[i]).1 (ED lO);have awv:r.length<=9223372036854775807:=by unfold maxLen at Gs;omega
 have c8:(r[i]).ok:=by
  have abp:=List.length_pos_of_mem Sl;obtain⟨rB,rfl⟩:=hd.addr abp;obtain⟨j,az,Ah⟩:=List.mem_iff_getElem.1 Sl;rw[<-Ah];exact(hd.at j az).ok
 have KD:=o.adE g1 cb Sl;refine J ?_;intro ew b9 lN cj cE;replace aaa:=cj.obj aaa;replace FN:=cj.obj FN;replace aad:=cj.obj aad;refine J ?_;refine J_ (aiR r[i] _ _ _ bL b _ m aM ew (b4.ext aR) py aP (JW.trans cj) ak (CV.ext cj) gQ KD c8) ?_;rintro _ fB ⟨alh,Dh⟩;refine J ?_;refine⟨lO,aK,(),trivial,?_,(mh.trans cj.mod).trans Dh⟩;rw[Iu lO,AF8,<-MV];simpa using alh
def YA(cs:C_ B_)(bK:B_)(m:o.Model)(ref:Int)(q p k:Nat)(w:A_)(h:o.dj w cs m)(aP:ik w bK (o.insts m))(bw:o.fa m ref q p k)(x:o.Ref)(oY:x.inst=q)(gT:x.cmd=k) :
  Du F.s #[.agg cs.toArray,bK,.agg x.enc.toArray] w λu w'=>(∃fi va,u = .agg ((o.bN m p k).enc fi va).toArray/\o.eS w fi (o.bN m p k).guard/\o.mv w va (o.bN m p k).bP)/\Ext w w':=by
 obtain⟨b0,bz,bO,c1,bT,c2,bV,bu,b1,bB,rfl,ad,h1,I,ab,aC,eu,dz,dJ,dR,ee⟩:=h.form;obtain⟨b8,ci,rfl,_⟩:=aP.form;have au:=bw.at_.U;have ar:=bw.at_.ar;have hp:=bw.at_.hk;have j5:=bw.at_.ip;obtain⟨gp,rfl⟩:=aP.addr;obtain⟨a3,rfl⟩:=ab.addr;obtain⟨kr,bY,dV,c3,eQ,er⟩:=ab.at p ar;obtain⟨vC,uQ,rfl,vy⟩:=er.form;obtain⟨ac,rfl⟩:=er.addr;obtain⟨eC,fi,va,e2,gi,fb⟩:=er.at k hp;obtain⟨fA,fL,rfl,_⟩:=gi.form;obtain⟨oq,nP,rfl,_⟩:=fb.form;have gR:=o.sv ar hp;have pt:x.enc=[.I q,.I k]:=by unfold o.Ref.enc;rw[oY,gT]
 rw[pt];unfold o.dt.enc at c3;unfold o.dI.enc at e2;refine bl E.s ?_;refine J ?_;intro w1 bW eX ag ba;refine J ?_;intro aA dF jt ai bI;replace ba:=ai.obj ba;refine J ?_;intro aM dC e5 ah bS;replace ba:=ah.obj ba;replace bI:=ah.obj bI;have aR:=(ag.trans ai).trans ah;have jF:=ag.size;have sc:=ai.size;intro aU aq;replace ba:=aq.obj ba;replace bI:=aq.obj bI;replace bS:=aq.obj bS;have bn:=aR.trans aq;have yI:=aP.ext Flat.ext bn;have abo:=c3.ext bn;have av4:=e2.ext bn;refine J ?_;refine K_ p (by rw[j5]) ar ?_;refine J ?_;intro bh eY alY;refine J ?_;exact⟨⟨.slice fA (o.bN m p k).guard.length fL,.slice oq (o.bN m p k).bP.length nP,by rw[gR];rfl,by rw[gR];exact gi,by rw[gR];exact fb⟩,eY.ext bn Ad⟩
structure yg(w:World)(bL b:Nat)(ae:List Bool):Prop where
 box:w.heap[bL]? = some (.cells #[.slice (some ⟨b,0,none⟩) ae.length ae.length] T.gp)
 row:w.heap[b]? = some (.cells (mG ae).toArray T.j)
theorem yg.ext{w w':A_}{bL b:Nat}{ae:C_ Bool}(h:yg w bL b ae)(he:Ext w w'):yg w' bL b ae:=⟨he.obj h.box,he.obj h.row⟩
def pK(ae:C_ Bool)(x:Int):Bool:=(ae[x.toNat]?).getD false
def atC(x:Int)(bL b:Nat)(ae:C_ Bool)(w:A_)(h:yg w bL b ae)(ad:0<=x)(h1:x.toNat<ae.length) :
  Du F.m #[.I x,.pointer (some ⟨bL,0,none⟩)] w λv w'=>v = .bool (pK ae x)/\Ext w w':=by
 have oR:=h.box;have an:w.cell? (Addr.add ⟨b,0,none⟩ (x.toNat*1))=some (.bool (pK ae x)):=fM h.row (by rw[AG2];simp[mG,pK,h1]);refine bl E.m ?_;refine J ?_;refine K_ x.toNat Ad h1 ?_;refine J ?_;refine M_ an ?_;refine J ?_;exact⟨aK,Ext.refl _⟩
def as6(v:B_)(l:C_ Int)(bL b:Nat)(ae:C_ Bool)(w:A_)(h:c9 w v l)(b5:0<l.length->yg w bL b ae)(aE:∀x∈l,0<=x/\x.toNat<ae.length) :
  Du F.j #[v,.func (.func F.m) #[] #[.pointer (some ⟨bL,0,none⟩)]] w λbU w'=>bU = .I (mb (pK ae) l 0)/\Ext w w':=by
 obtain⟨bO,c1,rfl,bx⟩:=h.form;refine vW E.j ?_;refine oI ?_;refine J ?_;refine L_ 8 l.length [0,1,7] (λ_:Unit=>[]) () (λk _ w'=>Ext w w'/\mb (pK ae) l 0=mb (pK ae) (l.drop k) k) a6 a6 ⟨Ext.refl _,CC⟩ ?_;rintro k _ S aA hk ⟨ai,aP⟩;have I:=h.ext Flat.ext ai;refine J ?_;apply I_<;>intro g1
 .have a7:k<l.length:=Ad
  obtain⟨a,rfl⟩:=h.addr;obtain⟨o7,c5⟩:=aE _ (ED a7);rw[PR a7] at aP;refine J ?_;refine V_ (first:=[]) (cap:=[.pointer (some ⟨bL,0,none⟩)]) Ci (atC l[k] bL b ae aA ((b5 Ad).ext ai) o7 c5) ?_;rintro _ aM ⟨rfl,ah⟩;cases aj:pK ae l[k] with
  | true =>
   rw[aj,if_pos rfl] at aP;refine J ?_;exact⟨by rw[aP],ai.trans ah⟩
  | false =>
   rw[aj,if_neg CC] at aP;refine J ?_;exact⟨a7,aK,(),trivial,ai.trans ah,aP⟩
 .refine J ?_;exact⟨by rw[aP,AE9 Ad];rfl,ai⟩
def asV(v:B_)(l:C_ Int)(bL b:Nat)(ae:C_ Bool)(w:A_)(h:c9 w v l)(b5:0<l.length->yg w bL b ae)(aE:∀x∈l,0<=x/\x.toNat<ae.length) :
  Du F.h #[v,.func (.func F.m) #[] #[.pointer (some ⟨bL,0,none⟩)]] w λbU w'=>bU = .bool (l.any (pK ae))/\Ext w w':=by
 refine vW E.h ?_;refine oI ?_;refine J ?_;refine J_ (as6 v l bL b ae w h b5 aE) ?_;rintro _ aA ⟨rfl,ai⟩;refine J ?_;refine⟨?_,ai⟩;congr 1;exact Bool.eq_iff_iff.2 (by rw[decide_eq_true_eq];exact Jr)
end Go.Proofs.R
namespace o
open Go
def ahH{m:Model}{v:Nat}(aL:ey m)(h:v<m.vars.length):cells m.vars[v] m.scalars=(lu m v:Nat)/\lu m v<=64:=by
 have aS:=D4 aL h;rw[q8 h] at aS ⊢;have c8:=(aL.var _ (ED h)).ei
 have:0<=cells m.vars[v] m.scalars:=by
  unfold cells size;split
  .omega
  .split
   .split<;>omega
   .omega
 omega
end o
namespace Go.Proofs.R
open Go Go.RowKit a8
def arT(x:o.Node)(cs ys:C_ B_)(m:o.Model)(w:A_)(h:o.dj w cs m)(aG:m.cv)(ch:o.jk w ys (o.layout m))(aL:o.ey m)(af:o.v8 m x)(c8:x.ok) :
  Du F.Ml #[.agg cs.toArray,.agg ys.toArray,.agg x.enc.toArray] w λu w'=>aJ bX T.a 1 w.heap.size w' u (o.ef m 0 false x)/\Ext w w':=by
 have b4:=h;have A5:=c8.op;have A4:=c8.n;unfold o.dX at A5 A4;obtain⟨b0,bz,bO,c1,bT,c2,bV,bu,b1,bB,rfl,ad,h1,I,ab,aC,eu,dz,dJ,dR,ee⟩:=h.form;obtain⟨eH,d0,dK,d1,eg,d2,eD,d3,eU,d4,rfl,dB,cP,cA,eI,fp⟩:=ch.form;obtain⟨f5,f6,f8⟩:=o.pH m;have p8:o.di m<=64:=o.iG aL;refine bl E.Ml ?_;refine J ?_;intro w1 bW eX ag ba;refine J ?_;intro aA c6 fT ai bo;replace ba:=ai.obj ba;refine J ?_;intro aM dF jt ah bI;replace ba:=ah.obj ba;replace bo:=ah.obj bo;have aR:=(ag.trans ai).trans ah;have z3:=aR.size;unfold o.Node.enc at bI;refine J ?_;apply I_<;>intro g2
 .obtain⟨aw,fh,aE⟩:=af.var aL g2;obtain⟨a0,rfl⟩:=dB.addr;have arz:=dB.ext Flat.ext aR;obtain⟨dP,gk⟩:=o.ri aw;have aS:=o.D5 aw;have gG:x.n=(x.n.toNat:Nat):=Ad
  rw[gG] at bI;have aH:o.ef m 0 false x=[(o.fY m x.n.toNat:Int)]:=by unfold o.ef;rw[if_pos g2,o.lY]
  rw[aH];refine J ?_;intro aU XS Z7 aq rO;rw[gk] at rO;refine J ?_;refine S_ (y:=(o.fY m x.n.toNat:Int)) (aJ.nil bX T.a 1 w.heap.size aU) rO rfl (λ_=>rfl) hA CC (by simp[maxLen]) (by have:=aq.size;omega) λaN n c bh dM mP=>?_;have av:=aJ.kG (aJ.nil bX T.a 1 w.heap.size aU) (aR.trans aq) mP (EC _);refine J ?_;exact⟨dM,av⟩
 refine J ?_;apply I_<;>intro g3
 .obtain⟨aw,fh,_⟩:=af.item aL g3;obtain⟨a0,rfl⟩:=dB.addr;obtain⟨ago,rfl⟩:=h1.addr;obtain⟨dP,gk⟩:=o.ri aw;obtain⟨eB,awn⟩:=o.ahH aL aw;have aS:=o.D5 aw;have gG:x.n=(x.n.toNat:Nat):=Ad
  have Ji:o.ef m 0 false x=o.gB (o.fY m x.n.toNat) (o.lu m x.n.toNat):=by
   unfold o.ef o.mm;rw[if_neg g2,if_pos g3,if_neg CC]
  rw[gG] at bI;rw[Ji];have alQ:=ba;have J7:=bo;have FQ:=bI;clear ba bo bI;refine J ?_;refine L_ 8 (o.lu m x.n.toNat) [3,4,5] (λu:B_=>[(7,u)]) (.slice none 0 0) (λk u W=>aJ bX T.a 1 aM.heap.size W u (o.gB (o.fY m x.n.toNat) k)/\Ext aM W) a6 a6 ⟨aJ.nil _ _ _ _ _,Ext.refl _⟩ ?_;rintro k u S aU hk ⟨hu,aq⟩;have bn:=aR.trans aq;obtain⟨sY,nU,rfl,_⟩:=hu.form;have KI:=o.M4 (o.fY m x.n.toNat) k;have ba:=aq.obj alQ;have bo:=aq.obj J7;have bI:=aq.obj FQ;have DJ:=dB.ext Flat.ext bn;have CK:=h1.ext bn;have kN:=ad.ext bn;refine J ?_;refine P_ (.I (o.cells m.vars[x.n.toNat] m.scalars)) (λw' hn=>M1 m.vars[x.n.toNat] _ m.scalars w' (kN.ext hn)) ?_;refine J ?_;intro bh av;have bC:=bn.trans av;replace bo:=av.obj bo;replace bI:=av.obj bI;have Br:=DJ.ext Flat.ext av;have R4:=hu.ext av;clear DJ CK;refine J ?_;apply I_<;>intro g4
  .refine J ?_;intro bq avb e5 aD bS;rw[gk] at bS;refine J ?_;refine S_ (y:=((o.fY m x.n.toNat+k:Nat):Int)) (R4.ext aD) bS (by unfold bX;rw[Int.natCast_add];rfl) (λ_=>rfl) hA Ad (by unfold maxLen;omega) (by have:=aD.size;have:=av.size;have:=aq.size;omega) λaN n c bH dU ko=>?_;have bc:=aJ.kG (R4.ext aD) ((aq.trans av).trans aD) ko (EC _);refine J ?_;refine⟨Ad,aK,_,⟨rfl,trivial⟩,?_,bc⟩;rw[o.TK];exact dU
  .have gS:k=o.lu m x.n.toNat:=Ad
   refine J ?_;exact⟨by rw[<-gS];exact aJ.low z3 R4,bC⟩
 refine J ?_;apply I_<;>intro g6
 .obtain⟨fh,dO⟩:=af.node.len g6;have dE:x.n.toNat<m.ax.length:=dO;obtain⟨db,rfl⟩:=cP.addr;have arA:=cP.ext Flat.ext aR;obtain⟨iV,eB⟩:=o.p1 dE;have gG:x.n=(x.n.toNat:Nat):=Ad
  rw[gG] at bI;have b6:o.ef m 0 false x=[(o.b7 m x.n.toNat:Int)]:=by
   unfold o.ef;rw[if_neg g2,if_neg g3,if_neg Ad,if_pos g6,o.lY]
  rw[b6];refine J ?_;intro aU XS Z7 aq rO;rw[eB] at rO;refine J ?_;refine S_ (y:=(o.b7 m x.n.toNat:Int)) (aJ.nil bX T.a 1 w.heap.size aU) rO rfl (λ_=>rfl) hA CC (by simp[maxLen]) (by have:=aq.size;omega) λaN n c bh dM mP=>?_;have av:=aJ.kG (aJ.nil bX T.a 1 w.heap.size aU) (aR.trans aq) mP (EC _);refine J ?_;exact⟨dM,av⟩
 refine J ?_;apply I_<;>intro g7;rotate_left
 .have eN:o.ef m 0 false x=[]:=by
   unfold o.ef;by_cases g4:x.op=4
   .have:=(af.node.loc g4).2
    have e:(o.ev m).locals=[]:=rfl;rw[e] at this;cases this
   rw[if_neg g2,if_neg g3,if_neg g4,if_neg g6,if_neg g7]
  rw[eN];refine J ?_;exact⟨aJ.nil _ _ _ _ _,aR⟩
 have cM:o.ef m 0 false x=o.nN m (x.n.tdiv 16) (o.insts m).length:=by unfold o.ef;rw[if_neg g2,if_neg g3,if_neg Ad,if_neg g6,if_pos g7]
 rw[cM];obtain⟨fh,vk⟩:=af.node.at_ g7;have RH:=AK4 fh (show(0:Int)<=16 by omega);have RD:(x.n.tdiv 16).toNat<m.procs.length:=vk;have RF:=aL.procs;have abv : -9223372036854775808<=x.n.tdiv 16/\x.n.tdiv 16<=9223372036854775807:=Ad
 have gf:=o.xk aL;refine J ?_;refine J_ (s0 _ m aM (b4.ext aR) aG) ?_;rintro bK aU ⟨dP,aq⟩;obtain⟨b8,ci,rfl,_⟩:=dP.form;have en:ik aU _ _:=aJ.e3 (enc:=o.cO.enc) (λ_=>rfl) dP;have alU:=aq.obj bo;have alV:=aq.obj bI;have bn:=aR.trans aq;clear ba bo bI dP;refine J ?_;refine L_ 10 (o.insts m).length [4,5,9] (λu:B_=>[(7,u)]) (.slice none 0 0) (λk u W=>aJ bX T.a 1 aU.heap.size W u (o.nN m (x.n.tdiv 16) k)/\Ext aU W) a6 a6 ⟨by simpa[o.nN] using aJ.nil _ _ _ _ _,Ext.refl _⟩ ?_;rintro k u S bh hk ⟨hu,av⟩;obtain⟨sY,nU,rfl,_⟩:=hu.form;have KI:=(o.Ix aL (x.n.tdiv 16) k hk).len;have bo:=av.obj alU;have bI:=av.obj alV;have bC:=bn.trans av;have Rh:=en.ext Flat.ext av;have ot:=cA.ext Flat.ext bC;refine J ?_;apply I_<;>intro g1
 .have cb:k<(o.insts m).length:=Ad
  obtain⟨gp,rfl⟩:=en.addr;obtain⟨sG,iv⟩:=o.oe cb;obtain⟨a2,rfl⟩:=cA.addr;have jJ:=o.zX (m:=m) (p:=x.n.tdiv 16) cb;refine J ?_;refine _C Ad ?_;refine J ?_;intro bq aD;replace bo:=aD.obj bo;have R5:=hu.ext aD;have MX:=ot.ext Flat.ext aD;have gV:=av.trans aD;clear Rh ot;refine J ?_;apply I_<;>intro g2
  .rw[if_pos g2,o.lY] at jJ;refine J ?_;intro bH avd gZ bc bZ;rw[iv] at bZ;refine J ?_;refine S_ (y:=(o.cU m k:Int)) (R5.ext bc) bZ rfl (λ_=>rfl) hA Ad (by unfold maxLen;omega) (by have:=bc.size;have:=gV.size;omega) λaN n c cB gw tM=>?_;have bt:=aJ.kG (R5.ext bc) (gV.trans bc) tM (EC _);refine J ?_;refine⟨cb,aK,_,⟨rfl,trivial⟩,?_,bt⟩;rw[jJ];exact gw
  .rw[if_neg g2,SN] at jJ;refine J ?_;refine⟨cb,aK,_,⟨aK,trivial⟩,?_,gV⟩;rw[jJ];exact R5
 .have gS:(o.insts m).length=k:=Ad
  rw[gS];refine J ?_;exact⟨aJ.low bn.size hu,bC⟩
end Go.Proofs.R
namespace o
open Go
def zo(m:Model)(e:C_ Node)(k:Nat):C_ Int:=(e.take k).flatMap (ef m 0 false)
def aq8{m:Model}{e:C_ Node}{k:Nat}(h:k<e.length):zo m e (k+1)=zo m e k++ef m 0 false e[k]:=by
 unfold zo;rw[Iu h,AF8];simp
def aq7(m:Model)(e:C_ Node):zo m e e.length=xF m e:=by unfold zo xF;rw[AE8]
def xM(m:Model)(k:Nat):C_ Int:=(m.props.take k).flatMap λp=>xF m p.expr
def asX{m:Model}{k:Nat}(h:k<m.props.length):xM m (k+1)=xM m k++xF m m.props[k].expr:=by
 unfold xM;rw[Iu h,AF8];simp
def asW(m:Model):xM m m.props.length=s3 m:=by unfold xM s3;rw[AE8]
end o
namespace Go.Proofs.R
open Go Go.RowKit a8
structure zT(w:World)(b N:Nat)(L:List Int):Prop where
 row:∃ae,w.heap[b]? = some (.cells (mG ae).toArray T.j)/\o.oE N L ae
theorem zT.ext{w w':A_}{b N:Nat}{L:C_ Int}(h:zT w b N L)(he:Ext w w'):zT w' b N L:=by
 obtain⟨ae,h1,I⟩:=h.row;exact⟨ae,he.obj h1,I⟩
def asC(cs:C_ B_)(m:o.Model)(w:A_)(h:o.dj w cs m)(aG:m.cv) :
  Du F.Mk #[.agg cs.toArray] w λu w'=>(∃b n,((o.jC m=[]/\n=0/\u = .slice none 0 0)\/u = .slice (some ⟨b,0,none⟩) n n/\n=(o.jC m).length/\w.heap.size<=b/\w'.heap[b]? = some (.cells (mG (o.jC m)).toArray T.j)))/\Ext w w':=by
 have b4:=h;obtain⟨b0,bz,bO,c1,bT,c2,bV,bu,b1,bB,rfl,ad,h1,I,ab,aC,eu,dz,dJ,dR,ee⟩:=h.form;refine bl E.Mk ?_;refine J ?_;intro w1 bx cN ag al;refine J ?_;refine J_ (MB _ m w1 (b4.ext ag) aG) ?_;rintro _ aA ⟨rfl,ai⟩;replace al:=ai.obj al;have aH:=ag.trans ai;refine J ?_;apply I_<;>intro g1;rotate_left
 .have e:o.jC m=[]:=by unfold o.jC;rw[if_neg g1]
  refine J ?_;exact⟨⟨0,0,.inl ⟨e,rfl,aK⟩⟩,aH⟩
 have gQ:=o.hE g1;have AQ:o.lay m=o.layout m:=by unfold o.lay;rw[if_pos g1]
 have p8:o.di m<=64:=o.iG gQ;have p9:=o.adD g1;refine J ?_;refine J_ (TF _ m aA (b4.ext aH) aG) ?_;rintro _ aM ⟨⟨ys,rfl,ch⟩,ah⟩;have aR:=aH.trans ah;replace al:=ah.obj al;rw[AQ] at ch;have ZR:=ch.here;have py:=ZR;obtain⟨eH,d0,dK,d1,eg,d2,eD,d3,eU,d4,rfl,_⟩:=ZR.form;have dL:(o.layout m).cells=(o.di m:Nat):=rfl;refine J ?_;intro aU bW eX aq ba;replace al:=aq.obj al;have bn:=aR.trans aq;have Au:=py.ext aq;refine J ?_;refine AA5 (o.di m) dL Ad λbh b ak av bI=>?_;have oQ:zT bh b (o.di m) (o.xM m 0):=⟨_,bI,o.oE.start _⟩;have jt:=cq bI;have p4:∀{W},Mod (λi=>i=b) bh W->Ext aU W:=λhm=>hm.ext av λk hk e=>Ad
 clear bI;refine J ?_;refine L_ 5 m.props.length [1,3,4] (λ_:Unit=>[]) () (λk _ W=>zT W b (o.di m) (o.xM m k)/\Mod (λi=>i=b) bh W) a6 a6 ⟨oQ,Mod.refl _ _⟩ ?_;rintro k _ jW bq hk ⟨yL,iX⟩;have tC:=p4 iX;have b6:=bn.trans tC;have oS:=tC.obj al;refine J ?_;apply I_<;>intro g2;rotate_left
 .have gS:k=m.props.length:=Ad
  rw[gS,o.asW] at yL;obtain⟨ae,aQ,aj⟩:=yL.row;have iZ:=aj.aeG g1;subst iZ;have aE:=aj.len;refine J ?_;exact⟨⟨b,o.di m,.inr ⟨rfl,aE.symm,by have:=bn.size;omega,aQ⟩⟩,b6⟩
 have cb:k<m.props.length:=Ad
 obtain⟨a4,rfl⟩:=aC.addr;obtain⟨kr,gP,c3,hd⟩:=aC.at k cb;obtain⟨MM,ce,rfl,_⟩:=hd.form;have en:=o.To g1 cb;have hle:=en.len;unfold o.lE.enc at c3;have xb:=c3.ext b6;refine J ?_;refine L_ 7 m.props[k].expr.length [1,3,4,5,6] (λ_:Unit=>[]) () (λi _ W=>zT W b (o.di m) (o.xM m k++o.zo m m.props[k].expr i)/\Mod (λi=>i=b) bh W) a6 a6 ⟨by simpa[o.zo] using yL,iX⟩ ?_;rintro i _ Ey bH U ⟨FC,hb⟩;have sB:=p4 hb;have cM:=bn.trans sB;have QB:=sB.obj al;have aac:=sB.obj ba;refine J ?_;apply I_<;>intro g3;rotate_left
 .have iv:i=m.props[k].expr.length:=Ad
  rw[iv,o.aq7] at FC;refine J ?_;refine⟨cb,aK,(),trivial,?_,hb⟩;rw[o.asX cb];exact FC
 have lO:i<m.props[k].expr.length:=Ad
 obtain⟨rB,rfl⟩:=hd.addr;have kK:=hd.at i lO;have KD:=o.adE g1 cb (ED lO);have y1:=kK.cells.ext cM;refine J ?_;intro cB bt;replace QB:=bt.obj QB;replace aac:=bt.obj aac;replace y1:=y1.ext bt;refine J ?_;refine J_ (arT m.props[k].expr[i] _ _ m cB (b4.ext (cM.trans bt)) aG (Au.ext (sB.trans bt)) gQ KD kK.ok) ?_;rintro _ cG ⟨fj,b2⟩;obtain⟨on,Co,rfl,_⟩:=fj.form;have ak6:bm 1 (Flat bX) cG _ _:=aJ.e3 (enc:=bX) (λ_=>rfl) fj;have aaG:=bt.trans b2;have CV:=FC.ext aaG;have mh:=hb.trans aaG.mod;have cu:=KD.lt gQ;have mc:b<cB.heap.size:=by have:=hb.size;have:=bt.size;omega
 have awB:(o.ef m 0 false m.props[k].expr[i]).length<=9223372036854775807:=by
  obtain⟨_,_,e,h1,I,_⟩:=ak6.ex;unfold maxLen at I;omega
 refine J ?_;refine L_ 9 (o.ef m 0 false m.props[k].expr[i]).length [1,3,4,5,6,7,8] (λ_:Unit=>[]) () (λj _ W=>zT W b (o.di m) (o.xM m k++o.zo m m.props[k].expr i++(o.ef m 0 false m.props[k].expr[i]).take j)/\Mod (λi=>i=b) cG W) a6 a6 ⟨by simpa using CV,Mod.refl _ _⟩ ?_;rintro j _ pW ew az ⟨Qn,pB⟩;have ak4:=aJ.mod fj pB (λq au e=>by have:=(aJ.lt fj q au).1;omega);have yH:=aJ.e3 (enc:=bX) (λ_=>rfl) ak4;refine J ?_;apply I_<;>intro g4;rotate_left
 .have aaW:j=(o.ef m 0 false m.props[k].expr[i]).length:=Ad
  rw[aaW,AE8] at Qn;refine J ?_;refine⟨lO,aK,(),trivial,?_,mh.trans pB⟩;rw[o.aq8 lO,<-MV];exact Qn
 have ju:j<(o.ef m 0 false m.props[k].expr[i]).length:=Ad
 obtain⟨OL,rfl⟩:=yH.addr;obtain⟨z0,fQ⟩:=cu _ (ED ju);obtain⟨ae,aQ,aj⟩:=Qn.row;have anq:=aj.len;have bA:(o.ef m 0 false m.props[k].expr[i])[j]=(((o.ef m 0 false m.props[k].expr[i])[j]).toNat:Nat):=Ad
 have abr:=aj.put (c:=((o.ef m 0 false m.props[k].expr[i])[j]).toNat) Ad;rw[<-bA] at abr;refine J ?_;refine K_ ((o.ef m 0 false m.props[k].expr[i])[j]).toNat bA Ad ?_;refine J ?_;refine AA6 aQ Ad λfB hT iU=>?_;refine J ?_;refine⟨ju,aK,(),trivial,⟨_,iU,?_⟩,pB.trans (hT.mod rfl)⟩;rw[Iu ju,<-MV];exact abr
end Go.Proofs.R
namespace o
structure af0(m:Model):Prop where
 s:m.scalars.length<=8
 v:m.vars.length<=20
 c:m.ax.length<=8
 p:m.procs.length<=10
 q:m.props.length<=16
 i:∀(j:Nat) (h:j<m.procs.length),m.procs[j].vars.length<=10/\m.procs[j].c0.length<=16
end o