/- Parts. -/
import Derived.Test.YtakmdjclehkglaaGreatDoorQamo
import Derived.Shelf.SlSortCmp.WholeK
import Derived.Shelf.SlSortCmp.NoneTotal
set_option linter.all false
set_option maxRecDepth 8000
set_option maxHeartbeats 16000000
namespace o
open Go
structure ml(m:Model)(n:Nat)(L:List (List Int×List Int)):Prop where
 len:L.length=n
 is:∀i (h:i<L.length),kM m i L[i].1 L[i].2
def ml.nil(m:Model):ml m 0 []:=⟨rfl,λi h=>absurd h (E3 _)⟩
def ml.snoc{m:Model}{n:Nat}{L:C_ (C_ Int×C_ Int)}{a b:C_ Int}(h:ml m n L)(aT:kM m n a b):ml m (n+1) (L++[(a,b)]):=by
 refine⟨by rw[HO,h.len];rfl,λi U=>?_⟩;by_cases e:i<L.length
 .rw[AH3 e];exact h.is i e
 .have aD:i=L.length:=by simp at U;omega
  subst aD;rw[AH4 (E1 _)];simp only[Nat.sub_self,List.getElem_cons_zero];rw[h.len];exact aT
def ml.eq{m:Model}{n:Nat}{L nS:C_ (C_ Int×C_ Int)}(h:ml m n L)(bq:ml m n nS):L=nS:=by
 refine AK8 (h.len.trans bq.len.symm) λi h1 J=>?_;obtain⟨bG,aD⟩:=(h.is i h1).eq (bq.is i J);exact Prod.ext bG aD
end o
namespace Go.Proofs.R
open Go Go.RowKit ba o
def zU(w:A_)(cs:C_ B_)(x:C_ Int×C_ Int):Prop := ∃v1 v2,cs=[v1,v2]/\c3 w v1 x.1/\c3 w v2 x.2
def OO(w:A_)(a:Addr)(x:C_ Int×C_ Int):Prop := ∃v1 v2,ff w a [v1,v2]/\c3 w v1 x.1/\c3 w v2 x.2
theorem adH{w:A_}{v:B_}{l:C_ Int}(h:c3 w v l):v.oneCell'=true:=by
 obtain⟨ae,c,rfl,_⟩:=h.form;rfl
instance:Rel OO zU 2 where
 out:=λ⟨v1,v2,h,h1,J⟩=>⟨_,h,v1,v2,rfl,h1,J⟩
 pb:=λh ⟨v1,v2,e,h1,J⟩=>⟨v1,v2,e ▸ h,h1,J⟩
 len:=λ⟨v1,v2,e,_⟩=>by rw[e];rfl
 one:=λ⟨v1,v2,e,h1,J⟩ u hu=>by
  rw[e] at hu;simp only[List.mem_cons,List.not_mem_nil,or_false] at hu;rcases hu with rfl | rfl
  .exact adH h1
  .exact adH J
 ext:=λhe ⟨v1,v2,e,h1,J⟩=>⟨v1,v2,e,h1.ext Flat.ext he,J.ext Flat.ext he⟩
def MW{w w1:A_}{v:B_}{l:C_ Int}(h:aK bX T.a 1 w.heap.size w1 v l):er w (λW=>c3 W v l) w1:=λW m =>
 aK.e4 (enc:=bX) (λ_=>rfl) (aK.mod h m λk hk a=>by have:=(aK.lt h k hk).1;omega)
def auG(cs:C_ B_)(m:o.Model)(w:A_)(h:dh w cs m)(aG:m.cr)(aS:gQ w)(ck:uU m) :
  Ei F.yx #[.agg cs.toArray] w λv w'=>(∃L base,ml m (o.refs m).length L/\w.heap.size<=base/\base<=w'.heap.size/\eO zU T.ap 2 base w' v L)/\Ext w w':=by
 have b2:=h;obtain⟨bZ,bz,bN,c1,bT,c2,bW,bw,b1,bD,rfl,_⟩:=h.form;have hM:=pn ck;refine bk E.yx ?_;refine I ?_;intro w1 bx cN af al;refine I ?_;refine J_ (zK _ m w1 (b2.ext af) ck) ?_;rintro vr az ⟨fp,ai⟩;obtain⟨e1,mS,rfl,_⟩:=fp.form;replace al:=ai.obj al;have aD:=af.trans ai;have z2:=aD.size;clear fp;refine I ?_;refine L_ 10 (o.refs m).length [1,9] (λu:B_=>[(3,u)]) (.slice none 0 0) (λk u W => ∃L,ml m k L/\eO zU T.ap 2 az.heap.size W u L/\Ext az W) a6 a6 ⟨[],ml.nil m,eO.nil _ _ _ _ _,Ext.refl _⟩ ?_;rintro k u S aM hk ⟨L,gS,bA,ag⟩;have aO:=aD.trans ag;have gw:=ag.obj al;refine I ?_;apply I_<;>intro g1;rotate_left
 .have gO:k=(o.refs m).length:=Aw
  rw[gO] at gS;refine I ?_;exact⟨⟨L,_,gS,z2,ag.size,bA⟩,aO⟩
 have b8:k<(o.refs m).length:=Aw
 have QH:=gS.len;obtain⟨rr,mT,rfl,_⟩:=bA.form;refine I ?_;refine J_ (WN _ m k aM (b2.ext aO) aG (aS.ext aO)) ?_;rintro _ aR ⟨⟨va,iS,a,b,rfl,e2,Be,QC⟩,aq⟩;have aw:=((MW e2).and (MW Be)).imp (q:=λW=>zU W [va,iS] (a,b)) λW h=>⟨va,iS,rfl,h.1,h.2⟩;obtain⟨aN,fh,rfl,_⟩:=e2.form;obtain⟨ph,sG,rfl,_⟩:=Be.form;have z3:=ag.size;have z4:=aq.size;clear e2 Be;refine I ?_;intro bg IV jc ar bI;have z5:=ar.size;have sP:=(bA.ext aq).ext ar;refine I ?_;refine _F sP (hK bI) ((er.ext aw ar z4).own bA z3) rfl (by simp[Value.oneCell']) Aw (by unfold maxLen;omega) Aw λbU bp sQ ie=>?_;have aC:=sP.jL ((ag.trans aq).trans ar) ie (E1 _);refine I ?_;exact⟨b8,aJ,_,⟨rfl,trivial⟩,_,gS.snoc QC,sQ,aC⟩
def atd(cs:C_ B_)(m:o.Model)(w:A_)(h:dh w cs m)(aG:m.cr)(ck:uU m) :
  Ei F.MK #[.agg cs.toArray] w λv w'=>(∃L base,ml m (o.refs m).length L/\w.heap.size<=base/\base<=w'.heap.size/\eO zU T.adk 2 base w' v L)/\Ext w w':=by
 have b2:=h;obtain⟨bZ,bz,bN,c1,bT,c2,bW,bw,b1,bD,rfl,_⟩:=h.form;have hM:=pn ck;refine bk E.MK ?_;refine I ?_;intro w1 bx cN af al;have fT:=af.size;refine I ?_;refine L_ 4 (o.refs m).length [1] (λu:B_=>[(3,u)]) (.slice none 0 0) (λk u W => ∃L,ml m k L/\eO zU T.adk 2 w1.heap.size W u L/\Ext w1 W) a6 a6 ⟨[],ml.nil m,eO.nil _ _ _ _ _,Ext.refl _⟩ ?_;rintro k u S az hk ⟨L,gS,bA,ai⟩;have aD:=af.trans ai;have ic:=ai.obj al;have QH:=gS.len;obtain⟨rr,mT,rfl,_⟩:=bA.form;refine I ?_;refine J_ (zJ _ m az (b2.ext aD) aG ck) ?_;rintro vr aM ⟨fp,ag⟩;obtain⟨e1,mS,rfl,_⟩:=fp.form;replace ic:=ag.obj ic;have fw:=ai.trans ag;have aO:=aD.trans ag;have Qz:=bA.ext ag;clear fp;refine I ?_;apply I_<;>intro g1;rotate_left
 .have gO:k=(o.refs m).length:=Aw
  rw[gO] at gS;refine I ?_;exact⟨⟨L,_,gS,fT,fw.size,Qz⟩,aO⟩
 have b8:k<(o.refs m).length:=Aw
 refine I ?_;refine J_ (ael _ m k aM (b2.ext aO) aG) ?_;rintro _ aR ⟨⟨va,iS,a,b,rfl,e2,Be,QC⟩,aq⟩;have aw:=((MW e2).and (MW Be)).imp (q:=λW=>zU W [va,iS] (a,b)) λW h=>⟨va,iS,rfl,h.1,h.2⟩;obtain⟨aN,fh,rfl,_⟩:=e2.form;obtain⟨ph,sG,rfl,_⟩:=Be.form;have z3:=fw.size;have z4:=aq.size;clear e2 Be;refine I ?_;intro bg IV jc ar bI;have z5:=ar.size;have sP:=(Qz.ext aq).ext ar;refine I ?_;refine _F sP (hK bI) ((er.ext aw ar z4).own Qz z3) rfl (by simp[Value.oneCell']) Aw (by unfold maxLen;omega) Aw λbU bp sQ ie=>?_;have aC:=sP.jL ((fw.trans aq).trans ar) ie (E1 _);refine I ?_;exact⟨b8,aJ,_,⟨rfl,trivial⟩,_,gS.snoc QC,sQ,aC⟩
end Go.Proofs.R
namespace o
open Go
def OL(s:Scope)(x:Node):Prop:=x.op=3->∃v,s.vars[x.n.toNat]? = some v/\v.over≠0
def apA{s:Scope}{x:Node}{top:Int}(h:(jC x s top).2=0):OL s x:=by
 intro aO;unfold jC at h;rw[if_neg Aw,if_pos Aw] at h;simp only at h;by_cases av:(gB (if x.op=4 then s.locals else s.vars) x.n s).2.2=false
 .rw[if_pos av] at h;cases h
 rw[if_neg av] at h;obtain⟨v,cM,cW,fr,hN,vL,DL⟩:=ac0 (by simpa using av);obtain⟨bN,bT,bW⟩:=acS DL;rw[hN] at h;simp only at h;by_cases ab:(x.op=3/\((hP v.over s).1=0\/top≠(hP v.over s).1))\/(x.op≠3/\(hP v.over s).1≠0)
 .rw[if_pos ab] at h;cases h
 .refine⟨v,?_,λad=>ab (.inl ⟨aO,.inl ?_⟩)⟩
  .rw[if_neg Aw] at cW;exact cW
  .rw[bW,if_pos ad]
def ao7{e:C_ Node}{s:Scope}(h:(kind e s).2=0):∀k (hk:k<e.length),OL s e[k]:=by
 unfold kind nm at h;by_cases h1:e.length > 24
 .rw[if_pos h1] at h;cases h
 rw[if_neg h1] at h;by_cases J:e.length=0
 .exact λk hk=>Aw
 rw[if_neg J] at h;by_cases ab:(gq (fZ s) e []).1≠0
 .rw[if_pos ab] at h;exact absurd h ab
 have ab:(gq (fZ s) e []).1=0:=by simpa using ab
 intro k hk;have s0:∀j,(gq (fZ s) (e.take j) []).1=0:=λj=>Classical.byContradiction λaw=>by
  have:=Ud (f:=fZ s) (e:=e) (k:=j) rfl aw
  rw[this] at ab;exact aw ab
 have hY:gq (fZ s) (e.take k) []=(0,(gq (fZ s) (e.take k) []).2):=Prod.ext (s0 k) rfl;have aF:=Ec hk hY;have a7:=s0 (k+1);rw[aF] at a7;unfold stepG at a7;by_cases c7:fR e[k].op<0
 .rw[if_pos c7] at a7;cases a7
 rw[if_neg c7] at a7;by_cases dE:((gq (fZ s) (e.take k) []).2.length:Int)<fR e[k].op
 .rw[if_pos dE] at a7;cases a7
 rw[if_neg dE] at a7;by_cases ed:(fZ s e[k] (gq (fZ s) (e.take k) []).2).2≠0
 .rw[if_pos ed] at a7;exact absurd a7 ed
 have ed:(fZ s e[k] (gq (fZ s) (e.take k) []).2).2=0:=by simpa using ed
 by_cases aS:zt e[k].op=false
 .unfold fZ at ed;rw[Tr aS] at ed;exact apA ed
 .intro aO;simp only[zt,decide_eq_false_iff_not] at aS;omega
def arH{m:Model}(h:(check m).cJ=0){j:Nat}(ay:j<m.props.length):(kind m.props[j].expr (eC m)).2=0:=by
 obtain⟨_,_,ab⟩:=Pw h;have dr:=M6 ab j ay;rw[FE ay] at dr;refine Classical.byContradiction λaw=>?_
 repeat' split at dr
 all_goals first | omega | (exact absurd dr aw) | skip
 all_goals contradiction
def ach{m:Model}{q:Nat}(h:q<(insts m).length):cV m q+1<=di m:=by
 obtain⟨p,au⟩:=Bs h
 have:=au.room
 omega
def Eu{m:Model}{v:Nat}(h:v<m.vars.length):gb m v+lI m v<=di m:=by
 have:=sl h
 rw[rp h]
 have:=nC m
 omega
def Yr{m:Model}{c:Nat}(h:c<m.aA.length):b6 m c+(1+gF m c)<=di m:=by
 have:=wL h
 rw[oT h]
 have:=nC m
 omega
structure wy(m:Model)(x:Node):Prop where
 node:Ci (eC m) x
 over:OL (eC m) x
def wy.var{m:Model}(aL:eE m){x:Node}(h:wy m x)(e:x.op=2):∃aw:x.n.toNat<m.vars.length,0<=x.n/\lI m x.n.toNat=1:=by
 obtain⟨ad,v,aH,iE⟩:=h.node.var e;have dS:m.vars[x.n.toNat]? = some v:=aH;obtain⟨h1,J⟩:=List.getElem?_eq_some_iff.1 dS;refine⟨h1,ad,?_⟩;rw[rp h1,J];unfold cells;rw[if_pos iE];rfl
theorem wy.item{m:Model}(aL:eE m){x:Node}(h:wy m x)(e:x.op=3):∃aw:x.n.toNat<m.vars.length,0<=x.n/\∃aS:((m.vars[x.n.toNat]).over - 1).toNat<m.scalars.length,1<=(m.vars[x.n.toNat]).over/\(m.scalars[((m.vars[x.n.toNat]).over - 1).toNat]).size=(lI m x.n.toNat:Nat)/\lI m x.n.toNat<=4:=by
 obtain⟨ad,_⟩:=h.node.item e;obtain⟨v,aH,iE⟩:=h.over e;have dS:m.vars[x.n.toNat]? = some v:=aH;obtain⟨h1,J⟩:=List.getElem?_eq_some_iff.1 dS;have c9:=aL.var _ (E2 h1);have aj:size (m.vars[x.n.toNat]).over m.scalars≠0:=by
  rcases c9.ei with q | q
  .rw[J] at q;exact absurd q iE
  .exact q
 have an:cells (m.vars[x.n.toNat]) m.scalars=size (m.vars[x.n.toNat]).over m.scalars:=by
  unfold cells;rw[if_neg (by rw[J];exact iE)]
 refine⟨h1,ad,?_⟩;rw[rp h1,an];unfold size at aj ⊢;cases hk:m.scalars[((m.vars[x.n.toNat]).over - 1).toNat]? with
 | none=>rw[hk] at aj;exact absurd rfl aj
 | some y =>
  rw[hk] at aj;simp only at aj ⊢;obtain⟨g1,g2⟩:=List.getElem?_eq_some_iff.1 hk;by_cases q:1<=(m.vars[x.n.toNat]).over/\1<=y.size/\y.size<=4
  .rw[if_pos q];refine⟨g1,q.1,?_,?_⟩
   .rw[g2];omega
   .omega
  .rw[if_neg q] at aj;exact absurd rfl aj
def ad4{m:Model}(h:(check m).cJ=0){j:Nat}(ay:j<m.props.length){x:Node}(ah:x∈m.props[j].expr):wy m x:=by
 obtain⟨k,hk,rfl⟩:=List.mem_iff_getElem.1 ah;exact⟨((TF h ay).node k hk).1,ao7 (arH h ay) k hk⟩
def wy.lt{m:Model}(aL:eE m){x:Node}(h:wy m x):∀z∈ek m 0 false x,0<=z/\z<di m:=by
 intro z bB;unfold ek at bB;by_cases J:x.op=2
 .rw[if_pos J] at bB;obtain⟨aw,_,aE⟩:=h.var aL J
  have:=Eu aw
  have:=qz.1 bB
  omega
 rw[if_neg J] at bB;by_cases ab:x.op=3
 .rw[if_pos ab] at bB;obtain⟨aw,_⟩:=h.item aL ab
  have:=Eu aw
  unfold mC at bB;rw[if_neg CC] at bB
  have:=qz.1 bB
  omega
 rw[if_neg ab] at bB;by_cases aF:x.op=4
 .obtain⟨_,a7⟩:=h.node.loc aF
  have:(eC m).locals=[]:=rfl
  rw[this] at a7;cases a7
 rw[if_neg aF] at bB;by_cases bJ:x.op=6
 .rw[if_pos bJ] at bB;have an:x.n.toNat<m.aA.length:=(h.node.len bJ).2
  have:=Yr an
  have:=qz.1 bB
  omega
 rw[if_neg bJ] at bB;by_cases ct:x.op=7
 .rw[if_pos ct] at bB;unfold nX at bB;obtain⟨j,ay,bB⟩:=List.mem_flatMap.1 bB;split at bB
  .have:=ach (m:=m) (List.mem_range.1 ay)
   have:=qz.1 bB
   omega
  .cases bB
 .rw[if_neg ct] at bB;cases bB
def AB(x:Nat×Nat):C_ B_:=[.slice (some ⟨x.1,0,none⟩) x.2 x.2]
def q7(m:Model)(bs:C_ Nat):C_ (Nat×Nat):=bs.zip (m.procs.map λp=>p.cn.toNat)
theorem y8{m:Model}{bs:C_ Nat}(h:bs.length<=m.procs.length):(q7 m bs).length=bs.length:=by simp[q7];omega
def Gp{m:Model}{bs:C_ Nat}{k:Nat}(h:k<bs.length)(au:k<m.procs.length):(q7 m bs)[k]? = some (bs[k],m.procs[k].cn.toNat):=by
 simp[q7,List.getElem?_zip_eq_some,h,au]
def amZ{m:Model}{bs:C_ Nat}{b:Nat}(au:bs.length<m.procs.length):q7 m (bs++[b])=q7 m bs++[(b,m.procs[bs.length].cn.toNat)]:=by
 apply List.ext_getElem?;intro i;by_cases h1:i<bs.length
 .rw[Gp (by simp;omega) Aw,List.getElem?_append_left (by rw[y8 Aw];exact h1),Gp h1 Aw];simp[List.getElem_append_left h1]
 .by_cases J:i=bs.length
  .subst J;rw[Gp CC au,List.getElem?_append_right (by rw[y8 Aw];exact E1 _),y8 Aw];simp
  .rw[List.getElem?_eq_none (by rw[y8 (by simp;omega)];simp;omega),List.getElem?_eq_none (by rw[HO,y8 Aw];simp;omega)]
end o
namespace Go.Proofs.R
open Go Go.RowKit ba o
structure oH(m:o.Model)(base:Nat)(bs:List Nat)(oa:Nat->List Int)(v:Value)(W:World):Prop where
 row:aK AB T.b 1 base W v (q7 m bs)
 low:∀b∈bs,base<=b
 nodup:bs.Nodup
 cy:∀p (h:p<bs.length),W.heap[bs[p]]? = some (.cells (oy (oa p)).toArray T.a)
theorem oH.ext{m:o.Model}{base:Nat}{bs:C_ Nat}{oa:Nat->C_ Int}{v:B_}{w w':A_}(h:oH m base bs oa v w)(he:Ext w w'):oH m base bs oa v w' :=
 ⟨h.row.ext he,h.low,h.nodup,λp au=>he.obj (h.cy p au)⟩
def oH.mod{m:o.Model}{base:Nat}{bs:C_ Nat}{oa:Nat->C_ Int}{v:B_}{w w':A_}{A:Nat->Prop}(h:oH m base bs oa v w)(hm:Mod A w w')(dd:∀k,A k->k<base):oH m base bs oa v w' :=
 ⟨h.row.mod hm λk hk a=>by have:=(h.row.lt k hk).1;have:=dd k a;omega,h.low,h.nodup,λp au=>hm.obj (λa=>by have:=h.low _ (E2 au);have:=dd _ a;omega) (h.cy p au)⟩
def aqn{l:C_ Nat}(h:l.Nodup){i j:Nat}(U:i<l.length)(ay:j<l.length)(e:l[i]=l[j]):i=j:=by
 rcases Nat.lt_trichotomy i j with h1 | h1 | h1
 .exact absurd e (List.pairwise_iff_getElem.1 h i j U ay h1)
 .exact h1
 .exact absurd e.symm (List.pairwise_iff_getElem.1 h j i ay U h1)
def ajp(x:Nat×Nat):∀u∈AB x,u.oneCell'=true:=by simp[AB,Value.oneCell']
def oH.step{m:o.Model}{base:Nat}{bs:C_ Nat}{oa PA:Nat->C_ Int}{v:B_}{w w':A_}{q:Nat}(h:oH m base bs oa v w)(av:q<bs.length)(hw:dw bs[q] w w')(an:w'.heap[bs[q]]? = some (.cells (oy (PA q)).toArray T.a))
  (aj:∀p,p<bs.length->p≠q->PA p=oa p):oH m base bs PA v w':=by
 refine⟨h.row.mod (hw.mod (A:=λi=>i=bs[q]) rfl) λk hk e=>?_,h.low,h.nodup,λp au=>?_⟩
 .obtain⟨cur,h1⟩:=h.row.cy k hk;have J:=h.cy q av;rw[e,J] at h1;injection h1 with h1
  injection h1 with _ h1
  revert h1;decide
 .by_cases e:p=q
  .subst e;exact an
  .rw[aj p au e];exact hw.obj (h.cy p au) λaD=>e (aqn h.nodup au av aD)
def oH.snoc{m:o.Model}{base:Nat}{bs:C_ Nat}{oa:Nat->C_ Int}{v bU:B_}{w w':A_}{b:Nat}(h:oH m base bs oa v w)(hk:bs.length<m.procs.length)(kV:aK AB T.b 1 base w' bU (q7 m bs++[(b,m.procs[bs.length].cn.toNat)]))
  (aG:w.grownBy w' v.ownBlock)(ak:base<=b)(GK:∀p (au:p<bs.length),bs[p]≠b)(an:w.heap[b]? = some (.cells (oy (oa bs.length)).toArray T.a)):oH m base (bs++[b]) oa bU w':=by
 refine⟨by rw[amZ hk];exact kV,λx ah=>?_,?_,λp au=>?_⟩
 .rcases List.mem_append.1 ah with ah | ah
  .exact h.low x ah
  .rw[AF2] at ah;omega
 .rw[AK4];refine⟨h.nodup,CC,λa aY c an e=>?_⟩;rw[AF2] at an;obtain⟨p,au,rfl⟩:=List.mem_iff_getElem.1 aY;exact GK p au (by rw[e,an])
 .by_cases xo:p<bs.length
  .rw[AH3 xo];exact h.row.box aG (h.cy p xo) BS
  .have e:p=bs.length:=by simp at au;omega
   subst e;rw[AH4 (E1 _)];simpa using h.row.box aG an BS
def oH.aqs{m:o.Model}{base:Nat}{bs:C_ Nat}{oa:Nat->C_ Int}{v:B_}{W:A_}{L:C_ (C_ Int)}(h:oH m base bs oa v W)(ak:bs.length=m.procs.length)(ck:L.length=m.procs.length)
  (aE:∀p (au:p<m.procs.length),(oa p).length=m.procs[p].cn.toNat/\m.procs[p].cn.toNat<=12)(an:∀p,p<m.procs.length->L[p]? = some (oa p)):yp W v L:=by
 obtain⟨aN,cap,rfl,h1,J,ab,aF⟩:=(aK.iR (enc:=AB) (sz:=1) (λ_=>rfl) h.row).ex;have cI:=y8 (m:=m) (bs:=bs) Aw;refine⟨aN,cap,by rw[cI,ak,ck],Aw,J,λaw=>ab (by intro e;rw[e] at cI;simp at cI;exact aw (AF7 Aw)),λa aY i U=>?_⟩;have cw:i<m.procs.length:=Aw
 have aG:=Gp (m:=m) (bs:=bs) (k:=i) Aw cw;obtain⟨cu,Rr⟩:=List.getElem?_eq_some_iff.1 aG;have gI:=aF a aY i cu 0 _ (show(AB (q7 m bs)[i])[0]? = some _ from rfl);rw[Rr,add_zero] at gI;refine⟨_,gI,?_⟩;obtain⟨_,alq⟩:=List.getElem?_eq_some_iff.1 (an i cw);rw[alq];exact Tm (h.cy i Aw) (aE i cw).1.symm (by have:=aE i cw;unfold maxLen;omega)
end Go.Proofs.R
namespace ba
open Go Go.RowKit
def agf(_:A_)(cs:C_ B_)(x:Nat):Prop:=cs=vc x
instance axw:Rel (Flat vc) agf 1 where
 out h:=⟨_,h,rfl⟩
 pb h k:=by cases k;exact h
 len h:=by cases h;rfl
 one h:=by cases h;exact ajo _
 ext _ h:=h
def mQ(ae:C_ Bool):C_ B_:=ae.map Value.bool
def avl(n:Nat):sr (Value.bool false).cells (n*1)=(mQ (List.replicate n false)).toArray:=by
 apply Array.ext_getElem?;intro i;by_cases h:i<n
 .simp[sr,mQ,Value.cells,h,Nat.mod_one]
 .simp[sr,mQ,h]
def AA5{cO:B_->A_->Prop}{w:A_}{e:F_}{n:Int}{t}(N:Nat)(aw:n=N)(ak:N<=1000000)(hk:∀w1 b,w.heap.size<=b->Ext w w1->w1.heap[b]? = some (.cells (mQ (List.replicate N false)).toArray e)->cO (.slice (some ⟨b,0,none⟩) N N) w1) :
  EN e 1 1 (.bool false) (.I n) (.I n) w cO t:=by
 subst aw;refine _6 ⟨Aw,Aw,Aw,Aw⟩ ?_;have h:=hk (w.alloc (.cells (mQ (List.replicate N false)).toArray e)) _ (E1 _) ((Ext.refl w).alloc _) (heap_alloc_new w _);rw[AG8,avl];exact h
def AA6{b c:Nat}{ae:C_ Bool}{w:A_}{e:F_}{KW:A_->Prop}{t}(h:w.heap[b]? = some (.cells (mQ ae).toArray e))(an:c<ae.length)
  (hk:∀w1,dw b w w1->w1.heap[b]? = some (.cells (mQ (ae.set c true)).toArray e)->KW w1):sy (.pointer (some (Addr.add ⟨b,0,none⟩ (c*1)))) (.bool true) w KW t:=by
 have aj:c<(mQ ae).toArray.size:=by simp[mQ];exact an
 rw[AG2];refine _1 (fP h (Array.getElem?_eq_getElem aj)) (by rw[add_eq];simp[World.frozen?,h]) rfl (hk _ ?_ ?_)
 .have:=dw.setCell w (Addr.add ⟨b,0,none⟩ c) (.bool true)
  rwa[Ah] at this
 .rw[HN h aj];simp[mQ,List.map_set]
end ba
namespace Go.Proofs.R
open Go Go.RowKit ba o
structure nB(w:World)(bQ b N:Nat)(L:List Int):Prop where
 box:w.heap[bQ]? = some (.cells #[.slice (some ⟨b,0,none⟩) N N] T.gu)
 row:∃ae,w.heap[b]? = some (.cells (mQ ae).toArray T.k)/\oN N L ae
def nB.ne{w:A_}{bQ b N:Nat}{L:C_ Int}(h:nB w bQ b N L):¬bQ=b:=λe=>by
 obtain⟨ae,h1,_⟩:=h.row;subst e;have J:=h.box;rw[h1] at J;injection J with J
 injection J with _ J
 revert J;decide
theorem nB.ext{w w':A_}{bQ b N:Nat}{L:C_ Int}(h:nB w bQ b N L)(he:Ext w w'):nB w' bQ b N L:=by
 obtain⟨ae,h1,J⟩:=h.row;exact⟨he.obj h.box,ae,he.obj h1,J⟩
def nB.other{w:A_}{bQ b N k:Nat}{L:C_ Int}{cs:Array B_}{t:F_}(h:nB w bQ b N L)(hk:w.heap[k]? = some (.cells cs t))(aB:t≠T.k):¬k=b:=λe=>by
 obtain⟨ae,h1,_⟩:=h.row;subst e;rw[h1] at hk;injection hk with hk
 injection hk with _ hk
 exact aB hk.symm
def nB.congr{w:A_}{bQ b N:Nat}{L nS:C_ Int}(h:nB w bQ b N L)(e:∀x,x∈L↔x∈nS):nB w bQ b N nS:=by
 obtain⟨ae,h1,J⟩:=h.row;exact⟨h.box,ae,h1,J.congr e⟩
def Np(c bQ b N:Nat)(L:C_ Int)(x:Int)(w:A_)(h:nB w bQ b N L)(ah:x=c)(an:c<N)(fl:N<=1000000) :
  Ei F.a3 #[.I x,.pointer (some ⟨bQ,0,none⟩)] w λ_ w'=>nB w' bQ b N (L++gD c 1)/\Mod (λk=>k=b) w w':=by
 subst ah;have cv:=h.ne;obtain⟨ae,h1,J⟩:=h.row;have o1:=h.box;have aE:=J.len;refine bk E.a3 ?_;refine I ?_;refine AA6 h1 Aw λw1 iF al=>?_;refine I ?_;refine⟨⟨iF.obj o1 cv,_,al,?_⟩,iF.mod rfl⟩;rw[mb];exact J.put an
def ajh(x:o.Node)(cs ys:C_ B_)(bK:B_)(bQ b:Nat)(L:C_ Int)(m:o.Model)(w0 w:A_)(h:dh w0 cs m)(ck:jq w0 ys (o.layout m))(aP:ix w0 bK (o.insts m))(he:Ext w0 w)(rZ:w0.heap.size<=b)
  (b7:nB w bQ b (di m) L)(aL:eE m)(ah:wy m x)(c9:x.ok) :
  Ei F.d8 #[.agg cs.toArray,.agg ys.toArray,bK,.agg x.enc.toArray,.func (.func F.a3) #[] #[.pointer (some ⟨bQ,0,none⟩)]] w λ_ w'=>nB w' bQ b (di m) (L++ek m 0 false x)/\Mod (λk=>k=b) w w':=by
 have Bq:=c9.op;have Bp:=c9.n;unfold dZ at Bq Bp;obtain⟨eD,d0,dI,d1,ec,d2,ep,d3,eM,d4,rfl,ad,h1,J,ab,aF,eB,dD,dO,dU,eg⟩:=h.form;obtain⟨bZ,bz,bN,c1,bT,c2,bW,bw,b1,bD,rfl,dF,cR,cA,eN,fs⟩:=ck.form;obtain⟨ca,ci,rfl,_⟩:=aP.form;obtain⟨f5,f6,f8⟩:=pT m;have qj:di m<=64:=iH aL;refine bk E.d8 ?_;refine I ?_;intro w1 dJ jc af bI;refine I ?_;intro az dm e8 ai bS;replace bI:=ai.obj bI;refine I ?_;intro aM j6 mv ag cF;replace bI:=ag.obj bI;replace bS:=ag.obj bS;have fw:=(af.trans ai).trans ag;have zV:=he.trans fw;have yY:=b7.ext fw;have n5:=yY.other bI BS;have n6:=yY.other bS BS;have n8:=yY.other cF BS;unfold o.Node.enc at cF;refine I ?_;apply I_<;>intro g2
 .obtain⟨aw,fj,aE⟩:=ah.var aL g2;obtain⟨a0,rfl⟩:=dF.addr;have ar4:=dF.ext Flat.ext zV;obtain⟨dP,gn⟩:=rB aw;have aT:=Eu aw;have gK:x.n=(x.n.toNat:Nat):=Aw
  rw[gK] at cF;have aD:ek m 0 false x=gD (gb m x.n.toNat) 1:=by unfold ek;rw[if_pos g2]
  rw[aD];refine I ?_;refine V_ (first:=[]) (cap:=[.pointer (some ⟨bQ,0,none⟩)]) Cx (Np (gb m x.n.toNat) bQ b _ L _ aM yY (by rw[gn]) Aw Aw) ?_;rintro _ aR ⟨kW,kd⟩;refine I ?_;exact⟨kW,fw.mod.trans kd⟩
 refine I ?_;apply I_<;>intro g3
 .obtain⟨aw,fj,anZ,kU,dt,awV⟩:=ah.item aL g3;obtain⟨a0,rfl⟩:=dF.addr;obtain⟨avC,rfl⟩:=ad.addr;obtain⟨agO,rfl⟩:=h1.addr;obtain⟨dP,gn⟩:=rB aw;have aT:=Eu aw;have gK:x.n=(x.n.toNat:Nat):=Aw
  have aO:ek m 0 false x=gD (gb m x.n.toNat) (lI m x.n.toNat):=by
   unfold ek mC;rw[if_neg g2,if_pos g3,if_neg CC]
  rw[gK] at cF;rw[aO];refine I ?_;refine K_ _ Aw anZ ?_;refine I ?_;intro aR aq;have dX:=zV.trans aq;have FZ:=yY.ext aq;have tV:=aq.obj bS;have QZ:=aq.obj cF;clear bS cF bI;refine I ?_;refine L_ 40 (lI m x.n.toNat) [4,6,8,39] (λ_:Unit=>[]) () (λk _ W=>nB W bQ b (di m) (L++gD (gb m x.n.toNat) k)/\Mod (λk=>k=b) aR W) a6 a6 ⟨by rw[aeK,S5];exact FZ,Mod.refl _ _⟩ ?_;rintro k _ S bg hk ⟨o0,l2⟩;have bS:=l2.obj n6 tV;have cF:=l2.obj n8 QZ;have BM:=dF.ext Flat.ext (l2.ext dX λi U e=>Aw);refine I ?_;apply I_<;>intro g4
  .refine I ?_;refine V_ (first:=[]) (cap:=[.pointer (some ⟨bQ,0,none⟩)]) Cx (Np (gb m x.n.toNat+k) bQ b _ _ _ bg o0 (by rw[gn];omega) Aw Aw) ?_;rintro _ bp ⟨DH,jg⟩;refine I ?_;refine⟨Aw,aJ,(),trivial,?_,l2.trans jg⟩;rw[mb] at DH;rw[ad9];exact DH
  .have gO:k=lI m x.n.toNat:=Aw
   rw[gO] at o0;refine I ?_;exact⟨o0,(fw.mod.trans aq.mod).trans l2⟩
 refine I ?_;apply I_<;>intro g6
 .obtain⟨fj,dS⟩:=ah.node.len g6;have dL:x.n.toNat<m.aA.length:=dS;obtain⟨db,rfl⟩:=cR.addr;have ar5:=cR.ext Flat.ext zV;obtain⟨je,eH⟩:=qc dL;have aT:=Yr dL;have gK:x.n=(x.n.toNat:Nat):=Aw
  rw[gK] at cF;have b5:ek m 0 false x=gD (b6 m x.n.toNat) 1:=by
   unfold ek;rw[if_neg g2,if_neg g3,if_neg Aw,if_pos g6]
  rw[b5];refine I ?_;refine V_ (first:=[]) (cap:=[.pointer (some ⟨bQ,0,none⟩)]) Cx (Np (b6 m x.n.toNat) bQ b _ L _ aM yY (by rw[eH]) Aw Aw) ?_;rintro _ aR ⟨kW,kd⟩;refine I ?_;exact⟨kW,fw.mod.trans kd⟩
 refine I ?_;apply I_<;>intro g7;rotate_left
 .have eK:ek m 0 false x=[]:=by
   unfold ek;by_cases g4:x.op=4
   .have:=(ah.node.loc g4).2
    have e:(eC m).locals=[]:=rfl;rw[e] at this;cases this
   rw[if_neg g2,if_neg g3,if_neg g4,if_neg g6,if_neg g7]
  rw[eK,S5];refine I ?_;exact⟨yY,fw.mod⟩
 have cL:ek m 0 false x=nX m (x.n.tdiv 16) (o.insts m).length:=by unfold ek;rw[if_neg g2,if_neg g3,if_neg Aw,if_neg g6,if_pos g7]
 rw[cL];obtain⟨fj,vE⟩:=ah.node.at_ g7;have RU:(x.n.tdiv 16).toNat<m.procs.length:=vE;have RY:=AK5 fj (show(0:Int)<=16 by omega);have RW:=aL.procs;have abT : -9223372036854775808<=x.n.tdiv 16/\x.n.tdiv 16<=9223372036854775807:=Aw
 have gj:=xz aL;have qg:∀{W},Mod (λk=>k=b) aM W->Ext w0 W:=λhm=>hm.ext zV λk hk e=>Aw
 have tV:=bS;have QZ:=cF;clear bS cF bI;refine I ?_;refine L_ 68 (o.insts m).length [2,4,6,8,66,67] (λ_:Unit=>[]) () (λk _ W=>Mod (λi=>i=b) aM W/\nB W bQ b (di m) (L++nX m (x.n.tdiv 16) k)) a6 a6 ⟨Mod.refl _ _,by simpa[nX] using yY⟩ ?_;rintro k _ S aR hk ⟨kd,FZ⟩;have bS:=kd.obj n6 tV;have cF:=kd.obj n8 QZ;have yW:=aP.ext Flat.ext (qg kd);refine I ?_;apply I_<;>intro g1
 .have b8:k<(o.insts m).length:=Aw
  obtain⟨gu,rfl⟩:=aP.addr;obtain⟨sU,iD⟩:=ow b8;have vv:=ach b8;obtain⟨a2,rfl⟩:=cA.addr;have xW:=cA.ext Flat.ext (qg kd);refine I ?_;intro wn Cy tT fc eI;refine I ?_;intro bg e3 ic;have ar:Ext aR bg:=e3.ext fc tT;replace bS:=ar.obj bS;replace cF:=ar.obj cF;replace xW:=xW.ext Flat.ext ar;have o0:=FZ.ext ar;have l2:=kd.trans ar.mod;clear FZ yW;refine I ?_;refine _C Aw ?_;refine I ?_;apply I_<;>intro g2
  .refine I ?_;refine V_ (first:=[]) (cap:=[.pointer (some ⟨bQ,0,none⟩)]) Cx (Np (cV m k) bQ b _ _ _ bg o0 (by rw[iD]) Aw Aw) ?_;rintro _ bp ⟨DH,jg⟩;refine I ?_;refine⟨b8,aJ,(),trivial,l2.trans jg,?_⟩;rw[Ak b8,if_pos g2,<-NC];exact DH
  .refine I ?_;refine⟨b8,aJ,(),trivial,l2,?_⟩;rw[Ak b8,if_neg g2,S5];exact o0
 .have gO:(o.insts m).length=k:=Aw
  rw[gO];refine I ?_;exact⟨FZ,fw.mod.trans kd⟩
end Go.Proofs.R
namespace o
open Go
def oB(x y:Node):Prop:=x.op<y.op\/(x.op=y.op/\x.n<y.n)
def DY(x y:Node):Int:=if x.op=y.op/\x.n=y.n then 0 else if x.op<y.op\/(x.op=y.op/\x.n<y.n) then -1 else 1
def adD{x y:Node}(h1:x.op=y.op)(J:x.n=y.n):x=y:=by cases x;cases y;simp_all
def aqi(x:Node):¬oB x x:=by unfold oB;omega
def aqj(x y z:Node)(h:oB x y)(k:oB y z):oB x z:=by unfold oB at *;omega
def MX(x y:Node):DY x y<0↔oB x y:=by
 unfold DY oB;split
 .omega
 .split<;>omega
def uL (op:Int):Bool:=decide (op=2\/op=3\/op=4\/op=6\/op=7)
structure IM(e r:List Node):Prop where
 lM:r.Pairwise oB
 mem:∀x,x∈r↔x∈e/\uL x.op=true
def comp:C_ Node->C_ Node
 | []=>[]
 | [x]=>[x]
 | x :: y :: r=>if x.op=y.op/\x.n=y.n then comp (y :: r) else x :: comp (y :: r)
theorem PF:∀(l:C_ Node) (x:Node),x∈comp l↔x∈l
 | [],x=>Iff.rfl
 | [y],x=>Iff.rfl
 | y :: z :: r,x=>by
  unfold comp;have fq:=PF (z :: r) x;split
  .rename_i h
   have:y=z:=adD h.1 h.2
   subst this;rw[fq];simp
  .rw[AJ7,fq,AJ7 (b:=y)]
theorem YM:∀(l:C_ Node),l.Pairwise (λx y => ¬oB y x)->(comp l).Pairwise oB
 | [],_=>List.Pairwise.nil
 | [y],_=>by unfold comp;simp
 | y :: z :: r,h=>by
  unfold comp;rw[AI3] at h;have fq:=YM (z :: r) h.2;split
  .exact fq
  .rename_i cv;rw[AI3];refine⟨λx ah=>?_,fq⟩;rw[PF] at ah;have axi:=h.1 z (AG5 ..);have cu:oB y z:=by unfold oB at *;omega
   rcases List.mem_cons.1 ah with e | e
   .rw[e];exact cu
   .have J:=h.2;rw[AI3] at J
    have:=J.1 x e
    unfold oB at *;omega
structure avt(l:List Int)(n:Int)(r:List Int):Prop where
 lM:r.Pairwise (· < ·)
 mem:∀x,x∈r↔x∈l\/x=n
 len:r.length<=l.length+1
structure avu(e:List Node)(op:Int)(l:List Int):Prop where
 lM:l.Pairwise (· < ·)
 mem:∀n,n∈l↔∃x∈e,x.op=op/\x.n=n
 len:l.length<=e.length
def opsL:C_ Int:=[2,3,4,6,7]
structure avA(e:List Node)(k:Nat)(r:List Node):Prop where
 lM:r.Pairwise oB
 mem:∀x,x∈r↔x∈e/\x.op∈opsL.take k
 len:r.length<=k*e.length
theorem PG:∀(l:C_ Node) (x y:Node),comp (l++[x,y])=if x.op=y.op/\x.n=y.n then comp (l++[x]) else comp (l++[x])++[y]
 | [],x,y=>by
  by_cases h:x.op=y.op/\x.n=y.n
  .have:x=y:=adD h.1 h.2
   subst this;simp[comp]
  .simp[comp,h]
 | [a],x,y=>by
  have fq:=PG [] x y;simp only[List.nil_append,List.cons_append] at fq ⊢;unfold comp;rw[fq];by_cases h:a.op=x.op/\a.n=x.n
  .simp only[if_pos h]
  .simp only[if_neg h];by_cases J:x.op=y.op/\x.n=y.n
   .simp[J,comp]
   .simp[J,comp]
 | a :: b :: l,x,y=>by
  have fq:=PG (b :: l) x y;simp only[List.cons_append] at fq ⊢;unfold comp;rw[fq];by_cases h:a.op=b.op/\a.n=b.n
  .simp only[if_pos h]
  .simp only[if_neg h];by_cases J:x.op=y.op/\x.n=y.n
   .simp only[if_pos J]
   .simp only[if_neg J,List.cons_append]
def PH{l:C_ Node}{n:Nat}(h1:1<=n)(J:n<l.length):comp (l.take (n+1))=if l[n - 1].op=l[n].op/\l[n - 1].n=l[n].n then comp (l.take n) else comp (l.take n)++[l[n]]:=by
 obtain⟨k,rfl⟩:∃k,n=k+1:=⟨n - 1,Aw⟩;have bG:l.take (k+1)=l.take k++[l[k]]:=MR Aw;have aD:l.take (k+1+1)=l.take k++[l[k],l[k+1]]:=by rw[MR J,bG,NC];rfl
 rw[aD,PG,bG];rfl
theorem PE:∀l:C_ Node,(comp l).length<=l.length
 | []=>E1 _
 | [x]=>E1 _
 | x :: y :: r=>by
  have:=PE (y :: r)
  unfold comp;split
  .simp only[List.length_cons] at this ⊢;omega
  .simp only[List.length_cons] at this ⊢;omega
theorem YL{l:C_ Node}(h:l.length<2):comp l=l:=by
 match l,h with
 | [],_=>rfl
 | [x],_=>rfl
 | x :: y :: r,h=>simp at h;omega
def aiQ{l:C_ Node}:comp (l.take 1)=l.take 1:=YL (by rw[H5];omega)
end o
namespace ba
open Go Go.RowKit
theorem Ui:∀(cs:C_ B_) (w:A_) (b ae i:Nat) (cur:Array B_) (e:F_),w.heap[b]? = some (.cells cur e)->ae+i+cs.length<=cur.size ->
  ∃mr,(iJ w ⟨b,ae,none⟩ cs i).heap[b]? = some (.cells mr e)/\mr.size=cur.size/\(∀j,j<ae+i\/ae+i+cs.length<=j->mr[j]? = cur[j]?)/\∀j (h:j<cs.length),mr[ae+i+j]? = some cs[j]
 | [],w,b,ae,i,cur,e,ak,_=>⟨cur,ak,rfl,λ_ _=>rfl,λj h=>absurd h (E3 _)⟩
 | c :: cs,w,b,ae,i,cur,e,ak,aE=>by
  have ay:ae+i<cur.size:=by simp at aE;omega
  have h1:=HN ak ay c;have jt:Addr.add ⟨b,0,none⟩ (ae+i)=Addr.add ⟨b,ae,none⟩ i:=by rw[add_eq,add_eq,S6]
  rw[jt] at h1;obtain⟨mr,cM,cW,fr,hN⟩:=Ui cs _ b ae (i+1) _ e h1 (by simp at aE ⊢;omega);refine⟨mr,cM,by simpa using cW,λj jy=>?_,λj h=>?_⟩
  .rw[fr j (by simp at jy ⊢;omega),Array.getElem?_set_ne _ (by simp at jy;omega)]
  .cases j with
   | zero =>
    rw[AJ3,fr (ae+i) Aw,Array.getElem?_set_self];rfl
   | succ j =>
    have:=hN j (by simpa using h)
    rw[show ae+i+(j+1)=ae+(i+1)+j from Aw,this];rfl
end ba
namespace Go.Proofs.R
open Go Go.RowKit ba o
def Fo{w:A_}{b j:Nat}{c:Array B_}{t:F_}{v:B_}(h:w.heap[b]? = some (.cells c t))(ay:c[j]? = some v):w.cell? ⟨b,j,none⟩=some v:=by
 simp[World.cell?,h,ay]
structure hI(w:World)(b:Nat)(l:List o.Node):Prop where
 ex:∃cur,w.heap[b]? = some (.cells cur T.e)/\2*l.length<=cur.size/\∀i (h:i<l.length),cur[2*i]? = some (.int .i64 l[i].op)/\cur[2*i+1]? = some (.int .i64 l[i].n)
def hI.mod{w w':A_}{b:Nat}{l:C_ o.Node}{A:Nat->Prop}(h:hI w b l)(hm:Mod A w w')(dd:¬A b):hI w' b l:=by
 obtain⟨cur,h1,J,ab⟩:=h.ex;exact⟨cur,hm.obj dd h1,J,ab⟩
theorem hI.ext{w w':A_}{b:Nat}{l:C_ o.Node}(h:hI w b l)(he:Ext w w'):hI w' b l:=by
 obtain⟨cur,h1,J,ab⟩:=h.ex;exact⟨cur,he.obj h1,J,ab⟩
theorem hI.at_{w:A_}{b:Nat}{l:C_ o.Node}(h:hI w b l){i:Nat}(U:i<l.length):ff w ⟨b,2*i,none⟩ l[i].enc:=by
 obtain⟨cur,h1,J,ab⟩:=h.ex;have e:(⟨b,2*i,none⟩:Addr)=Addr.add ⟨b,0,none⟩ (2*i):=by rw[add_eq,S6]
 intro j v ay;obtain⟨cM,cW⟩:=ab i U;rw[e,add_eq,add_eq,S6]
 match j,ay with
 | 0,ay =>
  have:v = .I l[i].op:=by simpa[o.Node.enc] using ay.symm
  subst this;exact Fo h1 cM
 | 1,ay =>
  have:v = .I l[i].n:=by simpa[o.Node.enc] using ay.symm
  subst this;exact Fo h1 cW
 | n+2,ay=>simp[o.Node.enc] at ay
def hI.take{w:A_}{b:Nat}{l:C_ o.Node}(h:hI w b l)(k:Nat):hI w b (l.take k):=by
 obtain⟨cur,h1,J,ab⟩:=h.ex;refine⟨cur,h1,by rw[H5];omega,λi U=>?_⟩;rw[H5] at U
 have:=ab i Aw
 simpa using this
def hI.afj{w:A_}{b c:Nat}{l:C_ o.Node}(h:hI w b l)(an:l.length<=c)(hm:c<=maxLen):bm 2 (Flat o.Node.enc) w (.slice (some ⟨b,0,none⟩) l.length c) l :=
 ⟨_,_,rfl,an,hm,λ_=>rfl,λa aY i U=>by
  injection aY with aY;subst aY
  have:=h.at_ U
  rw[show(⟨b,2*i,none⟩:Addr)=Addr.add ⟨b,0,none⟩ (i*2) from by rw[add_eq,S6,AH9]] at this;exact this⟩
def hI.set{w:A_}{b i:Nat}{l:C_ o.Node}(h:hI w b l)(U:i<l.length)(x:o.Node):hI (iJ w ⟨b,2*i,none⟩ x.enc 0) b (l.set i x):=by
 obtain⟨cur,h1,J,ab⟩:=h.ex;obtain⟨mr,cM,cW,fr,hN⟩:=Ui x.enc w b (2*i) 0 cur _ h1 (by simp[o.Node.enc];omega);refine⟨mr,cM,by rw[X4,cW];exact J,λj ay=>?_⟩;rw[X4] at ay;have a0:=hN 0 (by simp[o.Node.enc]);have db:=hN 1 (by simp[o.Node.enc]);by_cases e:i=j
 .subst e;rw[AK6];simp only[Nat.add_zero,o.Node.enc] at a0 db;exact⟨a0,db⟩
 .rw[List.getElem_set_ne e,fr _ (by simp[o.Node.enc];omega),fr _ (by simp[o.Node.enc];omega)];exact ab j ay
def hI.cut{w:A_}{b k:Nat}{l:C_ o.Node}{zs:C_ B_}(h:hI w b l)(bB:2*k+zs.length<=2*l.length):hI (iJ w ⟨b,2*k,none⟩ zs 0) b (l.take k):=by
 obtain⟨cur,h1,J,ab⟩:=h.ex;obtain⟨mr,cM,cW,fr,_⟩:=Ui zs w b (2*k) 0 cur _ h1 Aw;refine⟨mr,cM,by rw[H5,cW];omega,λj ay=>?_⟩;rw[H5] at ay;rw[AI7,fr _ Aw,fr _ Aw];exact ab j Aw
theorem avj{P:D_}{ty:F_}{z:B_}(h:(P.info? ty).bind (·.zero)=some z)(w:A_):(zeroValue ty).run P w = .ok z w:=by
 cases U:P.info? ty with
 | none=>rw[U] at h;cases h
 | some i =>
  rw[U] at h;have J:i.zero=some z:=h;simp[zeroValue,uJ U,J]
def aqe(x:o.Node):∀c∈x.enc.toArray.toList,c.oneCell'=true:=by simp[o.Node.enc,Value.oneCell']
def hI.free{w:A_}{b:Nat}{l:C_ o.Node}(h:hI w b l){j:Nat}(ay:j<2*l.length):(∃hQ,w.cell? ⟨b,j,none⟩=some hQ)/\w.frozen? ⟨b,j,none⟩=false:=by
 obtain⟨cur,h1,J,_⟩:=h.ex;exact⟨⟨cur[j]' Aw,Fo h1 (Array.getElem?_eq_getElem Aw)⟩,by simp[World.frozen?,h1]⟩
def AD6{w:A_}{b i:Nat}{l:C_ o.Node}{x:o.Node}{a:Addr}{KW:A_->Prop}{t}(h:hI w b l)(aY:a=⟨b,2*i,none⟩)(U:i<l.length)(hk:∀w1,dw b w w1->hI w1 b (l.set i x)->KW w1) :
  Cq 2 (.pointer (some a)) (.agg x.enc.toArray) w KW t:=by
 subst aY;refine _5 rfl (λj ay=>?_) (aqe x) (hk _ (dw.iJ _ w ⟨b,2*i,none⟩ 0) (h.set U x));rw[add_eq];exact h.free Aw
theorem AD7{S:Fr}{w:A_}{b k n cap:Nat}{l:C_ o.Node}{x:G_}{aN:H_ Addr}{cO:B_->A_->Prop}{ty:F_}{t}(h:hI w b l)(ah:bu S x = .slice aN n cap)(aw:k+n=l.length)(aY:0<n->aN=some ⟨b,2*k,none⟩)
  (hk:∀v w1,Mod (λi=>i=b) w w1->hI w1 b (l.take k)->cO v w1):uW Tryz.prog (.call ⟨.builtin .clear,#[x],#[T.t]⟩) ty S w cO t:=by
 have bB:∀w:A_,(zeroValue T.e).run Tryz.prog w = .ok (.agg #[.I 0,.I 0]) w:=avj Cx;have hu:Tryz.prog.underlying T.t=some (.slice T.e):=Cx
 cases n with
 | zero =>
  refine _G (v:=.tuple #[]) (w':=w) ?_ (hk _ _ (Mod.refl _ _) (h.take k));cases aN<;>simp[execOp,resolve,invoke,builtin,ah,Builtin.clear_,run_underlying hu]
 | succ n =>
  obtain rfl:=aY Aw;refine _G (v:=.tuple #[]) (w':=iJ w ⟨b,2*k,none⟩ (Builtin.zeroCells #[.I 0,.I 0] (n+1)).toList 0) ?_ (hk _ _ ((dw.iJ _ w ⟨b,2*k,none⟩ 0).mod rfl) (h.cut ?_))
  .have aj:=HJ Tryz.prog ⟨b,2*k,none⟩ (Builtin.zeroCells #[.I 0,.I 0] (n+1)).toList 0 w (λj ay=>?_) ?_
   .simp[execOp,resolve,invoke,builtin,ah,Builtin.clear_,run_underlying hu,bB,Value.cells,aj]
   .rw[add_eq];exact h.free (by simp[Builtin.zeroCells] at ay;omega)
   .intro c an;simp only[Builtin.zeroCells,Array.toList_map,List.mem_map] at an;obtain⟨i,_,rfl⟩:=an;show((#[Value.int .i64 0,.I 0]:Array B_)[i % 2]!).oneCell'=true;rcases AL1 i with e | e<;>rw[e]<;>rfl
  .simp[Builtin.zeroCells];omega
def Jc(x y:Int):sK [.i,.i] [.I x,.I y]:=⟨⟨_,rfl⟩,⟨_,rfl⟩,trivial⟩
def Zj{x y:o.Node}:x.enc=y.enc↔x.op=y.op/\x.n=y.n:=by simp[o.Node.enc]
theorem aiS(b c:Nat)(l:C_ o.Node)(w:A_)(h:hI w b l)(an:l.length<=c)(hm:c<=maxLen) :
  Ei F.p #[.slice (some ⟨b,0,none⟩) l.length c] w λv w'=>v = .slice (some ⟨b,0,none⟩) (o.comp l).length c/\hI w' b (o.comp l)/\Mod (λi=>i=b) w w':=by
 have dN:=PE l;unfold maxLen at hm;refine wo E.p ?_;refine oR ?_;refine I ?_;apply I_<;>intro g1
 .have e:=YL (l:=l) Aw;refine I ?_;exact⟨by rw[e],by rw[e];exact h,Mod.refl _ _⟩
 refine I ?_;refine _L [0] (λk:Nat=>[(3,.I k)]) 1 (λk W=>1<=k/\k<=l.length/\o.comp (l.take k)=l.take k/\Ext w W) (λk=>l.length - k) a6 ⟨Aw,Aw,aiQ,Ext.refl _⟩ ?_;rintro k S w1 ⟨A6,b8,r5,af⟩;have lg:=h.ext af;have yV:=lg.afj an hm;refine I ?_;apply I_<;>intro g2;rotate_left
 .have gO:k=l.length:=Aw
  rw[gO,AE8] at r5;refine I ?_;exact⟨by rw[r5],by rw[r5];exact lg,af.mod⟩
 have oq:k<l.length:=Aw
 refine I ?_;refine K_ (k - 1) Aw Aw ?_;refine I ?_;refine AB5 (sig:=[.i,.i]) Cx (Jc _ _) (Jc _ _) λr aT=>?_;rw[Zj] at aT;refine I ?_;intro az ai;have jS:=lg.ext ai;have aD:=af.trans ai;cases r with
 | false =>
  have cv:¬(l[k - 1].op=l[k].op/\l[k - 1].n=l[k].n):=λe=>by have:=aT.2 ⟨e.1.symm,e.2.symm⟩;cases this
  have anm:o.comp (l.take (k+1))=l.take (k+1):=by rw[PH A6 oq,if_neg cv,r5,MR oq]
  refine I ?_;exact⟨k+1,⟨aJ,trivial⟩,⟨Aw,Aw,anm,aD⟩,Aw⟩
 | true =>
  obtain⟨c7,dE⟩:=aT.1 rfl;have zc:o.comp (l.take (k+1))=l.take k:=by rw[PH A6 oq,if_pos ⟨c7.symm,dE.symm⟩,r5]
  have mw:¬c=k:=Aw
  clear yV;refine I ?_;refine _B k l.length c (by simp[eP,dc,bE]) (by simp[eP]) (by simp[eP]) ⟨Aw,an,E1 _⟩ CC ?_;rw[if_neg mw,AG3];refine I ?_;refine _L [0,4] (λx:Nat×Nat×C_ o.Node=>[(3,.I x.1),(5,.I x.2.1)]) (k,1,l) (λx W=>1<=x.2.1/\k+x.2.1<=l.length/\1<=x.1/\x.1+1<=k+x.2.1/\x.2.2.length=l.length/\hI W b x.2.2/\Mod (λi=>i=b) w W/\x.2.2.take x.1=o.comp (l.take (k+x.2.1))/\∀j,x.1<=j->x.2.2[j]? = l[j]?) (λx=>l.length - (k+x.2.1)) a6 ⟨E1 _,by simp only;omega,A6,E1 _,rfl,jS,aD.mod,zc.symm,λ_ _=>rfl⟩ ?_;rintro⟨kY,cW,R⟩ EX aM ⟨kh,h2,xC,ao3,Bw,vJ,zv,sb,vK⟩;dsimp only at kh h2 xC ao3 Bw vJ zv sb vK ⊢;refine I ?_;apply I_<;>intro g3
  .have fX:k+cW<l.length:=Aw
   have nV:∀i,(Addr.add ⟨b,0,none⟩ (k*2)).add (i*2)=⟨b,2*(k+i),none⟩:=λi=>by
    rw[add_eq,add_eq];congr 1;omega
   have ir:R[k+cW]' Aw=l[k+cW]:=by
    have:=vK (k+cW) Aw
    rw[List.getElem?_eq_getElem Aw,List.getElem?_eq_getElem Aw] at this;injection this
   have jn:R[k+cW - 1]' Aw=l[k+cW - 1]:=by
    have:=vK (k+cW - 1) Aw
    rw[List.getElem?_eq_getElem Aw,List.getElem?_eq_getElem Aw] at this;injection this
   have d1:ff aM ((Addr.add ⟨b,0,none⟩ (k*2)).add (cW*2)) l[k+cW].enc:=by
    rw[nV,<-ir];exact vJ.at_ _
   have d2:ff aM ((Addr.add ⟨b,0,none⟩ (k*2)).add ((cW - 1)*2)) l[k+cW - 1].enc:=by
    rw[nV,<-jn,show k+(cW - 1)=k+cW - 1 from Aw];exact vJ.at_ _
   have y6:=PH (l:=l) (n:=k+cW) Aw fX;refine I ?_;refine K_ (cW - 1) Aw Aw ?_;refine I ?_;refine _9 (sig:=[.i,.i]) Cx (Jc _ _) (Jc _ _) λr aT=>?_;rw[ne_eq,Zj] at aT;refine I ?_;intro aR aq;have acG:=vJ.ext aq;have avZ:=d1.ext aq;cases r with
   | false =>
    have heq:l[k+cW - 1].op=l[k+cW].op/\l[k+cW - 1].n=l[k+cW].n:=Classical.byContradiction λe=>by have:=aT.2 (λaD=>e ⟨aD.1.symm,aD.2.symm⟩);cases this
    rw[if_pos heq] at y6;refine I ?_;refine⟨(kY,cW+1,R),⟨aJ,aJ,trivial⟩,⟨by simp only;omega,by simp only;omega,xC,by simp only;omega,Bw,acG,zv.trans aq.mod,?_,vK⟩,by simp only;omega⟩;simp only;rw[<-AI5,y6,sb]
   | true =>
    have cv:¬(l[k+cW - 1].op=l[k+cW].op/\l[k+cW - 1].n=l[k+cW].n):=λe=>(aT.1 rfl) ⟨e.1.symm,e.2.symm⟩;rw[if_neg cv] at y6;refine I ?_;refine AD6 (i:=kY) acG (by rw[add_eq,S6,AH9]) Aw λbg e3 GJ=>?_;refine I ?_;refine⟨(kY+1,cW+1,R.set kY l[k+cW]),⟨aJ,aJ,trivial⟩,⟨by simp only;omega,by simp only;omega,by simp only;omega,by simp only;omega,by rw[X4];exact Bw,GJ,(zv.trans aq.mod).trans (e3.mod rfl),?_,λj ay=>?_⟩,by simp only;omega⟩
    .simp only;rw[<-AI5,y6,<-sb,MR (by rw[X4];omega),AK6,List.take_set_of_le (E1 _)]
    .simp only at ay;rw[List.getElem?_set_ne Aw];exact vK j Aw
  .have A8:k+cW=l.length:=Aw
   rw[A8,AE8] at sb;have o7:(o.comp l).length=kY:=by rw[<-sb,H5];omega
   refine I ?_;refine _B kY l.length c (by simp[eP,dc,bE]) (by simp[eP]) (by simp[eP]) ⟨Aw,an,E1 _⟩ CC ?_;rw[if_neg (show ¬c=kY by omega),AG3];refine I ?_;refine AD7 (k:=kY) vJ (by simp only[dc,bE];rfl) Aw (λ_=>by rw[add_eq,S6,AH9]) λv aR kd na=>?_;rw[sb] at na;refine I ?_;refine _B 0 kY c (by simp[eP]) (by simp[eP,dc,bE]) (by simp[eP]) ⟨Aw,Aw,E1 _⟩ CC ?_;rw[if_neg (show ¬c=0 by omega),AG3];refine I ?_;exact⟨by rw[o7,add_eq];rfl,na,zv.trans kd⟩
end Go.Proofs.R
namespace Go.Proofs
open Go.Shelf
def Tryz.atP:Go.Shelf.Ren:=⟨λ| 6=>193 | 15=>245 | 14=>244 | 28=>286 | 29=>287 | 20=>278 | 21=>279 | 22=>280 | 23=>281 | 24=>282 | 25=>283 | 26=>284 | 27=>285 | 46=>306 | 47=>307 | 48=>308 | 49=>309 | 50=>310 | 57=>316 | n=>n,λ| 22=>57 | 24=>72 | 25=>260 | 3=>3 | 39=>169 | 0=>0 | 53=>337 | 55=>52 | 4=>4 | 46=>331 | 45=>330 | 50=>249 | 5=>5 | 9=>9 | 66=>346 | 70=>350 | 76=>355 | 77=>89 | n=>n,λ| n=>n⟩
def Tryz.afk:Go.Proofs.SlLaysF0.n6 Tryz.prog Tryz.atP:={
 mixed:=Cx
 f6:=⟨Tryz.f193.name,BS,Tryz.func193.trans (congrArg some Cx)⟩
 f14:=⟨Tryz.f244.name,BS,Tryz.func244.trans (congrArg some Cx)⟩
 f15:=Tryz.func245.trans (congrArg some Cx)
 f20:=⟨Tryz.f278.name,BS,Tryz.func278.trans (congrArg some Cx)⟩
 f21:=⟨Tryz.f279.name,BS,Tryz.func279.trans (congrArg some Cx)⟩
 f22:=⟨Tryz.f280.name,BS,Tryz.func280.trans (congrArg some Cx)⟩
 f23:=⟨Tryz.f281.name,BS,Tryz.func281.trans (congrArg some Cx)⟩
 f24:=⟨Tryz.f282.name,BS,Tryz.func282.trans (congrArg some Cx)⟩
 f25:=⟨Tryz.f283.name,BS,Tryz.func283.trans (congrArg some Cx)⟩
 f26:=⟨Tryz.f284.name,BS,Tryz.func284.trans (congrArg some Cx)⟩
 f27:=⟨Tryz.f285.name,BS,Tryz.func285.trans (congrArg some Cx)⟩
 f28:=Tryz.func286.trans (congrArg some Cx)
 f29:=Tryz.func287.trans (congrArg some Cx)
 f46:=⟨Tryz.f306.name,BS,Tryz.func306.trans (congrArg some Cx)⟩
 f47:=Tryz.func307.trans (congrArg some Cx)
 f48:=Tryz.func308.trans (congrArg some Cx)
 f49:=⟨Tryz.f309.name,BS,Tryz.func309.trans (congrArg some Cx)⟩
 f50:=⟨Tryz.f310.name,BS,Tryz.func310.trans (congrArg some Cx)⟩
 f57:=⟨Tryz.f316.name,BS,Tryz.func316.trans (congrArg some Cx)⟩
 t0:=Tryz.underlying0
 a0:=Tryz.isAgg0
 z0:=Tryz.sizeOf0
 v0:=Tryz.zeroValue0
 t3:=Tryz.underlying3
 a3:=Tryz.isAgg3
 z3:=Tryz.sizeOf3
 v3:=Tryz.zeroValue3
 t4:=Tryz.underlying4
 a4:=Tryz.isAgg4
 z4:=Tryz.sizeOf4
 v4:=Tryz.zeroValue4
 t5:=Tryz.underlying5
 a5:=Tryz.isAgg5
 z5:=Tryz.sizeOf5
 v5:=Tryz.zeroValue5
 t9:=Tryz.underlying9
 a9:=Tryz.isAgg9
 z9:=Tryz.sizeOf9
 v9:=Tryz.zeroValue9
 t22:=Tryz.underlying57
 a22:=Tryz.isAgg57
 z22:=Tryz.sizeOf57
 v22:=Tryz.zeroValue57
 t25:=Tryz.underlying260
 a25:=Tryz.isAgg260
 z25:=Tryz.sizeOf260
 v25:=Tryz.zeroValue260
 t39:=Tryz.underlying169
 a39:=Tryz.isAgg169
 z39:=Tryz.sizeOf169
 v39:=Tryz.zeroValue169
 t45:=Tryz.underlying330
 a45:=Tryz.isAgg330
 z45:=Tryz.sizeOf330
 v45:=Tryz.zeroValue330
 t46:=Tryz.underlying331
 a46:=Tryz.isAgg331
 z46:=Tryz.sizeOf331
 v46:=Tryz.zeroValue331
 t50:=Tryz.underlying249
 a50:=Tryz.isAgg249
 z50:=Tryz.sizeOf249
 v50:=Tryz.zeroValue249
 t53:=Tryz.underlying337
 a53:=Tryz.isAgg337
 z53:=Tryz.sizeOf337
 v53:=Tryz.zeroValue337
 t55:=Tryz.underlying52
 a55:=Tryz.isAgg52
 z55:=Tryz.sizeOf52
 v55:=Tryz.zeroValue52
 t66:=Tryz.underlying346
 a66:=Tryz.isAgg346
 z66:=Tryz.sizeOf346
 v66:=Tryz.zeroValue346
 t70:=Tryz.underlying350
 a70:=Tryz.isAgg350
 z70:=Tryz.sizeOf350
 v70:=Tryz.zeroValue350
 t76:=Tryz.underlying355
 a76:=Tryz.isAgg355
 z76:=Tryz.sizeOf355
 v76:=Tryz.zeroValue355
 t77:=Tryz.underlying89
 a77:=Tryz.isAgg89
 z77:=Tryz.sizeOf89
 v77:=Tryz.zeroValue89 }
end Go.Proofs
namespace Go.Proofs.R
open Go Go.RowKit Go.Sort Go.Shelf Go.Lib o
def auF(x y:o.Node)(W:A_):Calls Tryz.prog 194 #[.agg #[.I x.op,.I x.n],.agg #[.I y.op,.I y.n]] W λe w'=>e = .returned (.I (DY x y))/\∃q aq2,w'=grow (W.drewN q) aq2:=by
 go_enter Tryz.func194,Tryz.ntmps194
 go_wp2
 all_goals go_ret
 all_goals refine⟨?_,0,_,by rw[alloc_eq_grow,alloc_eq_grow,grow_grow];rfl⟩
 all_goals (congr 2;unfold DY;repeat' split)
 all_goals first | omega | rfl
def aqm:SWO (ltOf DY) where
 irrefl x:=by
  have:=aqi x
  rw[<-MX] at this;simpa[ltOf] using this
 trans x y z h1 J:=by
  simp only[ltOf,decide_eq_true_eq] at h1 J ⊢;rw[MX] at *;exact aqj x y z h1 J
 ntrans x y z h1 J:=by
  simp only[ltOf,decide_eq_false_iff_not] at h1 J ⊢;rw[MX] at *;unfold oB at *;omega
instance:Inhabited o.Node:=⟨⟨0,0⟩⟩
def arM{w:A_}{b:Nat}{cur:Array B_}{e:F_}{d:Array B_}(h:w.heap[b]? = some (.cells cur e)):(putRow id w b 0 d).heap[b]? = some (.cells (putCells id 0 d cur) e):=by
 unfold putRow mapBlock;simp only[Array.getElem?_modify,if_true,h,Option.map_some,onCells]
def arN{w:A_}{b k:Nat}{d:Array B_}(h:k≠b):(putRow id w b 0 d).heap[k]? = w.heap[k]? := by
 unfold putRow mapBlock;simp only[Array.getElem?_modify];rw[if_neg (λe=>h e.symm)]
def ad8{w:A_}{b:Nat}{d:Array B_}:(putRow id w b 0 d).heap.size=w.heap.size:=by
 unfold putRow mapBlock;simp
def ZL{d:Array o.Node}{i:Nat}(h:i<d.size):(flatK o.Node.enc 2 d)[2*i]! = .I d[i].op/\(flatK o.Node.enc 2 d)[2*i+1]! = .I d[i].n:=by
 constructor
 .rw[get_flatK _ _ _ _ Aw,show 2*i / 2=i from Aw,show 2*i % 2=0 from Aw,getElem!_pos _ i h];rfl
 .rw[get_flatK _ _ _ _ Aw,show(2*i+1) / 2=i from Aw,show(2*i+1) % 2=1 from Aw,getElem!_pos _ i h];rfl
def atQ{w:A_}{b n:Nat}{l:C_ o.Node}{d:Array o.Node}{os:Array Obj}(h:hI w b l)(bb:d.size=l.length):hI (sortWorldK o.Node.enc 2 w b 0 n d os) b d.toList/\ba.Mod (λi=>i=b) w (sortWorldK o.Node.enc 2 w b 0 n d os):=by
 obtain⟨cur,h1,J,ab⟩:=h.ex;have cu:=ba.cq h1;have rW:(Sort.ahead w n).heap[b]? = some (.cells cur T.e):=h1;have aG:∀k,k<w.heap.size->(sortWorldK o.Node.enc 2 w b 0 n d os).heap[k]? = (putRow id (Sort.ahead w n) b 0 (flatK o.Node.enc 2 d)).heap[k]? := λk hk=>by
  unfold sortWorldK grow putRowK;exact Array.getElem?_append_left (by rw[ad8];exact hk)
 constructor
 .refine⟨_,(aG b cu).trans (arM rW),by simp[putCells];omega,λi U=>?_⟩;have cw:i<d.size:=by simpa using U
  obtain⟨f1,f2⟩:=ZL cw;simp only[putCells,Array.getElem?_mapIdx,size_flatK,Array.getElem_toList];constructor
  .rw[Array.getElem?_eq_getElem (show 2*i<cur.size by omega),AG3,if_pos Aw,Nat.sub_zero,f1];rfl
  .rw[Array.getElem?_eq_getElem (show 2*i+1<cur.size by omega),AG3,if_pos Aw,Nat.sub_zero,f2];rfl
 .refine⟨rfl,rfl,rfl,?_,λk hk aw=>(aG k hk).trans (arN aw)⟩;unfold sortWorldK grow putRowK;rw[Array.size_append,ad8];exact Nat.le_add_right _ _
theorem atE{P:D_}{t:F_}{k:Nat}(h:(P.info? t).map (·.size)=some k)(w:A_):(Go.sizeOf t).run P w = .ok k w:=by
 cases U:P.info? t with
 | none=>rw[U] at h;cases h
 | some i =>
  rw[U] at h;have J:i.size=k:=by simpa using h
  simp[Go.sizeOf,ba.uJ U,J]
def atO(b c:Nat)(l:C_ o.Node)(w:A_)(h:hI w b l)(aE:l.length<=1000000) :
  ba.aW Tryz.prog F.aG #[.slice (some ⟨b,0,none⟩) l.length c,.func (.func F.cI) #[] #[]] w λ_ w' => ∃r:C_ o.Node,r.Perm l/\r.Pairwise (λx y => ¬oB y x)/\hI w' b r/\ba.Mod (λi=>i=b) w w':=by
 obtain⟨cur,h1,J,ab⟩:=h.ex;have Q6:=AnyQ.slices_SortFunc Tryz.afk 2 (λw=>ba.zM (t:=T.e) (b:=true) Cx w) (λw=>atE (t:=T.e) Cx w) o.Node.enc (λ_=>rfl) (λx v aH=>by simp[o.Node.enc] at aH;rcases aH with rfl | rfl<;>rfl) DY aqm F.cI #[] b 0 c l.toArray w
  (enters_of Tryz.func194 Cx rfl) (λ_ _ _ _ x y=>auF x y _) ?_ (ba.cq h1) (by simp;omega)
 .change Calls Tryz.prog F.aG _ _ _ at Q6;simp only[List.size_toArray] at Q6;refine Calls.mono Q6 ?_;rintro e w' ⟨rfl,wR,n,os,au,aj,rfl⟩;have dt:wR.size=l.length:=by simpa using au.1
  obtain⟨cM,cW⟩:=atQ (n:=n) (os:=os) h dt;refine⟨_,rfl,wR.toList,?_,?_,cM,cW⟩
  .have:=au.2.2
   rw[show wR.extract 0 l.length=wR from by rw[<-dt];simp,show l.toArray.extract 0 l.length=l.toArray from CC] at this;simpa using this
  .rw[List.pairwise_iff_getElem];intro i j U ay Dv;have cw:i<wR.size:=by simpa using U
   have eT:j<wR.size:=by simpa using ay
   have:=aj i j (AF4 _) Dv Aw
   rw[getElem!_pos _ i cw,getElem!_pos _ j eT] at this;simp only[ltOf,decide_eq_false_iff_not] at this;rw[MX] at this;simpa using this
 .unfold HoldsK Holds;intro j ay;rw[size_flatK] at ay;have jy:j<2*l.length:=by simp at ay;omega
  have U:j / 2<l.length:=Aw
  obtain⟨f1,f2⟩:=ZL (d:=l.toArray) (i:=j / 2) (by simpa using U);obtain⟨g1,g2⟩:=ab (j / 2) U;have rb:w.frozen? ⟨b,0+j,none⟩=false:=by simp[World.frozen?,h1]
  refine⟨?_,rb⟩;rw[S6];rcases AL1 j with e | e
  .have AA:2*(j / 2)=j:=Aw
   rw[AA] at f1 g1;rw[f1];exact Fo h1 (by simpa using g1)
  .have AA:2*(j / 2)+1=j:=Aw
   rw[AA] at f2 g2;rw[f2];exact Fo h1 (by simpa using g2)
end Go.Proofs.R
namespace o
open Go
def zQ(e:C_ Node):C_ Node:=e.filter λx=>uL x.op
def at1{e:C_ Node}{k:Nat}(h:k<e.length):zQ (e.take (k+1))=zQ (e.take k)++if uL e[k].op then [e[k]] else []:=by
 unfold zQ;rw[MR h,AJ2];cases aj:uL e[k].op<;>simp[aj]
def afp(e:C_ Node):(zQ e).length<=e.length:=AJ4 _ _
def afN{e s:C_ Node}(au:s.Perm (zQ e))(aj:s.Pairwise λx y => ¬oB y x):IM e (comp s):=by
 refine⟨YM s aj,λx=>?_⟩;rw[PF,au.mem_iff];unfold zQ;rw[AJ8]
end o
namespace Go.Proofs.R
open Go Go.RowKit ba o
def aql(x:o.Node):∀u∈x.enc,u.oneCell'=true:=by simp[o.Node.enc,Value.oneCell']
theorem ZJ:∀(l:C_ o.Node) (i:Nat) (h:i<l.length),(l.flatMap o.Node.enc)[2*i]? = some (.I l[i].op)/\(l.flatMap o.Node.enc)[2*i+1]? = some (.I l[i].n)
 | x :: l,0,_=>⟨rfl,rfl⟩
 | x :: l,i+1,h=>by
  have fq:=ZJ l i (by simpa using h);rw[show 2*(i+1)=2*i+2 from Aw,show 2*i+2+1=(2*i+1)+2 from Aw];exact fq
def aqo{w:A_}{base:Nat}{v:B_}{l:C_ o.Node}(h:aK o.Node.enc T.e 2 base w v l)(aE:l≠[]):∃b c,v = .slice (some ⟨b,0,none⟩) l.length c/\base<=b/\hI w b l/\l.length<=c/\c<=maxLen:=by
 rcases h.2 with ⟨_,ad⟩ | ⟨g,cap,cur,h1,J,ab,aF,a7,bJ,ct⟩
 .exact absurd (AF7 ad) aE
 .refine⟨g,cap,h1,J,⟨cur,ab,Aw,λi U=>?_⟩,aF,a7⟩;have get:∀j,j<2*l.length->cur[j]? = (l.flatMap o.Node.enc)[j]? := λj ay=>by
   rw[<-ct,List.getElem?_take_of_lt Aw,Array.getElem?_toList]
  rw[get _ Aw,get _ Aw];exact ZJ l i U
structure OU(w:World)(base:Nat)(v:Value)(l:List o.Node):Prop where
 ex:(l=[]/\∃p c,v = .slice p 0 c/\c<=maxLen)\/∃b c,v = .slice (some ⟨b,0,none⟩) l.length c/\base<=b/\hI w b l/\l.length<=c/\c<=maxLen
def atN(p:H_ Addr)(c:Nat)(w:A_):Ei F.aG #[.slice p 0 c,.func (.func F.cI) #[] #[]] w λ_ w'=>Ext w w':=by
 have h:=AnyF.slices_SortFunc_none Tryz.afk p c (.func (.func F.cI) #[] #[]) w;change Calls Tryz.prog F.aG _ _ _ at h;refine Calls.mono h ?_;rintro e w' ⟨rfl,rfl⟩;exact⟨_,rfl,Ext.refl _⟩
def aiR(p:H_ Addr)(c:Nat)(w:A_):Ei F.p #[.slice p 0 c] w λv w'=>v = .slice p 0 c/\Ext w w':=by
 refine wo E.p ?_;refine oR ?_;refine I ?_;exact⟨aJ,Ext.refl _⟩
def auI(v:B_)(e:C_ o.Node)(w:A_)(h:eW w v e)(aE:e.length<=1000000) :
  Ei F.d7 #[v] w λu w'=>(∃r,IM e r/\OU w' w.heap.size u r)/\Ext w w':=by
 obtain⟨aN,fh,rfl,_⟩:=h.form;refine bk E.d7 ?_;refine I ?_;refine L_ 8 e.length [2,6,7] (λu:B_=>[(3,u)]) (.slice none 0 0) (λk u W=>aK o.Node.enc T.e 2 w.heap.size W u (zQ (e.take k))/\Ext w W) a6 a6 ⟨aK.nil _ _ _ _ _,Ext.refl _⟩ ?_;rintro k u S w1 hk ⟨hu,af⟩;refine I ?_;apply I_<;>intro g1
 .have b8:k<e.length:=Aw
  obtain⟨a,rfl⟩:=h.addr;have ah:=(h.at k b8).cells.ext af;obtain⟨rr,mT,rfl,_⟩:=hu.form;have jT:=afp (e.take k);have hY:=at1 b8;unfold o.Node.enc at ah;rw[H5] at jT;refine dV ?_;simp -dsimp only[cK];refine dV ?_;simp -dsimp only[cK];refine dV ?_;intro az dJ jc ai bI;have DJ:=hu.ext ai;have aD:=af.trans ai;simp -dsimp only[cK];refine dV ?_;refine R_ [2,3,5,6,7,8] (λt:Bool=>[(14,.bool t)]) (λt W=>t=uL e[k].op/\W=az) ?_ ?_
  .have sp:∀b,(b=true↔(e[k].op=2\/e[k].op=3\/e[k].op=4\/e[k].op=6\/e[k].op=7))->b=uL e[k].op:=λb ak=>by
    unfold uL;cases b with
    | true=>exact(decide_eq_true (ak.1 rfl)).symm
    | false=>exact(decide_eq_false λq=>by have:=ak.2 q;cases this).symm
   refine I ?_;apply I_<;>intro g2
   .refine I ?_;exact⟨_,⟨aJ,trivial⟩,sp _ (by simp[g2]),aJ⟩
   refine I ?_;apply I_<;>intro g3
   .refine I ?_;exact⟨_,⟨aJ,trivial⟩,sp _ (by simp[g3]),aJ⟩
   refine I ?_;apply I_<;>intro g4
   .refine I ?_;exact⟨_,⟨aJ,trivial⟩,sp _ (by simp[g4]),aJ⟩
   refine I ?_;apply I_<;>intro g5
   .refine I ?_;exact⟨_,⟨aJ,trivial⟩,sp _ (by simp[g5]),aJ⟩
   refine I ?_;exact⟨_,⟨aJ,trivial⟩,sp _ (by simp[g2,g3,g4,g5]),aJ⟩
  rintro t j3 aM ⟨rfl,rfl⟩;refine I ?_;cases zj:uL e[k].op with
  | true =>
   rw[zj,if_pos rfl] at hY;refine I ?_;intro aR Yd aat aq pK;refine I ?_;refine S_ (y:=e[k]) (DJ.ext aq) pK rfl (λ_=>rfl) aql Aw (by unfold maxLen;omega) (by have:=aq.size;have:=aD.size;omega) λaN n c bg dC kS=>?_;have ar:=aK.jL (DJ.ext aq) (aD.trans aq) kS (E1 _);refine I ?_;refine⟨b8,aJ,_,⟨rfl,trivial⟩,?_,ar⟩;rw[hY];exact dC
  | false =>
   rw[zj,if_neg CC,S5] at hY;refine I ?_;refine⟨b8,aJ,_,⟨aJ,trivial⟩,?_,aD⟩;rw[hY];exact DJ
 .have gO:k=e.length:=Aw
  rw[gO,AE8] at hu;have jT:=afp e;by_cases aw:zQ e=[]
  .rw[aw] at hu;obtain⟨rr,mT,rfl,_⟩:=hu.form;have amJ:mT<=maxLen:=by
    obtain⟨iQ,cap,h1,_,ab,_⟩:=(aK.iR (enc:=o.Node.enc) (λ_=>rfl) hu).ex;injection h1 with _ _ h1
    omega
   have aou:IM e (o.comp []):=afN (s:=[]) (by rw[aw]) List.Pairwise.nil;refine I ?_;refine J_ (atN rr mT w1) ?_;rintro _ az ai;refine I ?_;refine J_ (aiR rr mT az) ?_;rintro _ aM ⟨rfl,ag⟩;refine I ?_;exact⟨⟨_,aou,⟨.inl ⟨rfl,rr,mT,rfl,amJ⟩⟩⟩,(af.trans ai).trans ag⟩
  .obtain⟨b,c,rfl,ak,aT,an,hm⟩:=aqo hu aw;refine I ?_;refine J_ (atO b c _ w1 aT Aw) ?_;rintro _ az ⟨s,au,aj,jS,fX⟩;have aon:=au.length_eq;have dN:=PE s;rw[<-aon];refine I ?_;refine J_ (aiS b c s az jS Aw hm) ?_;rintro _ aM ⟨rfl,R1,jz⟩;refine I ?_;exact⟨⟨_,afN au aj,⟨.inr ⟨b,c,rfl,ak,R1,Aw,hm⟩⟩⟩,(fX.trans jz).ext af λi U e=>Aw⟩
end Go.Proofs.R
namespace o
open Go
def auD{m:Model}{x:Node}(h:uL x.op=false):ek m 0 false x=[]:=by
 unfold uL at h;have h:=of_decide_eq_false h;unfold ek;rw[if_neg Aw,if_neg Aw,if_neg Aw,if_neg Aw,if_neg Aw]
def auH{m:Model}{e r:C_ Node}(h:IM e r)(z:Int):z∈r.flatMap (ek m 0 false)↔z∈xT m e:=by
 unfold xT;simp only[List.mem_flatMap];constructor
 .rintro⟨x,ah,bB⟩;exact⟨x,((h.mem x).1 ah).1,bB⟩
 .rintro⟨x,ah,bB⟩;cases aj:uL x.op with
  | false=>rw[auD aj] at bB;cases bB
  | true=>exact⟨x,(h.mem x).2 ⟨ah,aj⟩,bB⟩
def zN(m:Model)(k:Nat):C_ Int:=(m.props.take k).flatMap λp=>xT m p.expr
def atw{m:Model}{k:Nat}(h:k<m.props.length):zN m (k+1)=zN m k++xT m m.props[k].expr:=by
 unfold zN;rw[MR h,AF9];simp
def atv(m:Model):zN m m.props.length=tg m:=by unfold zN tg;rw[AE8]
end o
namespace Go.Proofs.R
open Go Go.RowKit ba o
def OU.form{w:A_}{base:Nat}{v:B_}{r:C_ o.Node}(h:OU w base v r):∃aN c,v = .slice aN r.length c/\(0<r.length->∃b,aN=some ⟨b,0,none⟩/\base<=b/\hI w b r/\r.length<=c/\c<=maxLen):=by
 rcases h.ex with ⟨rfl,p,c,rfl,_⟩ | ⟨b,c,rfl,ak,aT,an,hm⟩
 .exact⟨p,c,rfl,λh=>absurd h (Nat.lt_irrefl _)⟩
 .exact⟨_,c,rfl,λ_=>⟨b,rfl,ak,aT,an,hm⟩⟩
def S4{a b c d e:H_ Addr}{kj jD pg uz n5 c1 c2 bw bD Aq:Nat}{n:Int}:∀x∈(#[.slice a kj c1,.slice b jD c2,.slice c pg bw,.I n,.slice d uz bD,.slice e n5 Aq]:Array B_).toList,x.oneCell'=true:=by simp[Value.oneCell']
def atz(cs:C_ B_)(m:o.Model)(w:A_)(h:dh w cs m)(aG:m.cr)(aS:gQ w) :
  Ei F.oW #[.agg cs.toArray] w λu w'=>(∃b n,((jH m=[]/\n=0/\u = .slice none 0 0)\/u = .slice (some ⟨b,0,none⟩) n n/\n=(jH m).length/\w.heap.size<=b/\w'.heap[b]? = some (.cells (mQ (jH m)).toArray T.k)))/\Ext w w':=by
 have b2:=h;obtain⟨bZ,bz,bN,c1,bT,c2,bW,bw,b1,bD,rfl,ad,h1,J,ab,aF,eB,dD,dO,dU,eg⟩:=h.form;refine bk E.oW ?_;refine I ?_;intro w1 bx cN af al;refine I ?_;refine J_ (zx _ m w1 (b2.ext af) aG (aS.ext af)) ?_;rintro _ az ⟨rfl,ai⟩;replace al:=ai.obj al;have aD:=af.trans ai;refine I ?_;refine Y_ (v:=.I (o.check m).cJ) rfl ?_;refine I ?_;apply I_<;>intro g1;rotate_left
 .have e:jH m=[]:=by unfold jH;rw[if_neg g1]
  refine I ?_;exact⟨⟨0,0,.inl ⟨e,rfl,aJ⟩⟩,aD⟩
 have gN:=gU g1;have A9:lyz m=o.layout m:=by unfold lyz;rw[if_pos g1]
 refine dV ?_;refine R_ [1] (λx:Nat×B_=>[(3,.pointer (some ⟨x.1,0,none⟩)),(4,x.2)]) (λx W => ∃ys:C_ B_,W.heap[x.1]? = some (.cells ys.toArray T.h)/\jq W ys (o.layout m)/\ix W x.2 (o.insts m)/\Ext az W) ?_ ?_
 .have GG:∀{W},Ext az W->Ei F.m #[.agg #[.slice bZ m.scalars.length bz,.slice bN m.vars.length c1,.slice bT m.aA.length c2,.slice bW m.procs.length bw,.slice b1 m.props.length bD]] W λv w'=>(∃eD d0 dI d1 ec d2 ep d3 eM d4,v = .agg #[.slice eD (o.layout m).vars.length d0,.slice dI (o.layout m).aA.length d1,.slice ec (o.layout m).insts.length d2,.I (o.layout m).cells,.slice ep (o.layout m).aV.length d3,.slice eM (o.layout m).U.length d4]/\er W (λw=>jq w [.slice eD (o.layout m).vars.length d0,.slice dI (o.layout m).aA.length d1,.slice ec (o.layout m).insts.length d2,.I (o.layout m).cells,.slice ep (o.layout m).aV.length d3,.slice eM (o.layout m).U.length d4] (o.layout m)) w')/\Ext W w':=λ{W} he=>(He _ m W (b2.ext (aD.trans he)) aG (aS.ext (aD.trans he))).mono λv w' ⟨⟨xs,aH,aw⟩,hx⟩=>by
   rw[A9] at aw;obtain⟨eD,d0,dI,d1,ec,d2,ep,d3,eM,d4,rfl,_⟩:=aw.here.form;exact⟨⟨eD,d0,dI,d1,ec,d2,ep,d3,eM,d4,aH,aw⟩,hx⟩
  have sV:∀{W},Ext az W->Ei F.c #[.agg #[.slice bZ m.scalars.length bz,.slice bN m.vars.length c1,.slice bT m.aA.length c2,.slice bW m.procs.length bw,.slice b1 m.props.length bD]] W λv w'=>(∃ca ci,v = .slice ca (o.insts m).length ci/\aK cP.enc T.d 2 W.heap.size w' v (o.insts m))/\Ext W w':=λ{W} he=>(xA _ m W (b2.ext (aD.trans he)) aG).mono λv w' ⟨aH,hx⟩=>by
   obtain⟨ca,ci,rfl,_⟩:=aH.form;exact⟨⟨ca,ci,rfl,aH⟩,hx⟩
  refine dV ?_;intro aM ag;replace al:=ag.obj al;refine I ?_;refine⟨?_,?_⟩
  .refine J_ (GG ag) ?_;rintro _ aR ⟨⟨eD,d0,dI,d1,ec,d2,ep,d3,eM,d4,rfl,ck⟩,aq⟩;have bo:=ag.trans aq;refine⟨aq,?_⟩;refine I ?_;refine⟨?_,?_⟩
   .refine J_ (sV bo) ?_;rintro _ bg ⟨⟨ca,ci,rfl,aP⟩,ar⟩;have bC:=bo.trans ar;refine I ?_;intro bp bV eX aC a8;refine⟨(aq.trans ar).trans aC,?_⟩;refine U_ a8 rfl rfl S4 λbH dz b3=>?_;have cL:=dz.ext aC eX;refine I ?_;exact⟨(bV,_),⟨aJ,aJ,trivial⟩,_,b3,ck.here.ext (ar.trans cL),(aK.e4 (enc:=cP.enc) (λ_=>rfl) aP).ext Flat.ext cL,bC.trans cL⟩
   .refine O_ ?_;intro bg bV eX ar a8;have bC:=bo.trans ar;have cu:=cq a8;refine⟨aq.trans ar,?_⟩;refine I ?_;refine J_ (sV bC) ?_;rintro _ bp ⟨⟨ca,ci,rfl,aP⟩,aC⟩;refine I ?_;refine U_ (aC.obj a8) rfl rfl S4 λbH dz b3=>?_;have cL:=dz.ext (ar.trans aC) eX;refine I ?_;exact⟨(bV,_),⟨aJ,aJ,trivial⟩,_,b3,ck.here.ext cL,aK.e4 (enc:=cP.enc) (λ_=>rfl) (aK.wr dz cu aP),bo.trans cL⟩
  .refine O_ ?_;intro aR bV eX aq a8;have bo:=ag.trans aq;have cu:=cq a8;refine⟨aq,?_⟩;refine I ?_;refine J_ (GG bo) ?_;rintro _ bg ⟨⟨eD,d0,dI,d1,ec,d2,ep,d3,eM,d4,rfl,ck⟩,ar⟩;have bC:=bo.trans ar;have z5:=ar.size;refine⟨aq.trans ar,?_⟩;refine I ?_;refine J_ (sV bC) ?_;rintro _ bp ⟨⟨ca,ci,rfl,aP⟩,aC⟩;refine I ?_;refine U_ ((ar.trans aC).obj a8) rfl rfl S4 λbH dz b3=>?_;have cL:=dz.ext ((aq.trans ar).trans aC) eX;refine I ?_;exact⟨(bV,_),⟨aJ,aJ,trivial⟩,_,b3,((ck.ext aC z5).wr dz cu).here,aK.e4 (enc:=cP.enc) (λ_=>rfl) (aK.wr dz Aw aP),ag.trans cL⟩
 rintro⟨bV,bK⟩ S aM ⟨ys,a8,ck,aP,ag⟩;dsimp only at a8 ck aP ⊢;replace al:=ag.obj al;have aO:=aD.trans ag;have pJ:=ck;obtain⟨eD,d0,dI,d1,ec,d2,ep,d3,eM,d4,rfl,_⟩:=ck.form;have dN:(o.layout m).cells=(di m:Nat):=rfl;have qj:di m<=64:=iH gN;have qk:=ad3 g1;refine I ?_;refine AA5 (di m) dN Aw λaR b ak aq bn=>?_;refine I ?_;intro wn bQ o1 fc eI;refine I ?_;intro bg e3 jQ;have ar:Ext aR bg:=e3.ext fc o1;clear eI;have hq:=aq.trans ar;have o0:nB bg bQ b (di m) (zN m 0):=⟨jQ,_,ar.obj bn,oN.start _⟩;have jc:=cq (ar.obj bn);have qg:∀{W},Mod (λi=>i=b) bg W->Ext aM W:=λhm=>hm.ext hq λk hk e=>Aw
 have amy:=hq.obj al;have AX:=hq.obj a8;clear bn jQ;refine I ?_;refine L_ 24 m.props.length [1,3,4,5,22,23] (λ_:Unit=>[]) () (λk _ W=>nB W bQ b (di m) (zN m k)/\Mod (λi=>i=b) bg W) a6 a6 ⟨o0,Mod.refl _ _⟩ ?_;rintro k _ j3 bp hk ⟨yZ,jg⟩;have tR:=qg jg;have b5:=aO.trans tR;have al5:=yZ.box;have o3:=tR.obj al;have amk:=tR.obj a8;clear amy AX;refine I ?_;apply I_<;>intro g2;rotate_left
 .have gO:k=m.props.length:=Aw
  rw[gO,atv] at yZ;obtain⟨ae,aS,aj⟩:=yZ.row;have hX:=aj.ae6 g1;subst hX;have aE:=aj.len;refine I ?_;exact⟨⟨b,di m,.inr ⟨rfl,aE.symm,by have:=aO.size;omega,aS⟩⟩,b5⟩
 have b8:k<m.props.length:=Aw
 obtain⟨a4,rfl⟩:=aF.addr;obtain⟨kC,gX,c5,ho⟩:=aF.at k b8;obtain⟨M3,ce,rfl,_⟩:=ho.form;have eh:=TF g1 b8;have hle:=eh.len;unfold lS.enc at c5;have xp:=c5.ext b5;refine I ?_;intro bH ia hi bc b3;have cL:=b5.trans bc;refine I ?_;refine J_ (auI _ m.props[k].expr bH (ho.ext cL) Aw) ?_;rintro _ cB ⟨⟨r,aT,alc⟩,bt⟩;obtain⟨aN,c,rfl,kV⟩:=alc.form;have xh:=bc.trans bt;have rY:=yZ.ext xh;have jh:=jg.trans xh.mod;have mv:=bc.size;have e8:b<bp.heap.size:=by have:=jg.size;omega
 clear b3 xp al5 o3 amk;refine I ?_;refine L_ 32 r.length [1,3,4,5,22,23,24,30,31] (λ_:Unit=>[]) () (λi _ W=>nB W bQ b (di m) (zN m k++(r.take i).flatMap (ek m 0 false))/\Mod (λi=>i=b) cB W) a6 a6 ⟨by simpa using rY,Mod.refl _ _⟩ ?_;rintro i _ EX cD U ⟨Dd,mz⟩;have aby:=jh.trans mz;have J6:=qg aby;have fO:=aO.trans J6;have aaw:=Dd.box;have F9:=J6.obj al;have aaz:=J6.obj a8;refine I ?_;apply I_<;>intro g3;rotate_left
 .have anh:i=r.length:=Aw
  rw[anh,AE8] at Dd;refine I ?_;refine⟨b8,aJ,(),trivial,Dd.congr λz=>?_,aby⟩;rw[atw b8,AG0,AG0,auH aT]
 have l0:i<r.length:=Aw
 obtain⟨qQ,rfl,QN,anR,KL,GP⟩:=kV Aw;have yV:=(anR.mod mz Aw).afj KL GP;obtain⟨SC,_⟩:=(aT.mem r[i]).1 (E2 l0);have aw6:r.length<=9223372036854775807:=by unfold maxLen at GP;omega
 have c9:(r[i]).ok:=by
  have abO:=List.length_pos_of_mem SC;obtain⟨rP,rfl⟩:=ho.addr abO;obtain⟨j,ay,AA⟩:=List.mem_iff_getElem.1 SC;rw[<-AA];exact(ho.at j ay).ok
 have KN:=ad4 g1 b8 SC;refine I ?_;intro et b9 lZ cd cG;replace aaw:=cd.obj aaw;replace F9:=cd.obj F9;replace aaz:=cd.obj aaz;refine I ?_;refine J_ (ajh r[i] _ _ _ bQ b _ m aM et (b2.ext aO) pJ aP (J6.trans cd) ak (Dd.ext cd) gN KN c9) ?_;rintro _ ft ⟨alI,DA⟩;refine I ?_;refine⟨l0,aJ,(),trivial,?_,(mz.trans cd.mod).trans DA⟩;rw[MR l0,AF9,<-NC];simpa using alI
def YX(cs:C_ B_)(bK:B_)(m:o.Model)(ref:Int)(q p k:Nat)(w:A_)(h:dh w cs m)(aP:ix w bK (o.insts m))(br:fe m ref q p k)(x:o.Ref)(pa:x.inst=q)(hb:x.cmd=k) :
  Ei F.t #[.agg cs.toArray,bK,.agg x.enc.toArray] w λu w'=>(∃eY va,u = .agg ((bM m p k).enc eY va).toArray/\eW w eY (bM m p k).guard/\lP w va (bM m p k).bL)/\Ext w w':=by
 obtain⟨bZ,bz,bN,c1,bT,c2,bW,bw,b1,bD,rfl,ad,h1,J,ab,aF,eB,dD,dO,dU,eg⟩:=h.form;obtain⟨ca,ci,rfl,_⟩:=aP.form;have av:=br.at_.U;have au:=br.at_.au;have hz:=br.at_.hk;have kc:=br.at_.ip;obtain⟨gu,rfl⟩:=aP.addr;obtain⟨a3,rfl⟩:=ab.addr;obtain⟨kC,bY,dQ,c5,eU,eA⟩:=ab.at p au;obtain⟨vT,u4,rfl,vP⟩:=eA.form;obtain⟨ac,rfl⟩:=eA.addr;obtain⟨eI,eY,va,e0,ga,e2⟩:=eA.at k hz;obtain⟨fE,fN,rfl,_⟩:=ga.form;obtain⟨oC,n2,rfl,_⟩:=e2.form;have ha:=sJ au hz;have tP:x.enc=[.I q,.I k]:=by unfold o.Ref.enc;rw[pa,hb]
 rw[tP];unfold dv.enc at c5;unfold dG.enc at e0;refine bk E.t ?_;refine I ?_;intro w1 bV eX af a8;refine I ?_;intro az dJ jc ai bI;replace a8:=ai.obj a8;refine I ?_;intro aM dm e8 ag bS;replace a8:=ag.obj a8;replace bI:=ag.obj bI;have aO:=(af.trans ai).trans ag;have jK:=af.size;have sn:=ai.size;intro aR aq;replace a8:=aq.obj a8;replace bI:=aq.obj bI;replace bS:=aq.obj bS;have bo:=aO.trans aq;have yW:=aP.ext Flat.ext bo;have abN:=c5.ext bo;have awD:=e0.ext bo;refine I ?_;refine K_ p (by rw[kc]) au ?_;refine I ?_;intro bg e3 amq;refine I ?_;exact⟨⟨.slice fE (bM m p k).guard.length fN,.slice oC (bM m p k).bL.length n2,by rw[ha];rfl,by rw[ha];exact ga,by rw[ha];exact e2⟩,e3.ext bo Aw⟩
structure yv(w:World)(bQ b:Nat)(ae:List Bool):Prop where
 box:w.heap[bQ]? = some (.cells #[.slice (some ⟨b,0,none⟩) ae.length ae.length] T.gu)
 row:w.heap[b]? = some (.cells (mQ ae).toArray T.k)
theorem yv.ext{w w':A_}{bQ b:Nat}{ae:C_ Bool}(h:yv w bQ b ae)(he:Ext w w'):yv w' bQ b ae:=⟨he.obj h.box,he.obj h.row⟩
def pW(ae:C_ Bool)(x:Int):Bool:=(ae[x.toNat]?).getD false
def auc(x:Int)(bQ b:Nat)(ae:C_ Bool)(w:A_)(h:yv w bQ b ae)(ad:0<=x)(h1:x.toNat<ae.length) :
  Ei F.n #[.I x,.pointer (some ⟨bQ,0,none⟩)] w λv w'=>v = .bool (pW ae x)/\Ext w w':=by
 have o1:=h.box;have an:w.cell? (Addr.add ⟨b,0,none⟩ (x.toNat*1))=some (.bool (pW ae x)):=fP h.row (by rw[AG2];simp[mQ,pW,h1]);refine bk E.n ?_;refine I ?_;refine K_ x.toNat Aw h1 ?_;refine I ?_;refine M_ an ?_;refine I ?_;exact⟨aJ,Ext.refl _⟩
def atD(v:B_)(l:C_ Int)(bQ b:Nat)(ae:C_ Bool)(w:A_)(h:c3 w v l)(b7:0<l.length->yv w bQ b ae)(aE:∀x∈l,0<=x/\x.toNat<ae.length) :
  Ei F.j #[v,.func (.func F.n) #[] #[.pointer (some ⟨bQ,0,none⟩)]] w λbU w'=>bU = .I (mu (pW ae) l 0)/\Ext w w':=by
 obtain⟨bN,c1,rfl,bx⟩:=h.form;refine wo E.j ?_;refine oR ?_;refine I ?_;refine L_ 8 l.length [0,1,7] (λ_:Unit=>[]) () (λk _ w'=>Ext w w'/\mu (pW ae) l 0=mu (pW ae) (l.drop k) k) a6 a6 ⟨Ext.refl _,CC⟩ ?_;rintro k _ S az hk ⟨ai,aP⟩;have J:=h.ext Flat.ext ai;refine I ?_;apply I_<;>intro g1
 .have a1:k<l.length:=Aw
  obtain⟨a,rfl⟩:=h.addr;obtain⟨pk,c7⟩:=aE _ (E2 a1);rw[P7 a1] at aP;refine I ?_;refine V_ (first:=[]) (cap:=[.pointer (some ⟨bQ,0,none⟩)]) Cx (auc l[k] bQ b ae az ((b7 Aw).ext ai) pk c7) ?_;rintro _ aM ⟨rfl,ag⟩;cases aj:pW ae l[k] with
  | true =>
   rw[aj,if_pos rfl] at aP;refine I ?_;exact⟨by rw[aP],ai.trans ag⟩
  | false =>
   rw[aj,if_neg CC] at aP;refine I ?_;exact⟨a1,aJ,(),trivial,ai.trans ag,aP⟩
 .refine I ?_;exact⟨by rw[aP,AE9 Aw];rfl,ai⟩
def ats(v:B_)(l:C_ Int)(bQ b:Nat)(ae:C_ Bool)(w:A_)(h:c3 w v l)(b7:0<l.length->yv w bQ b ae)(aE:∀x∈l,0<=x/\x.toNat<ae.length) :
  Ei F.h #[v,.func (.func F.n) #[] #[.pointer (some ⟨bQ,0,none⟩)]] w λbU w'=>bU = .bool (l.any (pW ae))/\Ext w w':=by
 refine wo E.h ?_;refine oR ?_;refine I ?_;refine J_ (atD v l bQ b ae w h b7 aE) ?_;rintro _ az ⟨rfl,ai⟩;refine I ?_;refine⟨?_,ai⟩;congr 1;exact Bool.eq_iff_iff.2 (by rw[decide_eq_true_eq];exact JI)
end Go.Proofs.R
namespace o
open Go
def ah8{m:Model}{v:Nat}(aL:eE m)(h:v<m.vars.length):cells m.vars[v] m.scalars=(lI m v:Nat)/\lI m v<=64:=by
 have aT:=Et aL h;rw[rp h] at aT ⊢;have c9:=(aL.var _ (E2 h)).ei
 have:0<=cells m.vars[v] m.scalars:=by
  unfold cells size;split
  .omega
  .split
   .split<;>omega
   .omega
 omega
end o
namespace Go.Proofs.R
open Go Go.RowKit ba o
def asp(x:o.Node)(cs ys:C_ B_)(m:o.Model)(w:A_)(h:dh w cs m)(aG:m.cr)(ck:jq w ys (o.layout m))(aL:eE m)(ah:wy m x)(c9:x.ok) :
  Ei F.My #[.agg cs.toArray,.agg ys.toArray,.agg x.enc.toArray] w λu w'=>aK bX T.a 1 w.heap.size w' u (ek m 0 false x)/\Ext w w':=by
 have b2:=h;have Bq:=c9.op;have Bp:=c9.n;unfold dZ at Bq Bp;obtain⟨bZ,bz,bN,c1,bT,c2,bW,bw,b1,bD,rfl,ad,h1,J,ab,aF,eB,dD,dO,dU,eg⟩:=h.form;obtain⟨eD,d0,dI,d1,ec,d2,ep,d3,eM,d4,rfl,dF,cR,cA,eN,fs⟩:=ck.form;obtain⟨f5,f6,f8⟩:=pT m;have qj:di m<=64:=iH aL;refine bk E.My ?_;refine I ?_;intro w1 bV eX af a8;refine I ?_;intro az cQ fD ai bn;replace a8:=ai.obj a8;refine I ?_;intro aM dJ jc ag bI;replace a8:=ag.obj a8;replace bn:=ag.obj bn;have aO:=(af.trans ai).trans ag;have z3:=aO.size;unfold o.Node.enc at bI;refine I ?_;apply I_<;>intro g2
 .obtain⟨aw,fj,aE⟩:=ah.var aL g2;obtain⟨a0,rfl⟩:=dF.addr;have ar4:=dF.ext Flat.ext aO;obtain⟨dP,gn⟩:=rB aw;have aT:=Eu aw;have gK:x.n=(x.n.toNat:Nat):=Aw
  rw[gK] at bI;have aD:ek m 0 false x=[(gb m x.n.toNat:Int)]:=by unfold ek;rw[if_pos g2,mb]
  rw[aD];refine I ?_;intro aR Yd aat aq pK;rw[gn] at pK;refine I ?_;refine S_ (y:=(gb m x.n.toNat:Int)) (aK.nil bX T.a 1 w.heap.size aR) pK rfl (λ_=>rfl) ht CC (by simp[maxLen]) (by have:=aq.size;omega) λaN n c bg dC kS=>?_;have ar:=aK.jL (aK.nil bX T.a 1 w.heap.size aR) (aO.trans aq) kS (E1 _);refine I ?_;exact⟨dC,ar⟩
 refine I ?_;apply I_<;>intro g3
 .obtain⟨aw,fj,_⟩:=ah.item aL g3;obtain⟨a0,rfl⟩:=dF.addr;obtain⟨agO,rfl⟩:=h1.addr;obtain⟨dP,gn⟩:=rB aw;obtain⟨eH,awX⟩:=ah8 aL aw;have aT:=Eu aw;have gK:x.n=(x.n.toNat:Nat):=Aw
  have Jw:ek m 0 false x=gD (gb m x.n.toNat) (lI m x.n.toNat):=by
   unfold ek mC;rw[if_neg g2,if_pos g3,if_neg CC]
  rw[gK] at bI;rw[Jw];have ami:=a8;have Kh:=bn;have Gb:=bI;clear a8 bn bI;refine I ?_;refine L_ 8 (lI m x.n.toNat) [3,4,5] (λu:B_=>[(7,u)]) (.slice none 0 0) (λk u W=>aK bX T.a 1 aM.heap.size W u (gD (gb m x.n.toNat) k)/\Ext aM W) a6 a6 ⟨aK.nil _ _ _ _ _,Ext.refl _⟩ ?_;rintro k u S aR hk ⟨hu,aq⟩;have bo:=aO.trans aq;obtain⟨rr,mT,rfl,_⟩:=hu.form;have KR:=Nk (gb m x.n.toNat) k;have a8:=aq.obj ami;have bn:=aq.obj Kh;have bI:=aq.obj Gb;have D5:=dF.ext Flat.ext bo;have C2:=h1.ext bo;have kW:=ad.ext bo;refine I ?_;refine P_ (.I (o.cells m.vars[x.n.toNat] m.scalars)) (λw' hx=>Ni m.vars[x.n.toNat] _ m.scalars w' (kW.ext hx)) ?_;refine I ?_;intro bg ar;have bC:=bo.trans ar;replace bn:=ar.obj bn;replace bI:=ar.obj bI;have BM:=D5.ext Flat.ext ar;have Sj:=hu.ext ar;clear D5 C2;refine I ?_;apply I_<;>intro g4
  .refine I ?_;intro bp avI e8 aC bS;rw[gn] at bS;refine I ?_;refine S_ (y:=((gb m x.n.toNat+k:Nat):Int)) (Sj.ext aC) bS (by unfold bX;rw[Int.natCast_add];rfl) (λ_=>rfl) ht Aw (by unfold maxLen;omega) (by have:=aC.size;have:=ar.size;have:=aq.size;omega) λaN n c bH dY jR=>?_;have bc:=aK.jL (Sj.ext aC) ((aq.trans ar).trans aC) jR (E1 _);refine I ?_;refine⟨Aw,aJ,_,⟨rfl,trivial⟩,?_,bc⟩;rw[T6];exact dY
  .have gO:k=lI m x.n.toNat:=Aw
   refine I ?_;exact⟨by rw[<-gO];exact aK.low z3 Sj,bC⟩
 refine I ?_;apply I_<;>intro g6
 .obtain⟨fj,dS⟩:=ah.node.len g6;have dL:x.n.toNat<m.aA.length:=dS;obtain⟨db,rfl⟩:=cR.addr;have ar5:=cR.ext Flat.ext aO;obtain⟨je,eH⟩:=qc dL;have gK:x.n=(x.n.toNat:Nat):=Aw
  rw[gK] at bI;have b5:ek m 0 false x=[(b6 m x.n.toNat:Int)]:=by
   unfold ek;rw[if_neg g2,if_neg g3,if_neg Aw,if_pos g6,mb]
  rw[b5];refine I ?_;intro aR Yd aat aq pK;rw[eH] at pK;refine I ?_;refine S_ (y:=(b6 m x.n.toNat:Int)) (aK.nil bX T.a 1 w.heap.size aR) pK rfl (λ_=>rfl) ht CC (by simp[maxLen]) (by have:=aq.size;omega) λaN n c bg dC kS=>?_;have ar:=aK.jL (aK.nil bX T.a 1 w.heap.size aR) (aO.trans aq) kS (E1 _);refine I ?_;exact⟨dC,ar⟩
 refine I ?_;apply I_<;>intro g7;rotate_left
 .have eK:ek m 0 false x=[]:=by
   unfold ek;by_cases g4:x.op=4
   .have:=(ah.node.loc g4).2
    have e:(eC m).locals=[]:=rfl;rw[e] at this;cases this
   rw[if_neg g2,if_neg g3,if_neg g4,if_neg g6,if_neg g7]
  rw[eK];refine I ?_;exact⟨aK.nil _ _ _ _ _,aO⟩
 have cL:ek m 0 false x=nX m (x.n.tdiv 16) (o.insts m).length:=by unfold ek;rw[if_neg g2,if_neg g3,if_neg Aw,if_neg g6,if_pos g7]
 rw[cL];obtain⟨fj,vE⟩:=ah.node.at_ g7;have RY:=AK5 fj (show(0:Int)<=16 by omega);have RU:(x.n.tdiv 16).toNat<m.procs.length:=vE;have RW:=aL.procs;have abT : -9223372036854775808<=x.n.tdiv 16/\x.n.tdiv 16<=9223372036854775807:=Aw
 have gj:=xz aL;refine I ?_;refine J_ (tf _ m aM (b2.ext aO) aG) ?_;rintro bK aR ⟨dP,aq⟩;obtain⟨ca,ci,rfl,_⟩:=dP.form;have eh:ix aR _ _:=aK.e4 (enc:=cP.enc) (λ_=>rfl) dP;have amm:=aq.obj bn;have amn:=aq.obj bI;have bo:=aO.trans aq;clear a8 bn bI dP;refine I ?_;refine L_ 10 (o.insts m).length [4,5,9] (λu:B_=>[(7,u)]) (.slice none 0 0) (λk u W=>aK bX T.a 1 aR.heap.size W u (nX m (x.n.tdiv 16) k)/\Ext aR W) a6 a6 ⟨by simpa[nX] using aK.nil _ _ _ _ _,Ext.refl _⟩ ?_;rintro k u S bg hk ⟨hu,ar⟩;obtain⟨rr,mT,rfl,_⟩:=hu.form;have KR:=(IU aL (x.n.tdiv 16) k hk).len;have bn:=ar.obj amm;have bI:=ar.obj amn;have bC:=bo.trans ar;have Rx:=eh.ext Flat.ext ar;have oD:=cA.ext Flat.ext bC;refine I ?_;apply I_<;>intro g1
 .have b8:k<(o.insts m).length:=Aw
  obtain⟨gu,rfl⟩:=eh.addr;obtain⟨sU,iD⟩:=ow b8;obtain⟨a2,rfl⟩:=cA.addr;have jP:=Ak (m:=m) (p:=x.n.tdiv 16) b8;refine I ?_;refine _C Aw ?_;refine I ?_;intro bp aC;replace bn:=aC.obj bn;have Sk:=hu.ext aC;have Nd:=oD.ext Flat.ext aC;have hg:=ar.trans aC;clear Rx oD;refine I ?_;apply I_<;>intro g2
  .rw[if_pos g2,mb] at jP;refine I ?_;intro bH avK hi bc b3;rw[iD] at b3;refine I ?_;refine S_ (y:=(cV m k:Int)) (Sk.ext bc) b3 rfl (λ_=>rfl) ht Aw (by unfold maxLen;omega) (by have:=bc.size;have:=hg.size;omega) λaN n c cB gy ua=>?_;have bt:=aK.jL (Sk.ext bc) (hg.trans bc) ua (E1 _);refine I ?_;refine⟨b8,aJ,_,⟨rfl,trivial⟩,?_,bt⟩;rw[jP];exact gy
  .rw[if_neg g2,S5] at jP;refine I ?_;refine⟨b8,aJ,_,⟨aJ,trivial⟩,?_,hg⟩;rw[jP];exact Sk
 .have gO:(o.insts m).length=k:=Aw
  rw[gO];refine I ?_;exact⟨aK.low bo.size hu,bC⟩
end Go.Proofs.R
namespace o
open Go
def zF(m:Model)(e:C_ Node)(k:Nat):C_ Int:=(e.take k).flatMap (ek m 0 false)
def arG{m:Model}{e:C_ Node}{k:Nat}(h:k<e.length):zF m e (k+1)=zF m e k++ek m 0 false e[k]:=by
 unfold zF;rw[MR h,AF9];simp
def arF(m:Model)(e:C_ Node):zF m e e.length=xT m e:=by unfold zF xT;rw[AE8]
def x0(m:Model)(k:Nat):C_ Int:=(m.props.take k).flatMap λp=>xT m p.expr
def atu{m:Model}{k:Nat}(h:k<m.props.length):x0 m (k+1)=x0 m k++xT m m.props[k].expr:=by
 unfold x0;rw[MR h,AF9];simp
def att(m:Model):x0 m m.props.length=tg m:=by unfold x0 tg;rw[AE8]
end o
namespace Go.Proofs.R
open Go Go.RowKit ba o
structure Ag(w:World)(b N:Nat)(L:List Int):Prop where
 row:∃ae,w.heap[b]? = some (.cells (mQ ae).toArray T.k)/\oN N L ae
theorem Ag.ext{w w':A_}{b N:Nat}{L:C_ Int}(h:Ag w b N L)(he:Ext w w'):Ag w' b N L:=by
 obtain⟨ae,h1,J⟩:=h.row;exact⟨ae,he.obj h1,J⟩
def as7(cs:C_ B_)(m:o.Model)(w:A_)(h:dh w cs m)(aG:m.cr) :
  Ei F.Mx #[.agg cs.toArray] w λu w'=>(∃b n,((jH m=[]/\n=0/\u = .slice none 0 0)\/u = .slice (some ⟨b,0,none⟩) n n/\n=(jH m).length/\w.heap.size<=b/\w'.heap[b]? = some (.cells (mQ (jH m)).toArray T.k)))/\Ext w w':=by
 have b2:=h;obtain⟨bZ,bz,bN,c1,bT,c2,bW,bw,b1,bD,rfl,ad,h1,J,ab,aF,eB,dD,dO,dU,eg⟩:=h.form;refine bk E.Mx ?_;refine I ?_;intro w1 bx cN af al;refine I ?_;refine J_ (MQ _ m w1 (b2.ext af) aG) ?_;rintro _ az ⟨rfl,ai⟩;replace al:=ai.obj al;have aD:=af.trans ai;refine I ?_;apply I_<;>intro g1;rotate_left
 .have e:jH m=[]:=by unfold jH;rw[if_neg g1]
  refine I ?_;exact⟨⟨0,0,.inl ⟨e,rfl,aJ⟩⟩,aD⟩
 have gN:=gU g1;have A9:lyz m=o.layout m:=by unfold lyz;rw[if_pos g1]
 have qj:di m<=64:=iH gN;have qk:=ad3 g1;refine I ?_;refine J_ (T0 _ m az (b2.ext aD) aG) ?_;rintro _ aM ⟨⟨ys,rfl,ck⟩,ag⟩;have aO:=aD.trans ag;replace al:=ag.obj al;rw[A9] at ck;have aad:=ck.here;have pJ:=aad;obtain⟨eD,d0,dI,d1,ec,d2,ep,d3,eM,d4,rfl,_⟩:=aad.form;have dN:(o.layout m).cells=(di m:Nat):=rfl;refine I ?_;intro aR bV eX aq a8;replace al:=aq.obj al;have bo:=aO.trans aq;have AO:=pJ.ext aq;refine I ?_;refine AA5 (di m) dN Aw λbg b ak ar bI=>?_;have o0:Ag bg b (di m) (x0 m 0):=⟨_,bI,oN.start _⟩;have jc:=cq bI;have qg:∀{W},Mod (λi=>i=b) bg W->Ext aR W:=λhm=>hm.ext ar λk hk e=>Aw
 clear bI;refine I ?_;refine L_ 5 m.props.length [1,3,4] (λ_:Unit=>[]) () (λk _ W=>Ag W b (di m) (x0 m k)/\Mod (λi=>i=b) bg W) a6 a6 ⟨o0,Mod.refl _ _⟩ ?_;rintro k _ j3 bp hk ⟨yZ,jg⟩;have tR:=qg jg;have b5:=bo.trans tR;have o3:=tR.obj al;refine I ?_;apply I_<;>intro g2;rotate_left
 .have gO:k=m.props.length:=Aw
  rw[gO,att] at yZ;obtain⟨ae,aS,aj⟩:=yZ.row;have hX:=aj.ae6 g1;subst hX;have aE:=aj.len;refine I ?_;exact⟨⟨b,di m,.inr ⟨rfl,aE.symm,by have:=bo.size;omega,aS⟩⟩,b5⟩
 have b8:k<m.props.length:=Aw
 obtain⟨a4,rfl⟩:=aF.addr;obtain⟨kC,gX,c5,ho⟩:=aF.at k b8;obtain⟨M3,ce,rfl,_⟩:=ho.form;have eh:=TF g1 b8;have hle:=eh.len;unfold lS.enc at c5;have xp:=c5.ext b5;refine I ?_;refine L_ 7 m.props[k].expr.length [1,3,4,5,6] (λ_:Unit=>[]) () (λi _ W=>Ag W b (di m) (x0 m k++zF m m.props[k].expr i)/\Mod (λi=>i=b) bg W) a6 a6 ⟨by simpa[zF] using yZ,jg⟩ ?_;rintro i _ EX bH U ⟨F0,hl⟩;have sO:=qg hl;have cL:=bo.trans sO;have QR:=sO.obj al;have aay:=sO.obj a8;refine I ?_;apply I_<;>intro g3;rotate_left
 .have iD:i=m.props[k].expr.length:=Aw
  rw[iD,arF] at F0;refine I ?_;refine⟨b8,aJ,(),trivial,?_,hl⟩;rw[atu b8];exact F0
 have l0:i<m.props[k].expr.length:=Aw
 obtain⟨rP,rfl⟩:=ho.addr;have kT:=ho.at i l0;have KN:=ad4 g1 b8 (E2 l0);have zf:=kT.cells.ext cL;refine I ?_;intro cB bt;replace QR:=bt.obj QR;replace aay:=bt.obj aay;replace zf:=zf.ext bt;refine I ?_;refine J_ (asp m.props[k].expr[i] _ _ m cB (b2.ext (cL.trans bt)) aG (AO.ext (sO.trans bt)) gN KN kT.ok) ?_;rintro _ cD ⟨fl,b0⟩;obtain⟨on,aiL,rfl,_⟩:=fl.form;have alx:bm 1 (Flat bX) cD _ _:=aK.e4 (enc:=bX) (λ_=>rfl) fl;have aa3:=bt.trans b0;have Dd:=F0.ext aa3;have mz:=hl.trans aa3.mod;have cu:=KN.lt gN;have mv:b<cB.heap.size:=by have:=hl.size;have:=bt.size;omega
 have axc:(ek m 0 false m.props[k].expr[i]).length<=9223372036854775807:=by
  obtain⟨_,_,e,h1,J,_⟩:=alx.ex;unfold maxLen at J;omega
 refine I ?_;refine L_ 9 (ek m 0 false m.props[k].expr[i]).length [1,3,4,5,6,7,8] (λ_:Unit=>[]) () (λj _ W=>Ag W b (di m) (x0 m k++zF m m.props[k].expr i++(ek m 0 false m.props[k].expr[i]).take j)/\Mod (λi=>i=b) cD W) a6 a6 ⟨by simpa using Dd,Mod.refl _ _⟩ ?_;rintro j _ p8 et ay ⟨QD,pN⟩;have alv:=aK.mod fl pN (λq av e=>by have:=(aK.lt fl q av).1;omega);have yV:=aK.e4 (enc:=bX) (λ_=>rfl) alv;refine I ?_;apply I_<;>intro g4;rotate_left
 .have abj:j=(ek m 0 false m.props[k].expr[i]).length:=Aw
  rw[abj,AE8] at QD;refine I ?_;refine⟨l0,aJ,(),trivial,?_,mz.trans pN⟩;rw[arG l0,<-NC];exact QD
 have jy:j<(ek m 0 false m.props[k].expr[i]).length:=Aw
 obtain⟨u2,rfl⟩:=yV.addr;obtain⟨z0,fT⟩:=cu _ (E2 jy);obtain⟨ae,aS,aj⟩:=QD.row;have anV:=aj.len;have bB:(ek m 0 false m.props[k].expr[i])[j]=(((ek m 0 false m.props[k].expr[i])[j]).toNat:Nat):=Aw
 have abQ:=aj.put (c:=((ek m 0 false m.props[k].expr[i])[j]).toNat) Aw;rw[<-bB] at abQ;refine I ?_;refine K_ ((ek m 0 false m.props[k].expr[i])[j]).toNat bB Aw ?_;refine I ?_;refine AA6 aS Aw λft hZ jd=>?_;refine I ?_;refine⟨jy,aJ,(),trivial,⟨_,jd,?_⟩,pN.trans (hZ.mod rfl)⟩;rw[MR jy,<-NC];exact abQ
end Go.Proofs.R
namespace o
structure agq(m:Model):Prop where
 s:m.scalars.length<=8
 v:m.vars.length<=20
 c:m.aA.length<=8
 p:m.procs.length<=10
 q:m.props.length<=16
 i:∀(j:Nat) (h:j<m.procs.length),m.procs[j].vars.length<=10/\m.procs[j].c4.length<=16
end o