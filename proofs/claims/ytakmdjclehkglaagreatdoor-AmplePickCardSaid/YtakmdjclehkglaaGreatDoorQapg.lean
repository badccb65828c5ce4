/- Parts. -/
import Derived.Test.YtakmdjclehkglaaGreatDoorQapf
set_option linter.all false
set_option maxRecDepth 100000
set_option maxHeartbeats 16000000
namespace Go.Proofs.R
open Go Go.RowKit a8
def sW{α:Type}(f:α->ByteArray)(l:C_ α)(i:Nat)(h:i<l.length):o.nameAt f l i=f l[i]:=by simp[o.nameAt,h]
def asR(i:Nat)(b:Nat)(v:B_)(l:C_ o.Scalar)(w:A_)(aE:o.il w v l)(ak:w.cell? ⟨b,0,none⟩=some v)(U:i<l.length) :
  Du F.nK #[.I i,.pointer (some ⟨b,0,none⟩)] w λv w'=>v = .string (o.nameAt (·.name) l i)/\Ext w w':=by
 obtain⟨aN,cap,rfl,hlen⟩:=aE.form;refine bl E.nK ?_;refine aW ?_;refine M_ ak ?_;refine aW ?_;obtain⟨a,rfl⟩:=aE.addr;have an:=(aE.at i U).cells 0 _ rfl;refine K_ i rfl U ?_;refine aW ?_;refine M_ an ?_;refine aW ?_;rw[sW _ _ _ U];exact⟨rfl,Ext.refl w⟩
def asS(i:Nat)(b:Nat)(v:B_)(l:C_ o.Scalar)(w:A_)(aE:o.il w v l)(ak:w.cell? ⟨b,0,none⟩=some v)(U:i<l.length) :
  Du F.sn #[.I i,.pointer (some ⟨b,0,none⟩)] w λv w'=>v = .I (o.vH l i)/\Ext w w':=by
 obtain⟨aN,cap,rfl,hlen⟩:=aE.form;refine bl E.sn ?_;refine aW ?_;refine M_ ak ?_;refine aW ?_;obtain⟨a,rfl⟩:=aE.addr;have an:=(aE.at i U).cells 1 _ rfl;have aS:o.vH l i=if 1<=l[i].size/\l[i].size<=4 then 0 else 10:=by simp[o.vH,U]
 rw[aS];generalize l[i].size=z at an;refine K_ i rfl U ?_;refine aW ?_;refine M_ an ?_;refine aW ?_;refine I_ (λh1=>?_) (λh1=>?_)
 .refine aW ?_;rw[if_neg Ad];exact⟨rfl,Ext.refl w⟩
 refine aW ?_;refine M_ ak ?_;refine aW ?_;refine K_ i rfl U ?_;refine aW ?_;refine M_ an ?_;refine aW ?_;refine I_ (λh1=>?_) (λh1=>?_)
 .refine aW ?_;rw[if_neg Ad];exact⟨rfl,Ext.refl w⟩
 .refine aW ?_;rw[if_pos Ad];exact⟨rfl,Ext.refl w⟩
def asT(v:B_)(l:C_ o.Scalar)(w:A_)(aQ:gJ w)(aE:o.il w v l) :
  Du F.IZ #[v] w λv w'=>v = .tuple #[.I (o.scalars l).1,.I (o.scalars l).2]/\Ext w w':=by
 obtain⟨aN,cap,rfl,hlen⟩:=aE.form;refine bl E.IZ ?_;refine aW ?_;refine O_ λw1 b ak ag al=>?_;have pA:=bm.ext o.kj.ext ag aE;have cN:w1.cell? ⟨b,0,none⟩=some (.slice aN l.length cap):=Ck al rfl;refine aW ?_;refine M_ cN ?_;refine aW ?_;refine J_ (SY l.length 2 Ad (o.nameAt (·.name) l) (o.vH l) F.nK F.sn [_] [_] Ci Ci w1 (aQ.ext ag)
  (λi U=>by rw[sW _ _ _ Ad];obtain⟨a,rfl⟩:=aE.addr;exact(aE.at i Ad).ok)
  (λi w' U he=>asR i b _ l w' (bm.ext o.kj.ext he pA) (he.cell cN) Ad)
  (λi w' U he=>asS i b _ l w' (bm.ext o.kj.ext he pA) (he.cell cN) Ad)) ?_
 rintro _ aA ⟨rfl,ai⟩;refine aW ?_;exact⟨rfl,ag.trans ai⟩
def IB(x:o.Var)(v:B_)(l:C_ o.Scalar)(w:A_)(aE:o.il w v l) :
  Du F.es #[.agg x.enc.toArray,v] w λv w'=>v = .tuple #[.I (o.bounds x l).1,.I (o.bounds x l).2]/\Ext w w':=by
 obtain⟨aN,cap,rfl,hlen⟩:=aE.form;refine bl E.es ?_;refine aW ?_;refine O_ λw1 b ak ag al=>?_;have c1:w1.cell? (Addr.add ⟨b,0,none⟩ 1)=some (.I x.scalar):=fM al rfl;have bu:w1.cell? (Addr.add ⟨b,0,none⟩ 3)=some (.I x.aV):=fM al rfl;have bB:w1.cell? (Addr.add ⟨b,0,none⟩ 4)=some (.I x.U):=fM al rfl;refine aW ?_;refine M_ c1 ?_;refine aW ?_;refine I_ (λh1=>?_) (λh1=>?_)
 .refine aW ?_;refine M_ bu ?_;refine aW ?_;refine M_ bB ?_;refine aW ?_;intro aA ai;simp only[o.bounds,h1,if_true];exact⟨trivial,ag.trans ai⟩
 .refine aW ?_;refine M_ c1 ?_;refine aW ?_;refine J_ (TZ x.scalar _ l w1 (bm.ext o.kj.ext ag aE)) ?_;rintro _ _ ⟨rfl,rfl⟩;refine aW ?_;simp only[o.bounds,h1,if_false];exact⟨trivial,ag⟩
def Cl(x:o.Var)(v:B_)(l:C_ o.Scalar)(w:A_)(aE:o.il w v l) :
  Du F.I9 #[.agg x.enc.toArray,v] w λv w'=>v = .I (o.cells x l)/\Ext w w':=by
 obtain⟨aN,cap,rfl,hlen⟩:=aE.form;refine bl E.I9 ?_;refine aW ?_;refine O_ λw1 b ak ag al=>?_;have c2:w1.cell? (Addr.add ⟨b,0,none⟩ 2)=some (.I x.over):=fM al rfl;refine aW ?_;refine M_ c2 ?_;refine aW ?_;refine I_ (λh1=>?_) (λh1=>?_)
 .refine aW ?_;simp only[o.cells,h1,if_true];exact⟨trivial,ag⟩
 .refine aW ?_;refine M_ c2 ?_;refine aW ?_;refine J_ (TZ x.over _ l w1 (bm.ext o.kj.ext ag aE)) ?_;rintro _ _ ⟨rfl,rfl⟩;refine aW ?_;simp only[o.cells,h1,if_false];exact⟨trivial,ag⟩
def aug(i:Nat)(b:Nat)(v:B_)(l:C_ o.Var)(w:A_)(aE:o.hZ w v l)(ak:w.cell? ⟨b,0,none⟩=some v)(U:i<l.length) :
  Du F.w #[.I i,.pointer (some ⟨b,0,none⟩)] w λv w'=>v = .string (o.nameAt (·.name) l i)/\Ext w w':=by
 obtain⟨aN,cap,rfl,hlen⟩:=aE.form;refine bl E.w ?_;refine aW ?_;refine M_ ak ?_;refine aW ?_;obtain⟨a,rfl⟩:=aE.addr;have an:=(aE.at i U).cells 0 _ rfl;refine K_ i rfl U ?_;refine aW ?_;refine M_ an ?_;refine aW ?_;rw[sW _ _ _ U];exact⟨rfl,Ext.refl w⟩
def auh(i:Nat)(b bQ:Nat)(v v2:B_)(l:C_ o.Var)(s:C_ o.Scalar)(w:A_)(aE:o.hZ w v l)(aj:o.il w v2 s)(ak:w.cell? ⟨b,0,none⟩=some v)(c7:w.cell? ⟨bQ,0,none⟩=some v2)
  (U:i<l.length):Du F.x #[.I i,.pointer (some ⟨b,0,none⟩),.pointer (some ⟨bQ,0,none⟩)] w λv w'=>v = .I (o.qw l s i)/\Ext w w':=by
 obtain⟨aN,cap,rfl,hlen⟩:=aE.form;obtain⟨qi,Cj,rfl,Ks⟩:=aj.form;refine bl E.x ?_;refine aW ?_;refine M_ ak ?_;refine aW ?_;obtain⟨a,rfl⟩:=aE.addr;have an:=(aE.at i U).cells;have aS:o.qw l s i=if o.there l[i].scalar s=false\/o.there l[i].over s=false then 8
  else if (l[i].scalar=0/\o.narrow l[i].aV l[i].U=false)\/l[i].init<(o.bounds l[i] s).1\/l[i].init > (o.bounds l[i] s).2 then 10 else 0:=by simp[o.qw,U]
 rw[aS];clear aS;generalize l[i]=x at an;refine K_ i rfl U ?_;refine aW ?_;refine Z_ an rfl ?_;refine aW ?_;refine O_ λw1 q au ag al=>?_;refine aW ?_;refine U_ al rfl rfl (by simp[o.Var.enc,Value.oneCell']) λaA hw ao=>?_;have ai:Ext w aA:=hw.ext ag au;clear hw al ag w1;have c1:aA.cell? (Addr.add ⟨q,0,none⟩ 1)=some (.I x.scalar):=fM ao rfl;have c2:aA.cell? (Addr.add ⟨q,0,none⟩ 2)=some (.I x.over):=fM ao rfl;have z8:aA.cell? (Addr.add ⟨q,0,none⟩ 5)=some (.I x.init):=fM ao rfl;have d2:=ai.cell c7;have et:=bm.ext o.kj.ext ai aj;refine aW ?_;refine M_ c1 ?_;refine aW ?_;refine M_ d2 ?_;refine aW ?_;refine J_ (Ug x.scalar _ s aA et) ?_;rintro _ _ ⟨rfl,rfl⟩;refine aW ?_;refine N_ (λh1=>?_) (λh1=>?_);rotate_left
 .refine aW ?_;simp only[h1,true_or,if_true];exact⟨trivial,ai⟩
 refine aW ?_;refine M_ c2 ?_;refine aW ?_;refine M_ d2 ?_;refine aW ?_;refine J_ (Ug x.over _ s _ et) ?_;rintro _ _ ⟨rfl,rfl⟩;refine aW ?_;refine N_ (λI=>?_) (λI=>?_);rotate_left
 .refine aW ?_;simp only[I,or_true,if_true];exact⟨trivial,ai⟩
 refine aW ?_;refine Z_ (im ao) rfl ?_;refine aW ?_;refine M_ d2 ?_;refine aW ?_;refine J_ (IB x _ s _ et) ?_;rintro _ aM ⟨rfl,ah⟩;rename_i axT;have bF:=ah.cell c1;have bC:=ah.cell z8;have he:=ai.trans ah;refine aW ?_;refine M_ bF ?_;have dd:¬(o.there x.scalar s=false\/o.there x.over s=false):=by simp[h1,I]
 refine aW ?_;refine I_ (λab=>?_) (λab=>?_)
 .refine aW ?_;have qP:o.bounds x s=(x.aV,x.U):=by simp[o.bounds,ab]
  rw[qP];refine J_ (ac5 x.aV x.U aM) ?_;rintro _ _ ⟨rfl,rfl⟩;refine aW ?_;refine N_ (λaC=>?_) (λaC=>?_);rotate_left
  .refine aW ?_;rw[if_neg dd,if_pos (.inl ⟨ab,aC⟩)];exact⟨rfl,he⟩
  refine aW ?_;refine M_ bC ?_;refine aW ?_;refine I_ (λa1=>?_) (λa1=>?_)
  .refine aW ?_;rw[if_neg dd,if_pos (.inr (.inl a1))];exact⟨rfl,he⟩
  refine aW ?_;refine M_ bC ?_;refine aW ?_;refine I_ (λbJ=>?_) (λbJ=>?_)
  .refine aW ?_;rw[if_neg dd,if_pos (.inr (.inr bJ))];exact⟨rfl,he⟩
  .refine aW ?_;rw[if_neg dd,if_neg (by rw[aC];simp;omega)];exact⟨rfl,he⟩
 .refine aW ?_;refine M_ bC ?_;refine aW ?_;refine I_ (λa1=>?_) (λa1=>?_)
  .refine aW ?_;rw[if_neg dd,if_pos (.inr (.inl a1))];exact⟨rfl,he⟩
  refine aW ?_;refine M_ bC ?_;refine aW ?_;refine I_ (λbJ=>?_) (λbJ=>?_)
  .refine aW ?_;rw[if_neg dd,if_pos (.inr (.inr bJ))];exact⟨rfl,he⟩
  .refine aW ?_;rw[if_neg dd,if_neg (by simp[ab];omega)];exact⟨rfl,he⟩
def afr(v v2:B_)(l:C_ o.Var)(s:C_ o.Scalar)(fV:Int)(w:A_)(aQ:gJ w)(aE:o.hZ w v l)(aj:o.il w v2 s) :
  Du F.I0 #[v,v2,.I fV] w λv w'=>v = .tuple #[.I (o.vars l s fV).1,.I (o.vars l s fV).2]/\Ext w w':=by
 obtain⟨aN,cap,rfl,hlen⟩:=aE.form;obtain⟨qi,Cj,rfl,Ks⟩:=aj.form;refine bl E.I0 ?_;refine aW ?_;refine O_ λw1 b ak ag al=>?_;refine aW ?_;refine O_ λaA bQ c7 ai ao=>?_;have he:=ag.trans ai;have pA:=bm.ext o.rv.ext he aE;have fl:=bm.ext o.kj.ext he aj;have d1:aA.cell? ⟨b,0,none⟩=some (.slice aN l.length cap):=Ck (ai.obj al) rfl;have d2:aA.cell? ⟨bQ,0,none⟩=some (.slice qi s.length Cj):=Ck ao rfl;refine aW ?_;refine M_ d1 ?_;refine aW ?_;refine J_ (SY l.length (max fV 0) Ad (o.nameAt (·.name) l) (o.qw l s) F.w F.x [_] [_,_] Ci Ci aA (aQ.ext he)
  (λi U=>by rw[sW _ _ _ Ad];obtain⟨a,rfl⟩:=aE.addr;exact(aE.at i Ad).ok)
  (λi w' U he=>aug i b _ l w' (bm.ext o.rv.ext he pA) (he.cell d1) Ad)
  (λi w' U he=>auh i b bQ _ _ l s w' (bm.ext o.rv.ext he pA) (bm.ext o.kj.ext he fl) (he.cell d1) (he.cell d2) Ad)) ?_
 rintro _ aM ⟨rfl,ah⟩;refine aW ?_;exact⟨rfl,he.trans ah⟩
def ah1(i:Nat)(b:Nat)(v:B_)(l:C_ o.dZ)(w:A_)(aE:o.nH w v l)(ak:w.cell? ⟨b,0,none⟩=some v)(U:i<l.length) :
  Du F.sq #[.I i,.pointer (some ⟨b,0,none⟩)] w λv w'=>v = .string (o.nameAt (·.name) l i)/\Ext w w':=by
 obtain⟨aN,cap,rfl,hlen⟩:=aE.form;refine bl E.sq ?_;refine aW ?_;refine M_ ak ?_;refine aW ?_;obtain⟨a,rfl⟩:=aE.addr;have an:=(aE.at i U).cells 0 _ rfl;refine K_ i rfl U ?_;refine aW ?_;refine M_ an ?_;refine aW ?_;rw[sW _ _ _ U];exact⟨rfl,Ext.refl w⟩
def ah2(i:Nat)(b bQ:Nat)(v v2:B_)(l:C_ o.dZ)(s:C_ o.Scalar)(w:A_)(aE:o.nH w v l)(aj:o.il w v2 s)(ak:w.cell? ⟨b,0,none⟩=some v)(c7:w.cell? ⟨bQ,0,none⟩=some v2)
  (U:i<l.length):Du F.a9 #[.I i,.pointer (some ⟨b,0,none⟩),.pointer (some ⟨bQ,0,none⟩)] w λv w'=>v = .I (o.p2 l s i)/\Ext w w':=by
 obtain⟨aN,cap,rfl,hlen⟩:=aE.form;obtain⟨qi,Cj,rfl,Ks⟩:=aj.form;refine bl E.a9 ?_;refine aW ?_;refine M_ ak ?_;refine aW ?_;obtain⟨a,rfl⟩:=aE.addr;have an:=(aE.at i U).cells;have aS:o.p2 l s i=if o.there l[i].scalar s=false then 8
  else if l[i].cap<1\/l[i].cap > 4\/(l[i].scalar=0/\o.narrow l[i].aV l[i].U=false) then 10 else 0:=by simp[o.p2,U]
 rw[aS];clear aS;generalize l[i]=x at an;refine K_ i rfl U ?_;refine aW ?_;refine Z_ an rfl ?_;refine aW ?_;refine O_ λw1 q au ag al=>?_;refine aW ?_;refine U_ al rfl rfl (by simp[o.dZ.enc,Value.oneCell']) λaA hw ao=>?_;have ai:Ext w aA:=hw.ext ag au;clear hw al ag w1;have c1:aA.cell? (Addr.add ⟨q,0,none⟩ 1)=some (.I x.scalar):=fM ao rfl;have c2:aA.cell? (Addr.add ⟨q,0,none⟩ 2)=some (.I x.cap):=fM ao rfl;have bu:aA.cell? (Addr.add ⟨q,0,none⟩ 3)=some (.I x.aV):=fM ao rfl;have bB:aA.cell? (Addr.add ⟨q,0,none⟩ 4)=some (.I x.U):=fM ao rfl;have d2:=ai.cell c7;have et:=bm.ext o.kj.ext ai aj;refine aW ?_;refine M_ c1 ?_;refine aW ?_;refine M_ d2 ?_;refine aW ?_;refine J_ (Ug x.scalar _ s aA et) ?_;rintro _ _ ⟨rfl,rfl⟩;refine aW ?_;refine N_ (λh1=>?_) (λh1=>?_);rotate_left
 .refine aW ?_;simp only[h1,if_true];exact⟨trivial,ai⟩
 have dd:¬(o.there x.scalar s=false):=by simp[h1]
 refine aW ?_;refine M_ c2 ?_;refine aW ?_;refine I_ (λI=>?_) (λI=>?_)
 .refine aW ?_;rw[if_neg dd,if_pos (.inl I)];exact⟨rfl,ai⟩
 refine aW ?_;refine M_ c2 ?_;refine aW ?_;refine I_ (λab=>?_) (λab=>?_)
 .refine aW ?_;rw[if_neg dd,if_pos (.inr (.inl ab))];exact⟨rfl,ai⟩
 refine aW ?_;refine M_ c1 ?_;refine aW ?_;refine I_ (λaC=>?_) (λaC=>?_)
 .refine aW ?_;refine M_ bu ?_;refine aW ?_;refine M_ bB ?_;refine aW ?_;refine J_ (ac5 x.aV x.U _) ?_;rintro _ _ ⟨rfl,rfl⟩;refine aW ?_;refine N_ (λa1=>?_) (λa1=>?_)
  .refine aW ?_;rw[if_neg dd,if_neg (by rw[a1];simp;omega)];exact⟨rfl,ai⟩
  .refine aW ?_;rw[if_neg dd,if_pos (.inr (.inr ⟨aC,a1⟩))];exact⟨rfl,ai⟩
 .refine aW ?_;rw[if_neg dd,if_neg (by simp[aC];omega)];exact⟨rfl,ai⟩
def ah4(v v2:B_)(l:C_ o.dZ)(s:C_ o.Scalar)(w:A_)(aQ:gJ w)(aE:o.nH w v l)(aj:o.il w v2 s) :
  Du F.I1 #[v,v2] w λv w'=>v = .tuple #[.I (o.ax l s).1,.I (o.ax l s).2]/\Ext w w':=by
 obtain⟨aN,cap,rfl,hlen⟩:=aE.form;obtain⟨qi,Cj,rfl,Ks⟩:=aj.form;refine bl E.I1 ?_;refine aW ?_;refine O_ λw1 b ak ag al=>?_;refine aW ?_;refine O_ λaA bQ c7 ai ao=>?_;have he:=ag.trans ai;have pA:=bm.ext o.ru.ext he aE;have fl:=bm.ext o.kj.ext he aj;have d1:aA.cell? ⟨b,0,none⟩=some (.slice aN l.length cap):=Ck (ai.obj al) rfl;have d2:aA.cell? ⟨bQ,0,none⟩=some (.slice qi s.length Cj):=Ck ao rfl;refine aW ?_;refine M_ d1 ?_;refine aW ?_;refine J_ (SY l.length 4 Ad (o.nameAt (·.name) l) (o.p2 l s) F.sq F.a9 [_] [_,_] Ci Ci aA (aQ.ext he)
  (λi U=>by rw[sW _ _ _ Ad];obtain⟨a,rfl⟩:=aE.addr;exact(aE.at i Ad).ok)
  (λi w' U he=>ah1 i b _ l w' (bm.ext o.ru.ext he pA) (he.cell d1) Ad)
  (λi w' U he=>ah2 i b bQ _ _ l s w' (bm.ext o.ru.ext he pA) (bm.ext o.kj.ext he fl) (he.cell d1) (he.cell d2) Ad)) ?_
 rintro _ aM ⟨rfl,ah⟩;refine aW ?_;exact⟨rfl,he.trans ah⟩
def DK(k:Int)(v:B_)(l:C_ o.Scalar)(w:A_)(aE:o.il w v l) :
  Du F.GV #[v,.I k] w λv w'=>v = .I (o.size k l)/\w'=w:=by
 obtain⟨aN,cap,rfl,hlen⟩:=aE.form;refine bl E.GV ?_;refine aW ?_;refine I_ (λh1=>?_) (λh1=>?_)
 .refine aW ?_;rw[M9 (.inl h1)];exact⟨rfl,trivial⟩
 refine aW ?_;refine I_ (λI=>?_) (λI=>?_)
 .refine aW ?_;rw[M9 (.inr I)];exact⟨rfl,trivial⟩
 obtain⟨a,rfl⟩:=aE.addr;have an:=(aE.at (k.toNat - 1) Ad).cells 1 _ rfl;have hk:(k - 1).toNat*2=(k.toNat - 1)*2:=Ad
 rw[aeP Ad Ad];rw[<-hk] at an;generalize l[k.toNat - 1].size=z at an
 (repeat' first
  | (refine I_ (λ_=>?_) (λ_=>?_)<;>try (exfalso;omega))
  | (refine N_ (λ_=>?_) (λ_=>?_))
  | (refine Q_ Ad ?_)
  | (refine M_ Cd ?_)
  | (refine _Y Ad ?_)
  | simp -dsimp only[dg,cH,Nat.reduceAdd,Nat.reduceEqDiff,reduceIte,reduceCtorEq,dm])
 .rw[if_neg Ad];exact⟨rfl,trivial⟩
 .rw[if_neg Ad];exact⟨rfl,trivial⟩
 .rw[if_pos Ad];exact⟨rfl,trivial⟩
def TC(x:o.Var)(v:B_)(l:C_ o.Scalar)(w:A_)(aE:o.il w v l) :
  Du F.Lt #[.agg x.enc.toArray,v] w λv w'=>v = .tuple #[.I (o.bounds x l).1,.I (o.bounds x l).2]/\Ext w w':=by
 obtain⟨aN,cap,rfl,hlen⟩:=aE.form;refine bl E.Lt ?_;refine aW ?_;refine O_ λw1 b ak ag al=>?_;have c1:w1.cell? (Addr.add ⟨b,0,none⟩ 1)=some (.I x.scalar):=fM al rfl;have bu:w1.cell? (Addr.add ⟨b,0,none⟩ 3)=some (.I x.aV):=fM al rfl;have bB:w1.cell? (Addr.add ⟨b,0,none⟩ 4)=some (.I x.U):=fM al rfl;refine aW ?_;refine M_ c1 ?_;refine aW ?_;refine I_ (λh1=>?_) (λh1=>?_)
 .refine aW ?_;refine M_ bu ?_;refine aW ?_;refine M_ bB ?_;refine aW ?_;intro aA ai;simp only[o.bounds,h1,if_true];exact⟨trivial,ag.trans ai⟩
 .refine aW ?_;refine M_ c1 ?_;refine aW ?_;refine J_ (DK x.scalar _ l w1 (bm.ext o.kj.ext ag aE)) ?_;rintro _ _ ⟨rfl,rfl⟩;refine aW ?_;simp only[o.bounds,h1,if_false];exact⟨trivial,ag⟩
def M1(x:o.Var)(v:B_)(l:C_ o.Scalar)(w:A_)(aE:o.il w v l) :
  Du F.Lu #[.agg x.enc.toArray,v] w λv w'=>v = .I (o.cells x l)/\Ext w w':=by
 obtain⟨aN,cap,rfl,hlen⟩:=aE.form;refine bl E.Lu ?_;refine aW ?_;refine O_ λw1 b ak ag al=>?_;have c2:w1.cell? (Addr.add ⟨b,0,none⟩ 2)=some (.I x.over):=fM al rfl;refine aW ?_;refine M_ c2 ?_;refine aW ?_;refine I_ (λh1=>?_) (λh1=>?_)
 .refine aW ?_;simp only[o.cells,h1,if_true];exact⟨trivial,ag⟩
 .refine aW ?_;refine M_ c2 ?_;refine aW ?_;refine J_ (DK x.over _ l w1 (bm.ext o.kj.ext ag aE)) ?_;rintro _ _ ⟨rfl,rfl⟩;refine aW ?_;simp only[o.cells,h1,if_false];exact⟨trivial,ag⟩
def aef(n:Int)(w:A_):Du F.Dy #[.int .u8 n] w λv w'=>v = .bool (o.letter n)/\w'=w:=by
 refine bl E.Dy ?_
 (repeat' first
  | (refine I_ (λ_=>?_) (λ_=>?_)<;>try (exfalso;omega))
  | (refine N_ (λ_=>?_) (λ_=>?_))
  | (refine Q_ Ad ?_)
  | (refine M_ Cd ?_)
  | (refine _Y Ad ?_)
  | simp -dsimp only[dg,cH,Nat.reduceAdd,Nat.reduceEqDiff,reduceIte,reduceCtorEq,dm])
 all_goals (refine⟨?_,by first | rfl | trivial⟩;congr 1;rw[AG4];simp[o.letter];omega)
def TA(n:Int)(w:A_):Du F.Bf #[.int .u8 n] w λv w'=>v = .bool (o.digit n)/\w'=w:=by
 refine bl E.Bf ?_
 (repeat' first
  | (refine I_ (λ_=>?_) (λ_=>?_)<;>try (exfalso;omega))
  | (refine N_ (λ_=>?_) (λ_=>?_))
  | (refine Q_ Ad ?_)
  | (refine M_ Cd ?_)
  | (refine _Y Ad ?_)
  | simp -dsimp only[dg,cH,Nat.reduceAdd,Nat.reduceEqDiff,reduceIte,reduceCtorEq,dm])
 all_goals (refine⟨?_,by first | rfl | trivial⟩;congr 1;rw[AG4];simp[o.digit];omega)
def xN:C_ ByteArray:=[⟨#[58,61]⟩,⟨#[61,61]⟩,⟨#[33,61]⟩,⟨#[60,61]⟩,⟨#[45,62]⟩,⟨#[38,38]⟩,⟨#[124,124]⟩,⟨#[61,62]⟩,⟨#[40]⟩,⟨#[41]⟩,⟨#[91]⟩,⟨#[93]⟩,⟨#[123]⟩,⟨#[125]⟩,⟨#[59]⟩,⟨#[44]⟩,⟨#[58]⟩,⟨#[46]⟩,⟨#[60]⟩,⟨#[43]⟩,⟨#[45]⟩,⟨#[42]⟩,⟨#[33]⟩,⟨#[63]⟩,⟨#[64]⟩]
def as5(w:A_):Du F.Le #[] w λv w'=>(∃b,v = .slice (some ⟨b,0,none⟩) 25 25/\fc w' ⟨b,0,none⟩ (xN.map Value.string))/\Ext w w':=by
 refine bl E.Le ?_;refine aW ?_;refine _D (cs:=xN.map Value.string) (by simp[List.range,List.range.loop,gC,lay,dc,oO,bD,Value.cells,xN]) λw1 bx cN ag al=>?_;refine aW ?_;exact⟨⟨bx,rfl,im al⟩,ag⟩
def agY(s:ByteArray)(w:A_)(h:0<s.size)(aj:s.size<=16) :
  Du F.Ld #[.string s,.I 0] w λv w'=>(∃n k:Int,v = .tuple #[.I n,.I k]/\if o.letter (o.tt s 0:Nat)=true then n=o.run o.part s/\k=1 else k≠1)/\Ext w w':=by
 refine bl E.Ld ?_;refine aW ?_;refine _Z (s.get! 0) By (o.get?_eq s 0 h) ?_;refine aW ?_;refine J_ (aef _ w) ?_;rintro _ w ⟨rfl,rfl⟩;refine aW ?_;refine N_ (λh1=>?_) (λh1=>?_)
 .have rK:o.letter (o.tt s 0:Nat)=true:=h1;refine aW ?_;refine _A (λS w' => ∃i:Nat,i<=s.size/\S 6 = .I i/\(∀j (az:j<s.size),j<i->o.part s[j].toNat=true)/\w'=w)
   (λS _=>(s.size - intOf (S 6)).toNat) ⟨0,Ad,by refine aW ?_;rfl,λ_ _ h=>absurd h (HI _),rfl⟩ ?_
  rintro S w b5 ⟨i,U,bJ,dv,rfl⟩;have ad:=b5 0 rfl;have h1:=b5 1 rfl;simp only[bD,Nat.reduceAdd,Nat.reduceEqDiff,reduceIte,km,nW] at ad h1;clear b5;refine cd (i_ ad (i_ h1 bJ)) ?_;refine I_ (λI=>?_) (λI=>?_)
  .have cw:i<s.size:=Ad
   refine cd (i_ ad (i_ h1 bJ)) ?_;refine _Z (s.get! i) Ad (o.get?_eq s i cw) ?_;rw[o.get_eq s i cw];refine cd (i_ ad (i_ h1 bJ)) ?_;refine J_ (aef _ _) ?_;rintro _ w ⟨rfl,rfl⟩;refine cd (i_ ad (i_ h1 bJ)) ?_;refine N_ (λab=>?_) (λab=>?_)
   .refine cd (i_ ad (i_ h1 bJ)) ?_;refine Q_ Ad ?_;refine cd (i_ ad (i_ h1 bJ)) ?_;refine⟨⟨i+1,Ad,rfl,λj az ho=>?_,trivial⟩,by simp[intOf];omega⟩;by_cases nw:j<i
    .exact dv j az nw
    .have:j=i:=Ad
     subst this;simp[o.part,ab]
   refine cd (i_ ad (i_ h1 bJ)) ?_;refine _Z (s.get! i) Ad (o.get?_eq s i cw) ?_;rw[o.get_eq s i cw];refine cd (i_ ad (i_ h1 bJ)) ?_;refine J_ (TA _ _) ?_;rintro _ w ⟨rfl,rfl⟩;refine cd (i_ ad (i_ h1 bJ)) ?_;refine N_ (λaC=>?_) (λaC=>?_)
   .refine cd (i_ ad (i_ h1 bJ)) ?_;refine Q_ Ad ?_;refine cd (i_ ad (i_ h1 bJ)) ?_;refine⟨⟨i+1,Ad,rfl,λj az ho=>?_,trivial⟩,by simp[intOf];omega⟩;by_cases nw:j<i
    .exact dv j az nw
    .have:j=i:=Ad
     subst this;simp[o.part,aC]
   refine cd (i_ ad (i_ h1 bJ)) ?_;refine _Z (s.get! i) Ad (o.get?_eq s i cw) ?_;rw[o.get_eq s i cw];refine cd (i_ ad (i_ h1 bJ)) ?_;refine I_ (λa1=>?_) (λa1=>?_)
   .refine cd (i_ ad (i_ h1 bJ)) ?_;refine Q_ Ad ?_;refine cd (i_ ad (i_ h1 bJ)) ?_;refine⟨⟨i+1,Ad,rfl,λj az ho=>?_,trivial⟩,by simp[intOf];omega⟩;by_cases nw:j<i
    .exact dv j az nw
    .have:j=i:=Ad
     subst this;simp[o.part];omega
   .refine cd (i_ ad (i_ h1 bJ)) ?_;refine Q_ Ad ?_;refine cd (i_ ad (i_ h1 bJ)) ?_;refine⟨⟨_,_,rfl,?_⟩,Ext.refl _⟩;rw[if_pos rK];rw[o.aez o.part s i cw (λj az=>dv j Ad az) (by simp only[o.part,ab,aC,Bool.false_or,decide_eq_false_iff_not];omega)];exact⟨Ad,rfl⟩
  .refine cd (i_ ad (i_ h1 bJ)) ?_;refine Q_ Ad ?_;refine cd (i_ ad (i_ h1 bJ)) ?_;refine⟨⟨_,_,rfl,?_⟩,Ext.refl _⟩;rw[if_pos rK];rw[o.aer o.part s (λj az=>dv j az Ad)];exact⟨Ad,rfl⟩
 have rK:o.letter (o.tt s 0:Nat)=false:=h1;have eG:¬o.letter (o.tt s 0:Nat)=true:=by simp[rK]
 refine aW ?_;refine _Z (s.get! 0) By (o.get?_eq s 0 h) ?_;refine aW ?_;refine J_ (TA _ w) ?_;rintro _ w ⟨rfl,rfl⟩;refine aW ?_;refine N_ (λI=>?_) (λI=>?_)
 .refine aW ?_;refine _A (λS w' => ∃i:Nat,i<=s.size/\S 6 = .I i/\w'=w)
   (λS _=>(s.size - intOf (S 6)).toNat) ⟨0,Ad,by refine aW ?_;rfl,rfl⟩ ?_
  rintro S w b5 ⟨i,U,bJ,rfl⟩;have ad:=b5 0 rfl;have h1:=b5 1 rfl;simp only[bD,Nat.reduceAdd,Nat.reduceEqDiff,reduceIte,km,nW] at ad h1;clear b5;refine cd (i_ ad (i_ h1 bJ)) ?_;refine I_ (λI=>?_) (λI=>?_)
  .have cw:i<s.size:=Ad
   refine cd (i_ ad (i_ h1 bJ)) ?_;refine _Z (s.get! i) Ad (o.get?_eq s i cw) ?_;refine cd (i_ ad (i_ h1 bJ)) ?_;refine J_ (TA _ _) ?_;rintro _ w ⟨rfl,rfl⟩;refine cd (i_ ad (i_ h1 bJ)) ?_;refine N_ (λaC=>?_) (λaC=>?_)
   .refine cd (i_ ad (i_ h1 bJ)) ?_;refine Q_ Ad ?_;refine cd (i_ ad (i_ h1 bJ)) ?_;exact⟨⟨i+1,Ad,rfl,trivial⟩,by simp[intOf];omega⟩
   .refine cd (i_ ad (i_ h1 bJ)) ?_;refine Q_ Ad ?_;refine cd (i_ ad (i_ h1 bJ)) ?_;exact⟨⟨_,_,rfl,by rw[if_neg eG];decide⟩,Ext.refl _⟩
  .refine cd (i_ ad (i_ h1 bJ)) ?_;refine Q_ Ad ?_;refine cd (i_ ad (i_ h1 bJ)) ?_;exact⟨⟨_,_,rfl,by rw[if_neg eG];decide⟩,Ext.refl _⟩
 refine aW ?_;refine J_ (as5 w) ?_;rintro _ w1 ⟨⟨b,rfl,an⟩,he⟩;refine aW ?_;refine _A (λS w' => ∃i:Nat,i<=25/\S 8 = .I i/\Ext w1 w')
  (λS _=>(25 - intOf (S 8)).toNat) ⟨0,Ad,by refine aW ?_;rfl,Ext.refl _⟩ ?_
 rintro S w' b5 ⟨i,U,dp,ai⟩;have ad:=b5 0 rfl;have h1:=b5 1 rfl;have cr:=b5 7 rfl;simp only[bD,Nat.reduceAdd,Nat.reduceEqDiff,reduceIte,km,nW] at ad h1 cr;clear b5;refine cd (i_ ad (i_ h1 (i_ cr dp))) ?_;refine I_ (λI=>?_) (λI=>?_)
 .have cw:i<xN.length:=by simp[xN];omega
  have gM:w'.cell? (Addr.add ⟨b,0,none⟩ (i*1))=some (.string xN[i]):=by
   rw[AG2];exact an.ext ai i _ (by rw[List.getElem?_map,List.getElem?_eq_getElem cw];rfl)
  have bA:xN[i].size<=2:=by
   have:∀x∈xN,x.size<=2:=By
   exact this _ (ED _)
  generalize xN[i]=x at gM bA;refine cd (i_ ad (i_ h1 (i_ cr dp))) ?_;refine Q_ Ad ?_;refine cd (i_ ad (i_ h1 (i_ cr dp))) ?_;refine K_ i rfl Ad ?_;refine cd (i_ ad (i_ h1 (i_ cr dp))) ?_;refine M_ gM ?_;refine cd (i_ ad (i_ h1 (i_ cr dp))) ?_;refine I_ (λab=>?_) (λab=>?_)
  .refine cd (i_ ad (i_ h1 (i_ cr dp))) ?_;refine K_ i rfl Ad ?_;refine cd (i_ ad (i_ h1 (i_ cr dp))) ?_;refine M_ gM ?_;refine cd (i_ ad (i_ h1 (i_ cr dp))) ?_;refine Q_ Ad ?_;refine cd (i_ ad (i_ h1 (i_ cr dp))) ?_;refine AA9 0 x.size (by simp[eJ,dc,bD,h1]) (by simp[eJ,dc,bD,h1]) Ad ?_;refine cd (i_ ad (i_ h1 (i_ cr dp))) ?_;refine K_ i rfl Ad ?_;refine cd (i_ ad (i_ h1 (i_ cr dp))) ?_;refine M_ gM ?_;refine cd (i_ ad (i_ h1 (i_ cr dp))) ?_;intro aA ah;refine I_ (λaC=>?_) (λaC=>?_)
   .refine cd (i_ ad (i_ h1 (i_ cr dp))) ?_;refine K_ i rfl Ad ?_;refine cd (i_ ad (i_ h1 (i_ cr dp))) ?_;refine M_ (ah.cell gM) ?_;refine cd (i_ ad (i_ h1 (i_ cr dp))) ?_;exact⟨⟨_,_,rfl,by rw[if_neg eG];decide⟩,he.trans (ai.trans ah)⟩
   .refine cd (i_ ad (i_ h1 (i_ cr dp))) ?_;refine Q_ Ad ?_;refine cd (i_ ad (i_ h1 (i_ cr dp))) ?_;exact⟨⟨i+1,Ad,rfl,ai.trans ah⟩,by simp[intOf];omega⟩
  .refine cd (i_ ad (i_ h1 (i_ cr dp))) ?_;intro aA ah;refine Q_ Ad ?_;refine cd (i_ ad (i_ h1 (i_ cr dp))) ?_;exact⟨⟨i+1,Ad,rfl,ai.trans ah⟩,by simp[intOf];omega⟩
 .refine cd (i_ ad (i_ h1 (i_ cr dp))) ?_;exact⟨⟨_,_,rfl,by rw[if_neg eG];decide⟩,he.trans ai⟩
def DO(s:ByteArray)(w:A_)(aj:s.size<=9223372036854775807):Du F.Lc #[.string s] w λv w'=>v = .bool (o.isName s)/\Ext w w':=by
 refine bl E.Lc ?_;refine aW ?_;refine I_ (λad=>?_) (λad=>?_)
 .refine aW ?_;refine⟨?_,Ext.refl w⟩;subst ad;rfl
 have bA:s.size≠0:=λh=>ad (by
  cases s with | mk d =>
  have:d=#[]:=by simpa[ByteArray.size] using h
  rw[this])
 refine aW ?_;refine I_ (λh1=>?_) (λh1=>?_)
 .refine aW ?_;refine⟨?_,Ext.refl w⟩
  have:¬s.size<=16:=Ad
  simp[o.isName,this]
 have rK:s.size<=16:=Ad
 refine aW ?_;refine I_ (λI=>?_) (λI=>?_)
 .refine aW ?_;exact⟨by subst I;exact congrArg Value.bool (by decide +kernel),Ext.refl w⟩
 refine aW ?_;refine I_ (λab=>?_) (λab=>?_)
 .refine aW ?_;exact⟨by subst ab;exact congrArg Value.bool (by decide +kernel),Ext.refl w⟩
 refine aW ?_;refine I_ (λaC=>?_) (λaC=>?_)
 .refine aW ?_;exact⟨by subst aC;exact congrArg Value.bool (by decide +kernel),Ext.refl w⟩
 refine aW ?_;refine I_ (λa1=>?_) (λa1=>?_)
 .refine aW ?_;exact⟨by subst a1;exact congrArg Value.bool (by decide +kernel),Ext.refl w⟩
 have hm:s∉o.r2:=by simp[o.r2,I,ab,aC,a1]
 refine aW ?_;refine J_ (agY s w Ad rK) ?_;rintro _ w1 ⟨⟨n,k,rfl,mR⟩,he⟩;refine aW ?_;refine I_ (λbJ=>?_) (λbJ=>?_)
 .refine aW ?_;refine⟨?_,he⟩;have aE:o.letter (o.tt s 0:Nat)=true:=by
   by_cases af:o.letter (o.tt s 0:Nat)=true
   .exact af
   .rw[if_neg af] at mR;exact absurd bJ mR
  rw[if_pos aE] at mR;congr 1;simp[o.isName,aE,bA,rK,hm,mR.1];omega
 .refine aW ?_;refine⟨?_,he⟩;have aE:o.letter (o.tt s 0:Nat)=false:=by
   by_cases af:o.letter (o.tt s 0:Nat)=true
   .rw[if_pos af] at mR;exact absurd mR.2 bJ
   .simpa using af
  simp[o.isName,aE]
def Ak{fV:Int}{gl:Nat->ByteArray}{mo:Nat->Int}{i:Nat}(h:fV<=i):o.err fV gl mo i=11:=by rw[o.err,if_pos h]
def Cw{fV:Int}{gl:Nat->ByteArray}{mo:Nat->Int}{i:Nat}(h:¬fV<=i)(I:o.isName (gl i)=false):o.err fV gl mo i=6:=by rw[o.err,if_neg h,if_pos I]
def PJ{fV:Int}{gl:Nat->ByteArray}{mo:Nat->Int}{i j:Nat}(h:¬fV<=i)(I:o.isName (gl i)=true)(az:j<i)(he:gl j=gl i):o.err fV gl mo i=7:=by
 rw[o.err,if_neg h,if_neg (by simp[I]),if_pos ⟨j,az,he⟩]
def PI{fV:Int}{gl:Nat->ByteArray}{mo:Nat->Int}{i:Nat}(h:¬fV<=i)(I:o.isName (gl i)=true)(az:∀j,j<i->gl j≠gl i):o.err fV gl mo i=mo i:=by
 rw[o.err,if_neg h,if_neg (by simp[I]),if_neg (λ⟨j,h1,I⟩=>az j h1 I)]
def acT{fV:Int}{gl:Nat->ByteArray}{mo:Nat->Int}{i:Nat}(hm:0<=fV)(h:∀j,j<i->o.err fV gl mo j=0):(i:Int)<=fV:=by
 by_cases af:(i:Int)<=fV
 .exact af
 .have:=h fV.toNat Ad
  rw[Ak Ad] at this;cases this
def ase(v:B_)(l:C_ o.Scalar)(w:A_)(aE:o.il w v l) :
  Du F.Lw #[v] w λv w'=>v = .tuple #[.I (o.scalars l).1,.I (o.scalars l).2]/\Ext w w':=by
 obtain⟨aN,cap,rfl,hlen⟩:=aE.form;refine bl E.Lw ?_;simp -dsimp only[dg,cH,Nat.reduceAdd,Nat.reduceEqDiff,reduceIte,reduceCtorEq,dm];refine _A (λS w' => ∃i:Nat,i<=l.length/\S 4 = .I i/\(∀j,j<i->o.err 2 (o.nameAt (·.name) l) (o.vH l) j=0)/\Ext w w')
  (λS _=>(l.length - intOf (S 4)).toNat) ⟨0,Ad,by simp -dsimp only[dg,cH,Nat.reduceAdd,Nat.reduceEqDiff,reduceIte,reduceCtorEq,dm];rfl,λ_ h=>absurd h (HI _),Ext.refl _⟩ ?_
 rintro S w' b5 ⟨i,U,aC,dv,he⟩;have ad:=b5 0 rfl;simp only[bD,Nat.reduceAdd,Nat.reduceEqDiff,reduceIte,km,nW] at ad;clear b5;have lO:=acT Ad dv;refine cd (i_ ad aC) ?_;apply I_<;>intro g1;rotate_left
 .refine cd (i_ ad aC) ?_;rw[o.scalars,o.p3 (λj az=>dv j Ad)];exact⟨rfl,he⟩
 have cw:i<l.length:=Ad
 obtain⟨a,rfl⟩:=aE.addr;have h6:=bm.ext o.kj.ext he aE;have tG:=(h6.at i cw).cells 0 _ rfl;have al:=(h6.at i cw).cells 1 _ rfl;have c8:o.jP l[i].name:=(h6.at i cw).ok;have gj:o.nameAt (λx:o.Scalar=>x.name) l i=l[i].name:=sW _ _ _ cw;refine cd (i_ ad aC) ?_;apply I_<;>intro g2
 .refine cd (i_ ad aC) ?_;rw[o.scalars,o.jG cw dv (by rw[Ak Ad];decide),Ak Ad];exact⟨rfl,he⟩
 have hm:¬(2:Int)<=(i:Int):=Ad
 refine cd (i_ ad aC) ?_;refine K_ i rfl cw ?_;refine cd (i_ ad aC) ?_;refine M_ tG ?_;refine cd (i_ ad aC) ?_;refine J_ (DO _ _ c8) ?_;rintro _ aA ⟨rfl,ai⟩;refine cd (i_ ad aC) ?_;refine N_ (λg3=>?_) (λg3=>?_);rotate_left
 .refine cd (i_ ad aC) ?_;rw[<-gj] at g3;rw[o.scalars,o.jG cw dv (by rw[Cw hm g3];decide),Cw hm g3];exact⟨rfl,he.trans ai⟩
 have rJ:=g3;rw[<-gj] at rJ;replace ai:=he.trans ai;clear he h6;refine cd (i_ ad aC) ?_;refine _A (λaZ w' => ∃k:Nat,k<=i/\aZ 5 = .I k/\(∀j,j<k->o.nameAt (λx:o.Scalar=>x.name) l j≠o.nameAt (λx:o.Scalar=>x.name) l i)/\Ext w w')
  (λS _=>(i - intOf (S 5)).toNat) ⟨0,Ad,by simp -dsimp only[dg,cH,Nat.reduceAdd,Nat.reduceEqDiff,reduceIte,reduceCtorEq,dm];rfl,λ_ h=>absurd h (HI _),ai⟩ ?_
 rintro jW aM k2 ⟨k,hk,a1,ct,ah⟩;have b0:=ad;have b1:=aC;have ad:=k2 0 rfl;have aC:=k2 4 rfl;simp only[bD,Nat.reduceAdd,Nat.reduceEqDiff,reduceIte,km,nW] at ad aC;clear k2;rw[b0] at ad;rw[b1] at aC;have h6:=bm.ext o.kj.ext ah aE;have tG:=(h6.at i cw).cells 0 _ rfl;have al:=(h6.at i cw).cells 1 _ rfl;refine cd (i_ ad (i_ aC a1)) ?_;apply I_<;>intro g4
 .have a7:k<l.length:=Ad
  have me:=(h6.at k a7).cells 0 _ rfl;have mR:o.nameAt (λx:o.Scalar=>x.name) l k=l[k].name:=sW _ _ _ a7;refine cd (i_ ad (i_ aC a1)) ?_;refine K_ k rfl a7 ?_;refine cd (i_ ad (i_ aC a1)) ?_;refine M_ me ?_;refine cd (i_ ad (i_ aC a1)) ?_;refine K_ i rfl cw ?_;refine cd (i_ ad (i_ aC a1)) ?_;refine M_ tG ?_;refine cd (i_ ad (i_ aC a1)) ?_;intro aU aq;apply I_<;>intro g5
  .refine cd (i_ ad (i_ aC a1)) ?_;have aB:=PJ (mo:=o.vH l) hm rJ (show k<i by omega) (by rw[mR,gj];exact g5);rw[o.scalars,o.jG cw dv (by rw[aB];decide),aB];exact⟨rfl,ah.trans aq⟩
  .refine cd (i_ ad (i_ aC a1)) ?_;refine Q_ Ad ?_;refine cd (i_ ad (i_ aC a1)) ?_;refine⟨⟨k+1,Ad,rfl,λj az=>?_,ah.trans aq⟩,by simp[intOf];omega⟩;by_cases ha:j<k
   .exact ct j ha
   .have:j=k:=Ad
    subst this;rw[mR,gj];exact g5
 have hB:=PI (mo:=o.vH l) hm rJ (λj az=>ct j Ad);have tS:o.vH l i=if 1<=l[i].size/\l[i].size<=4 then 0 else 10:=by simp[o.vH,cw]
 rw[tS] at hB;generalize l[i].size=z at al hB;refine cd (i_ ad (i_ aC a1)) ?_;refine K_ i rfl cw ?_;refine cd (i_ ad (i_ aC a1)) ?_;refine M_ al ?_;refine cd (i_ ad (i_ aC a1)) ?_;apply I_<;>intro g6
 .refine cd (i_ ad (i_ aC a1)) ?_;rw[if_neg Ad] at hB;rw[o.scalars,o.jG cw dv (by rw[hB];decide),hB];exact⟨rfl,ah⟩
 refine cd (i_ ad (i_ aC a1)) ?_;refine K_ i rfl cw ?_;refine cd (i_ ad (i_ aC a1)) ?_;refine M_ al ?_;refine cd (i_ ad (i_ aC a1)) ?_;apply I_<;>intro g7
 .refine cd (i_ ad (i_ aC a1)) ?_;rw[if_neg Ad] at hB;rw[o.scalars,o.jG cw dv (by rw[hB];decide),hB];exact⟨rfl,ah⟩
 .refine cd (i_ ad (i_ aC a1)) ?_;rw[if_pos Ad] at hB;refine Q_ Ad ?_;refine cd (i_ ad (i_ aC a1)) ?_;refine⟨⟨i+1,Ad,rfl,λj az=>?_,ah⟩,by simp[intOf,b1];omega⟩;by_cases ho:j<i
  .exact dv j ho
  .have:j=i:=Ad
   subst this;exact hB
def aeY(aV U:Int)(w:A_):Du F.GW #[.I aV,.I U] w λv w'=>v = .bool (o.narrow aV U)/\w'=w:=by
 refine bl E.GW ?_
 (repeat' first
  | (refine I_ (λ_=>?_) (λ_=>?_)<;>try (exfalso;omega))
  | (refine N_ (λ_=>?_) (λ_=>?_))
  | (refine Q_ Ad ?_)
  | (refine M_ Cd ?_)
  | (refine _Y Ad ?_)
  | simp -dsimp only[dg,cH,Nat.reduceAdd,Nat.reduceEqDiff,reduceIte,reduceCtorEq,dm])
 all_goals (refine⟨?_,by first | rfl | trivial⟩;congr 1;rw[AG4];simp[o.narrow];omega)
def Nx(v:o.Var)(s:C_ o.Scalar):Int :=
 if (v.scalar≠0/\o.size v.scalar s=0)\/(v.over≠0/\o.size v.over s=0) then 8
 else if v.scalar=0/\(o.narrow v.aV v.U=false\/v.init<v.aV\/v.init > v.U) then 10
 else if v.scalar≠0/\(v.init<0\/v.init > o.size v.scalar s) then 10 else 0
def aue(l:C_ o.Var)(s:C_ o.Scalar)(i:Nat)(h:i<l.length):o.qw l s i=Nx l[i] s:=by
 rw[o.qw,List.getElem?_eq_getElem h];simp only[Nx,o.there,o.bounds,decide_eq_false_iff_not];by_cases ad:l[i].scalar=0
 .simp only[ad,if_true];by_cases h1:l[i].over=0
  .simp[h1]
  .simp[h1]
 .simp only[ad,if_false];by_cases h1:l[i].over=0
  .simp[ad,h1]
  .simp[ad,h1]
def asg(x:o.Var)(v:B_)(l:C_ o.Scalar)(w:A_)(aE:o.il w v l) :
  Du F.Ly #[.agg x.enc.toArray,v] w λv w'=>v = .I (Nx x l)/\Ext w w':=by
 obtain⟨aN,cap,rfl,hlen⟩:=aE.form;refine bl E.Ly ?_;simp -dsimp only[dg,cH,Nat.reduceAdd,Nat.reduceEqDiff,reduceIte,reduceCtorEq,dm];refine O_ λw1 b ak ag al=>?_;have pA:=bm.ext o.kj.ext ag aE;have c1:w1.cell? (Addr.add ⟨b,0,none⟩ 1)=some (.I x.scalar):=fM al rfl;have c2:w1.cell? (Addr.add ⟨b,0,none⟩ 2)=some (.I x.over):=fM al rfl;have bu:w1.cell? (Addr.add ⟨b,0,none⟩ 3)=some (.I x.aV):=fM al rfl;have bB:w1.cell? (Addr.add ⟨b,0,none⟩ 4)=some (.I x.U):=fM al rfl;have z8:w1.cell? (Addr.add ⟨b,0,none⟩ 5)=some (.I x.init):=fM al rfl;have au:∀k w',Ext w1 w'->Du F.GV #[.slice aN l.length cap,.I k] w' λu bM=>u = .I (o.size k l)/\Ext w' bM:=λk w' he =>
  (DK k _ l w' (bm.ext o.kj.ext he pA)).mono λv bM h=>⟨h.1,h.2 ▸ Ext.refl _⟩
 (repeat' first
  | (refine I_ (λ_=>?_) (λ_=>?_)<;>try (exfalso;omega))
  | (refine N_ (λ_=>?_) (λ_=>?_))
  | (refine M_ Cd ?_)
  | (refine J_ (DK _ _ l _ pA) ?_;rintro _ w1 ⟨rfl,rfl⟩)
  | (refine J_ (aeY _ _ _) ?_;rintro _ w1 ⟨rfl,rfl⟩)
  | (refine P_ _ (au _) ?_)
  | simp -dsimp only[dg,cH,Nat.reduceAdd,Nat.reduceEqDiff,reduceIte,reduceCtorEq,dm]
  | (intro aA ai;replace ai:=ag.trans ai))
 all_goals (refine⟨?_,Cd⟩;congr 1;unfold Nx;simp only[o.narrow,decide_eq_false_iff_not])
 all_goals (repeat' split)
 all_goals first | rfl | (exfalso;omega)
def ad5(v v2:B_)(l:C_ o.Var)(s:C_ o.Scalar)(fV:Int)(w:A_)(aE:o.hZ w v l)(aj:o.il w v2 s) :
  Du F.Lx #[v,v2,.I fV] w λv w'=>v = .tuple #[.I (o.vars l s fV).1,.I (o.vars l s fV).2]/\Ext w w':=by
 obtain⟨aN,cap,rfl,hlen⟩:=aE.form;refine bl E.Lx ?_;simp -dsimp only[dg,cH,Nat.reduceAdd,Nat.reduceEqDiff,reduceIte,reduceCtorEq,dm];refine _A (λS w' => ∃i:Nat,i<=l.length/\S 8 = .I i/\(∀j,j<i->o.err (max fV 0) (o.nameAt (·.name) l) (o.qw l s) j=0)/\Ext w w')
  (λS _=>(l.length - intOf (S 8)).toNat) ⟨0,Ad,by simp -dsimp only[dg,cH,Nat.reduceAdd,Nat.reduceEqDiff,reduceIte,reduceCtorEq,dm];rfl,λ_ h=>absurd h (HI _),Ext.refl _⟩ ?_
 rintro S w' b5 ⟨i,U,dp,dv,he⟩;have ad:=b5 0 rfl;have h1:=b5 1 rfl;have I:=b5 2 rfl;simp only[bD,Nat.reduceAdd,Nat.reduceEqDiff,reduceIte,km,nW] at ad h1 I;clear b5;refine cd (i_ ad (i_ h1 (i_ I dp))) ?_;apply I_<;>intro g1;rotate_left
 .refine cd (i_ ad (i_ h1 (i_ I dp))) ?_;rw[o.vars,o.p3 (λj az=>dv j Ad)];exact⟨rfl,he⟩
 have cw:i<l.length:=Ad
 obtain⟨a,rfl⟩:=aE.addr;have h6:=bm.ext o.rv.ext he aE;have tG:=(h6.at i cw).cells 0 _ rfl;have c8:o.jP l[i].name:=(h6.at i cw).ok;have gj:o.nameAt (λx:o.Var=>x.name) l i=l[i].name:=sW _ _ _ cw;refine cd (i_ ad (i_ h1 (i_ I dp))) ?_;apply I_<;>intro g2
 .refine cd (i_ ad (i_ h1 (i_ I dp))) ?_;rw[o.vars,o.jG cw dv (by rw[Ak Ad];decide),Ak Ad];exact⟨rfl,he⟩
 have hm:¬(max fV 0:Int)<=(i:Int):=Ad
 refine cd (i_ ad (i_ h1 (i_ I dp))) ?_;refine K_ i rfl cw ?_;refine cd (i_ ad (i_ h1 (i_ I dp))) ?_;refine M_ tG ?_;refine cd (i_ ad (i_ h1 (i_ I dp))) ?_;refine J_ (DO _ _ c8) ?_;rintro _ aA ⟨rfl,ai⟩;refine cd (i_ ad (i_ h1 (i_ I dp))) ?_;refine N_ (λg3=>?_) (λg3=>?_);rotate_left
 .refine cd (i_ ad (i_ h1 (i_ I dp))) ?_;rw[<-gj] at g3;rw[o.vars,o.jG cw dv (by rw[Cw hm g3];decide),Cw hm g3];exact⟨rfl,he.trans ai⟩
 have rJ:=g3;rw[<-gj] at rJ;replace ai:=he.trans ai;clear he h6;refine cd (i_ ad (i_ h1 (i_ I dp))) ?_;refine _A (λaZ w' => ∃k:Nat,k<=i/\aZ 9 = .I k/\(∀j,j<k->o.nameAt (λx:o.Var=>x.name) l j≠o.nameAt (λx:o.Var=>x.name) l i)/\Ext w w')
  (λS _=>(i - intOf (S 9)).toNat) ⟨0,Ad,by simp -dsimp only[dg,cH,Nat.reduceAdd,Nat.reduceEqDiff,reduceIte,reduceCtorEq,dm];rfl,λ_ h=>absurd h (HI _),ai⟩ ?_
 rintro jW aM k2 ⟨k,hk,ir,ct,ah⟩;have b0:=ad;have bO:=h1;have bT:=I;have adk:=dp;have ad:=k2 0 rfl;have h1:=k2 1 rfl;have I:=k2 2 rfl;have dp:=k2 8 rfl;simp only[bD,Nat.reduceAdd,Nat.reduceEqDiff,reduceIte,km,nW] at ad h1 I dp;clear k2;rw[b0] at ad;rw[bO] at h1;rw[bT] at I;rw[adk] at dp;have h6:=bm.ext o.rv.ext ah aE;have tG:=(h6.at i cw).cells 0 _ rfl;refine cd (i_ ad (i_ h1 (i_ I (i_ dp ir)))) ?_;apply I_<;>intro g4
 .have a7:k<l.length:=Ad
  have me:=(h6.at k a7).cells 0 _ rfl;have mR:o.nameAt (λx:o.Var=>x.name) l k=l[k].name:=sW _ _ _ a7;refine cd (i_ ad (i_ h1 (i_ I (i_ dp ir)))) ?_;refine K_ k rfl a7 ?_;refine cd (i_ ad (i_ h1 (i_ I (i_ dp ir)))) ?_;refine M_ me ?_;refine cd (i_ ad (i_ h1 (i_ I (i_ dp ir)))) ?_;refine K_ i rfl cw ?_;refine cd (i_ ad (i_ h1 (i_ I (i_ dp ir)))) ?_;refine M_ tG ?_;refine cd (i_ ad (i_ h1 (i_ I (i_ dp ir)))) ?_;intro aU aq;apply I_<;>intro g5
  .refine cd (i_ ad (i_ h1 (i_ I (i_ dp ir)))) ?_;have aB:=PJ (mo:=o.qw l s) hm rJ (show k<i by omega) (by rw[mR,gj];exact g5);rw[o.vars,o.jG cw dv (by rw[aB];decide),aB];exact⟨rfl,ah.trans aq⟩
  .refine cd (i_ ad (i_ h1 (i_ I (i_ dp ir)))) ?_;refine Q_ Ad ?_;refine cd (i_ ad (i_ h1 (i_ I (i_ dp ir)))) ?_;refine⟨⟨k+1,Ad,rfl,λj az=>?_,ah.trans aq⟩,by simp[intOf];omega⟩;by_cases ha:j<k
   .exact ct j ha
   .have:j=k:=Ad
    subst this;rw[mR,gj];exact g5
 have hB:=PI (mo:=o.qw l s) hm rJ (λj az=>ct j Ad);rw[aue l s i cw] at hB;have A1:=bm.ext o.kj.ext ah aj;have iV:=(h6.at i cw).cells;generalize l[i]=x at iV hB;refine cd (i_ ad (i_ h1 (i_ I (i_ dp ir)))) ?_;refine K_ i rfl cw ?_;refine cd (i_ ad (i_ h1 (i_ I (i_ dp ir)))) ?_;refine Z_ iV rfl ?_;refine cd (i_ ad (i_ h1 (i_ I (i_ dp ir)))) ?_;refine J_ (asg x _ s _ A1) ?_;rintro _ aU ⟨rfl,aq⟩;replace aq:=ah.trans aq;refine cd (i_ ad (i_ h1 (i_ I (i_ dp ir)))) ?_;apply I_<;>intro g6;rotate_left
 .refine cd (i_ ad (i_ h1 (i_ I (i_ dp ir)))) ?_;rw[o.vars,o.jG cw dv (by rw[hB];exact g6),hB];exact⟨rfl,aq⟩
 .refine cd (i_ ad (i_ h1 (i_ I (i_ dp ir)))) ?_;rw[g6] at hB;refine Q_ Ad ?_;refine cd (i_ ad (i_ h1 (i_ I (i_ dp ir)))) ?_;refine⟨⟨i+1,Ad,rfl,λj az=>?_,aq⟩,by simp[intOf,adk];omega⟩;by_cases ho:j<i
  .exact dv j ho
  .have:j=i:=Ad
   subst this;exact hB
def ar6(v v2:B_)(l:C_ o.dZ)(s:C_ o.Scalar)(w:A_)(aE:o.nH w v l)(aj:o.il w v2 s) :
  Du F.Lv #[v,v2] w λv w'=>v = .tuple #[.I (o.ax l s).1,.I (o.ax l s).2]/\Ext w w':=by
 obtain⟨aN,cap,rfl,hlen⟩:=aE.form;refine bl E.Lv ?_;refine aW ?_;refine _A (λS w' => ∃i:Nat,i<=l.length/\S 6 = .I i/\(∀j,j<i->o.err 4 (o.nameAt (·.name) l) (o.p2 l s) j=0)/\Ext w w')
  (λS _=>(l.length - intOf (S 6)).toNat) ⟨0,Ad,by refine aW ?_;rfl,λ_ h=>absurd h (HI _),Ext.refl _⟩ ?_
 rintro S w' b5 ⟨i,U,bJ,dv,he⟩;have ad:=b5 0 rfl;have h1:=b5 1 rfl;simp only[bD,Nat.reduceAdd,Nat.reduceEqDiff,reduceIte,km,nW] at ad h1;clear b5;have lO:=acT Ad dv;simp -dsimp only[dg,cH,Nat.reduceAdd,Nat.reduceEqDiff,reduceIte,reduceCtorEq,dm,ad,h1,bJ];apply I_<;>intro g1;rotate_left
 .simp -dsimp only[dg,cH,Nat.reduceAdd,Nat.reduceEqDiff,reduceIte,reduceCtorEq,dm,ad,h1,bJ];rw[o.ax,o.p3 (λj az=>dv j Ad)];exact⟨rfl,he⟩
 have cw:i<l.length:=Ad
 obtain⟨a,rfl⟩:=aE.addr;have h6:=bm.ext o.ru.ext he aE;have tG:=(h6.at i cw).cells 0 _ rfl;have c8:o.jP l[i].name:=(h6.at i cw).ok;have gj:o.nameAt (λx:o.dZ=>x.name) l i=l[i].name:=sW _ _ _ cw;simp -dsimp only[dg,cH,Nat.reduceAdd,Nat.reduceEqDiff,reduceIte,reduceCtorEq,dm,ad,h1,bJ];apply I_<;>intro g2
 .simp -dsimp only[dg,cH,Nat.reduceAdd,Nat.reduceEqDiff,reduceIte,reduceCtorEq,dm,ad,h1,bJ];rw[o.ax,o.jG cw dv (by rw[Ak Ad];decide),Ak Ad];exact⟨rfl,he⟩
 have hm:¬(4:Int)<=(i:Int):=Ad
 simp -dsimp only[dg,cH,Nat.reduceAdd,Nat.reduceEqDiff,reduceIte,reduceCtorEq,dm,ad,h1,bJ];refine K_ i rfl cw ?_;simp -dsimp only[dg,cH,Nat.reduceAdd,Nat.reduceEqDiff,reduceIte,reduceCtorEq,dm,ad,h1,bJ];refine M_ tG ?_;simp -dsimp only[dg,cH,Nat.reduceAdd,Nat.reduceEqDiff,reduceIte,reduceCtorEq,dm,ad,h1,bJ];refine J_ (DO _ _ c8) ?_;rintro _ aA ⟨rfl,ai⟩;simp -dsimp only[dg,cH,Nat.reduceAdd,Nat.reduceEqDiff,reduceIte,reduceCtorEq,dm,ad,h1,bJ];refine N_ (λg3=>?_) (λg3=>?_);rotate_left
 .simp -dsimp only[dg,cH,Nat.reduceAdd,Nat.reduceEqDiff,reduceIte,reduceCtorEq,dm,ad,h1,bJ];rw[<-gj] at g3;rw[o.ax,o.jG cw dv (by rw[Cw hm g3];decide),Cw hm g3];exact⟨rfl,he.trans ai⟩
 have rJ:=g3;rw[<-gj] at rJ;replace ai:=he.trans ai;clear he h6;simp -dsimp only[dg,cH,Nat.reduceAdd,Nat.reduceEqDiff,reduceIte,reduceCtorEq,dm,ad,h1,bJ];refine _A (λaZ w' => ∃k:Nat,k<=i/\aZ 7 = .I k/\(∀j,j<k->o.nameAt (λx:o.dZ=>x.name) l j≠o.nameAt (λx:o.dZ=>x.name) l i)/\Ext w w')
  (λS _=>(i - intOf (S 7)).toNat) ⟨0,Ad,by refine aW ?_;rfl,λ_ h=>absurd h (HI _),ai⟩ ?_
 rintro jW aM k2 ⟨k,hk,cr,ct,ah⟩;have b0:=ad;have bO:=h1;have S7:=bJ;have ad:=k2 0 rfl;have h1:=k2 1 rfl;have bJ:=k2 6 rfl;simp only[bD,Nat.reduceAdd,Nat.reduceEqDiff,reduceIte,km,nW] at ad h1 bJ;clear k2;rw[b0] at ad;rw[bO] at h1;rw[S7] at bJ;have h6:=bm.ext o.ru.ext ah aE;have tG:=(h6.at i cw).cells 0 _ rfl;simp -dsimp only[dg,cH,Nat.reduceAdd,Nat.reduceEqDiff,reduceIte,reduceCtorEq,dm,ad,h1,bJ,cr];apply I_<;>intro g4
 .have a7:k<l.length:=Ad
  have me:=(h6.at k a7).cells 0 _ rfl;have mR:o.nameAt (λx:o.dZ=>x.name) l k=l[k].name:=sW _ _ _ a7;simp -dsimp only[dg,cH,Nat.reduceAdd,Nat.reduceEqDiff,reduceIte,reduceCtorEq,dm,ad,h1,bJ,cr];refine K_ k rfl a7 ?_;simp -dsimp only[dg,cH,Nat.reduceAdd,Nat.reduceEqDiff,reduceIte,reduceCtorEq,dm,ad,h1,bJ,cr];refine M_ me ?_;simp -dsimp only[dg,cH,Nat.reduceAdd,Nat.reduceEqDiff,reduceIte,reduceCtorEq,dm,ad,h1,bJ,cr];refine K_ i rfl cw ?_;simp -dsimp only[dg,cH,Nat.reduceAdd,Nat.reduceEqDiff,reduceIte,reduceCtorEq,dm,ad,h1,bJ,cr];refine M_ tG ?_;simp -dsimp only[dg,cH,Nat.reduceAdd,Nat.reduceEqDiff,reduceIte,reduceCtorEq,dm,ad,h1,bJ,cr];intro aU aq;apply I_<;>intro g5
  .simp -dsimp only[dg,cH,Nat.reduceAdd,Nat.reduceEqDiff,reduceIte,reduceCtorEq,dm,ad,h1,bJ,cr];have aB:=PJ (mo:=o.p2 l s) hm rJ (show k<i by omega) (by rw[mR,gj];exact g5);rw[o.ax,o.jG cw dv (by rw[aB];decide),aB];exact⟨rfl,ah.trans aq⟩
  .simp -dsimp only[dg,cH,Nat.reduceAdd,Nat.reduceEqDiff,reduceIte,reduceCtorEq,dm,ad,h1,bJ,cr];refine Q_ Ad ?_;simp -dsimp only[dg,cH,Nat.reduceAdd,Nat.reduceEqDiff,reduceIte,reduceCtorEq,dm,ad,h1,bJ,cr];refine⟨⟨k+1,Ad,rfl,λj az=>?_,ah.trans aq⟩,by simp[intOf];omega⟩;by_cases ha:j<k
   .exact ct j ha
   .have:j=k:=Ad
    subst this;rw[mR,gj];exact g5
 have hB:=PI (mo:=o.p2 l s) hm rJ (λj az=>ct j Ad);have eB:o.p2 l s i=if o.there l[i].scalar s=false then 8 else if l[i].cap<1\/l[i].cap > 4\/(l[i].scalar=0/\o.narrow l[i].aV l[i].U=false) then 10 else 0:=by simp[o.p2,cw]
 rw[eB] at hB;have A1:=bm.ext o.kj.ext ah aj;have c1:=(h6.at i cw).cells 1 _ rfl;have c2:=(h6.at i cw).cells 2 _ rfl;have bu:=(h6.at i cw).cells 3 _ rfl;have bB:=(h6.at i cw).cells 4 _ rfl;simp only[o.there,o.narrow,decide_eq_false_iff_not] at hB;generalize l[i].scalar=xs at c1 hB;generalize l[i].cap=ax2 at c2 hB;generalize l[i].aV=UB at bu hB;generalize l[i].U=UA at bB hB;clear eB;have au:∀w',Ext aM w'->Du F.GW #[.I UB,.I UA] w' λu bM=>u = .bool (o.narrow UB UA)/\Ext w' bM:=λw' he =>
  (aeY UB UA w').mono λv bM h=>⟨h.1,h.2 ▸ Ext.refl _⟩
 simp -dsimp only[dg,cH,Nat.reduceAdd,Nat.reduceEqDiff,reduceIte,reduceCtorEq,dm,ad,h1,bJ,cr]
 (repeat' first
  | (refine I_ (λ_=>?_) (λ_=>?_)<;>try (exfalso;omega))
  | (refine N_ (λ_=>?_) (λ_=>?_))
  | (refine K_ i rfl cw ?_)
  | (refine M_ Cd ?_)
  | (refine J_ (DK _ _ s _ A1) ?_;rintro _ aM ⟨rfl,rfl⟩)
  | (refine P_ _ au ?_)
  | simp -dsimp only[dg,cH,Nat.reduceAdd,Nat.reduceEqDiff,reduceIte,reduceCtorEq,dm,ad,h1,bJ,cr]
  | (intro aU aq;replace aq:=ah.trans aq))
 all_goals first
  | (rw[if_pos Ad] at hB
     rw[o.ax,o.jG cw dv (by rw[hB];decide),hB];exact⟨rfl,Cd⟩)
  | (rw[if_neg Ad,if_pos Ad] at hB
     rw[o.ax,o.jG cw dv (by rw[hB];decide),hB];exact⟨rfl,Cd⟩)
  | (rw[if_neg Ad,if_neg Ad] at hB
     refine Q_ Ad ?_;simp -dsimp only[dg,cH,Nat.reduceAdd,Nat.reduceEqDiff,reduceIte,reduceCtorEq,dm,ad,h1,bJ,cr];refine⟨⟨i+1,Ad,rfl,λj az=>?_,Cd⟩,by simp[intOf,S7];omega⟩;by_cases ho:j<i
     .exact dv j ho
     .have:j=i:=Ad
      subst this;exact hB)
end Go.Proofs.R
namespace o
def agF(m:Model)(i:Nat):wb m 2 i=sV m i:=by
 have bF:cY 1 2 i m.vars.length=min m.vars.length i:=by unfold cY;rw[if_pos By,if_neg By];simp
 have aH:cY 2 2 i m.ax.length=0:=by unfold cY;rw[if_neg By]
 have aR:cY 3 2 i m.procs.length=0:=by unfold cY;rw[if_neg By]
 have bn:ic 2 i m.props.length=0:=by unfold ic;rw[if_neg By]
 unfold wb;rw[bF,aH,aR,bn];simp only[sV,G3,Bh,List.take_zero,List.map_nil,List.append_nil];rw[AJ8,<-AI7];simp only[List.take_length]
def agD(m:Model)(i:Nat):wb m 3 i=oj m i:=by
 have bF:cY 1 3 i m.vars.length=m.vars.length:=by unfold cY;rw[if_pos By,if_pos By]
 have aH:cY 2 3 i m.ax.length=min m.ax.length i:=by unfold cY;rw[if_pos By,if_neg By];simp
 have aR:cY 3 3 i m.procs.length=0:=by unfold cY;rw[if_neg By]
 have bn:ic 3 i m.props.length=0:=by unfold ic;rw[if_neg By]
 unfold wb;rw[bF,aH,aR,bn];simp only[oj,sV,G3,Bh,Bg,List.take_zero,List.map_nil,List.append_nil];rw[AJ8,<-AI7];simp only[List.take_length]
def agE(m:Model)(i:Nat):wb m 4 i=jz m i:=by
 have bF:cY 1 4 i m.vars.length=m.vars.length:=by unfold cY;rw[if_pos By,if_pos By]
 have aH:cY 2 4 i m.ax.length=m.ax.length:=by unfold cY;rw[if_pos By,if_pos By]
 have aR:cY 3 4 i m.procs.length=min m.procs.length i:=by unfold cY;rw[if_pos By,if_neg By];simp
 have bn:ic 4 i m.props.length=0:=by unfold ic;rw[if_neg By]
 unfold wb;rw[bF,aH,aR,bn];simp only[jz,oj,sV,G3,Bh,Bg,zl,List.take_zero,List.map_nil,List.append_nil];rw[AJ8,<-AI7];simp only[List.take_length]
def XH(m:Model)(i:Nat):wb m 5 i=sU m i:=by
 have bF:cY 1 5 i m.vars.length=m.vars.length:=by unfold cY;rw[if_pos By,if_pos By]
 have aH:cY 2 5 i m.ax.length=m.ax.length:=by unfold cY;rw[if_pos By,if_pos By]
 have aR:cY 3 5 i m.procs.length=m.procs.length:=by unfold cY;rw[if_pos By,if_pos By]
 have bn:ic 5 i m.props.length=min m.props.length i:=by unfold ic;rw[if_pos By];simp
 unfold wb;rw[bF,aH,aR,bn];simp only[sU,jz,oj,sV,G3,Bh,Bg,zl,SX];rw[AJ8,<-AI7];simp only[List.take_length]
def xT(q p i:Int)(len:Nat):cY q p i len<=len:=by unfold cY; (repeat' split)<;>omega
end o
namespace Go.Proofs.R
open Go Go.RowKit a8
def uZ(f:o.tc):B_:=.agg #[.int .i64 f.cJ,.int .i64 f.part,.int .i64 f.item,.int .i64 f.sub]
def ar7(cs:C_ B_)(m:o.Model)(w:A_)(h:o.dj w cs m) :
  Du F.LN #[.agg cs.toArray] w λv w'=>v=uZ (o.data m)/\Ext w w':=by
 have aL:=h;obtain⟨b0,bz,bO,c1,bT,c2,bV,bu,b1,bB,rfl,ad,h1,I,ab,aC,eu,dz,dJ,dR,ee⟩:=h.form;refine bl E.LN ?_;refine aa ?_;intro w1 bx cN ag al;refine aa ?_;intro aA bQ c7 ai ao;replace al:=ai.obj al;have aH:=ag.trans ai;have fQ:=cq al;have z2:=ag.size;refine aa ?_;refine J_ (ase _ m.scalars aA (ad.ext aH)) ?_;rintro _ aM ⟨rfl,ah⟩;replace al:=ah.obj al;replace ao:=ah.obj ao;have aR:=aH.trans ah;clear aH;refine aa ?_;apply I_<;>intro g1;rotate_left
 .have bb:=o.Yw g1;refine aa ?_;intro aU dQ bo;refine aa ?_;exact⟨by rw[bb];rfl,dQ.ext aR Ad⟩
 have b5:(o.scalars m.scalars).2=0:=by simpa using g1
 have k2:=o.aeE b5;have yP:=al;have AB:=ao;refine aa ?_;refine L_ 5 m.vars.length [1,2] (λ_:Unit=>[]) () (λk _ w'=>Ext aM w'/\∀j,j<k->o.j2 m j=0) a6 a6 ⟨Ext.refl _,λj h=>absurd h (HI _)⟩ ?_;clear al ao;rintro k _ S aU hk ⟨aq,bA⟩;have al:=aq.obj yP;have ao:=aq.obj AB;have bn:=aR.trans aq;refine aa ?_;apply I_<;>intro g2
 .have a7:k<m.vars.length:=Ad
  have hL:=(bm.len h1).2;have QH:=hL.2;unfold maxLen at QH;obtain⟨a,rfl⟩:=h1.addr;have gj:=o.DB (f:=λx:o.Var=>x.name) a7;have dH:=((h1.at k a7).cells).ext bn;have Sc:∀j,j<k->o.pa m j=0:=λj az=>o.ND (bA j az);refine aa ?_;refine _i (k:=.i64) (k+1) (by simp[dc,bD]) Ad ?_;refine aa ?_;refine P_ (.tuple #[.I (o.vars (m.vars.take (k+1)) m.scalars 12).1,.I (o.vars (m.vars.take (k+1)) m.scalars 12).2]) (λw' e=>ad5 _ _ (m.vars.take (k+1)) m.scalars 12 w' ((h1.head (k+1) Ad).ext o.rv.ext (bn.trans e)) (ad.ext (bn.trans e))) ?_;refine aa ?_;intro bh av;replace al:=av.obj al;replace ao:=av.obj ao;replace dH:=dH.ext av;have bC:=bn.trans av;rw[o.auj a7 Sc];refine aa ?_;apply I_<;>intro g3;rotate_left
  .have lp:o.j2 m k=o.pa m k:=by unfold o.j2;rw[if_pos g3]
   have bb:=o.IY b5 a7 bA (by rw[lp];exact g3);rw[lp] at bb;refine aa ?_;intro bq gE bS;refine aa ?_;exact⟨by rw[bb];rfl,gE.ext bC Ad⟩
  have iw:o.pa m k=0:=by simpa using g3
  have awi:k<12:=by
   apply Classical.byContradiction;intro aw;have h:=iw;unfold o.pa o.err at h;rw[if_pos Ad] at h;cases h
  refine aa ?_;intro bq aD;replace al:=aD.obj al;replace ao:=aD.obj ao;refine aa ?_;refine J_ (EA _ m 2 k bq (aL.ext (bC.trans aD)) Ad Ad (by
   have c5:o.cY 1 2 k m.vars.length<=k:=by unfold o.cY; (repeat' split)<;>omega
   have dA:o.cY 2 2 k m.ax.length=0:=by unfold o.cY;rw[if_neg By]
   have ea:o.cY 3 2 k m.procs.length=0:=by unfold o.cY;rw[if_neg By]
   have hg:o.ic 2 k m.props.length=0:=by unfold o.ic;rw[if_neg By]
   omega)) ?_
  rintro _ bH ⟨⟨v,rfl,gx⟩,bc⟩;refine⟨bc,?_⟩;rw[o.agF] at gx;refine aa ?_;refine J_ (FH v _ m.vars[k].name _ bH gx) ?_;rintro _ pc ⟨rfl,rfl⟩;replace al:=bc.obj al;replace ao:=bc.obj ao;have aaF:=aD.trans bc;have cM:=bC.trans aaF;refine aa ?_;apply I_<;>intro g4
  .have lp:o.j2 m k=7:=by unfold o.j2;rw[if_neg (by simpa using iw),gj,if_pos g4]
   have bb:=o.IY b5 a7 bA (by rw[lp];decide);rw[lp] at bb;refine aa ?_;intro cB ja cD;refine aa ?_;exact⟨by rw[bb];rfl,ja.ext cM Ad⟩
  .refine aa ?_;refine⟨a7,aK,(),trivial,(aq.trans av).trans aaF,λj az=>?_⟩;by_cases ha:j=k
   .subst ha;unfold o.j2;rw[if_neg (by simpa using iw),gj,if_neg g4]
   .exact bA j Ad
 have nu:∀j,j<m.vars.length->o.j2 m j=0:=λj az=>bA j Ad;have avG:m.vars.length<=12:=by
  apply Classical.byContradiction;intro aw
  have:=o.Y1 (nu 12 Ad)
  omega
 clear al ao;refine aa ?_;refine L_ 8 m.ax.length [1,2] (λ_:Unit=>[]) () (λk _ w'=>Ext aM w'/\∀j,j<k->o.k0 m j=0) a6 a6 ⟨aq,λj h=>absurd h (HI _)⟩ ?_;clear bn;rintro k _ aZ bh hk ⟨av,bA⟩;have al:=av.obj yP;have ao:=av.obj AB;have bn:=aR.trans av;refine aa ?_;apply I_<;>intro g2
 .have a7:k<m.ax.length:=Ad
  have hL:=(bm.len I).2;have QH:=hL.2;unfold maxLen at QH;obtain⟨a,rfl⟩:=I.addr;have gj:=o.DB (f:=λx:o.dZ=>x.name) a7;have dH:=((I.at k a7).cells).ext bn;have Sc:∀j,j<k->o.oN m j=0:=λj az=>o.IH (bA j az);refine aa ?_;refine _i (k:=.i64) (k+1) (by simp[dc,bD]) Ad ?_;refine aa ?_;refine P_ (.tuple #[.I (o.ax (m.ax.take (k+1)) m.scalars).1,.I (o.ax (m.ax.take (k+1)) m.scalars).2]) (λw' e=>ar6 _ _ (m.ax.take (k+1)) m.scalars w' ((I.head (k+1) Ad).ext o.ru.ext (bn.trans e)) (ad.ext (bn.trans e))) ?_;refine aa ?_;intro bq aD;replace al:=aD.obj al;replace ao:=aD.obj ao;replace dH:=dH.ext aD;have bC:=bn.trans aD;rw[o.ah5 a7 Sc];refine aa ?_;apply I_<;>intro g3;rotate_left
  .have lp:o.k0 m k=o.oN m k:=by unfold o.k0;rw[if_pos g3]
   have bb:=o.IW b5 nu a7 bA (by rw[lp];exact g3);rw[lp] at bb;refine aa ?_;intro bq gE bS;refine aa ?_;exact⟨by rw[bb];rfl,gE.ext bC Ad⟩
  have iw:o.oN m k=0:=by simpa using g3
  have awj:k<4:=by
   apply Classical.byContradiction;intro aw;have h:=iw;unfold o.oN o.err at h;rw[if_pos Ad] at h;cases h
  refine aa ?_;intro bH bc;replace al:=bc.obj al;replace ao:=bc.obj ao;refine aa ?_;refine J_ (EA _ m 3 k bH (aL.ext (bC.trans bc)) Ad Ad (by
   have c5:=o.xT 1 3 k m.vars.length;have dA:o.cY 2 3 k m.ax.length<=k:=by unfold o.cY; (repeat' split)<;>omega
   have ea:o.cY 3 3 k m.procs.length=0:=by unfold o.cY;rw[if_neg By]
   have hg:o.ic 3 k m.props.length=0:=by unfold o.ic;rw[if_neg By]
   omega)) ?_
  rintro _ cB ⟨⟨v,rfl,gx⟩,bt⟩;refine⟨bt,?_⟩;rw[o.agD] at gx;refine aa ?_;refine J_ (FH v _ m.ax[k].name _ cB gx) ?_;rintro _ pc ⟨rfl,rfl⟩;replace al:=bt.obj al;replace ao:=bt.obj ao;have w3:=bc.trans bt;have cM:=bC.trans w3;refine aa ?_;apply I_<;>intro g4
  .have lp:o.k0 m k=7:=by unfold o.k0;rw[if_neg (by simpa using iw),gj,if_pos g4]
   have bb:=o.IW b5 nu a7 bA (by rw[lp];decide);rw[lp] at bb;refine aa ?_;intro cB ja cD;refine aa ?_;exact⟨by rw[bb];rfl,ja.ext cM Ad⟩
  .refine aa ?_;refine⟨a7,aK,(),trivial,(av.trans aD).trans w3,λj az=>?_⟩;by_cases ha:j=k
   .subst ha;unfold o.k0;rw[if_neg (by simpa using iw),gj,if_neg g4]
   .exact bA j Ad
 have bb:=o.Yu b5 nu λj az=>bA j Ad;refine aa ?_;intro bq gE bS;refine aa ?_;exact⟨by rw[bb];rfl,gE.ext bn Ad⟩
end Go.Proofs.R
namespace o
structure vT(m:Model):Prop where
 v:m.vars.length<=1000000
 c:m.ax.length<=1000000
 p:m.procs.length<=1000000
 i:∀p∈m.procs,p.vars.length<=1000000/\p.c0.length<=1000000
def c1(m:Model)(k:Nat):Int:=jg ((m.vars.take k).map λv=>cells v m.scalars)
def c2(m:Model)(k:Nat):Int:=jg ((m.ax.take k).map rF)
def i1(m:Model)(k:Nat):Int:=jg ((m.procs.take k).map (lx m))
def i2(m:Model)(k:Nat):Int:=jg ((m.procs.take k).map λp=>lx m p*p.c0.length)
def i3(m:Model)(k:Nat):Int:=jg ((m.procs.take k).map λp=>lx m p*(1+p.vars.length))
def acY{α:Type}{l:C_ α}{k:Nat}{x:α}(h:x∈l.take k):x∈l:=AJ9 h
def Ch{m:Model}(h:vT m)(k:Nat):0<=c1 m k/\c1 m k<=4000000:=by
 have:=Hy (λv=>cells v m.scalars) 4 By (m.vars.take k) λv _=>su v _
 have h1:=h.v;have I:(m.vars.take k).length<=m.vars.length:=by simp;omega
 unfold c1;omega
def IC{m:Model}(h:vT m)(k:Nat):0<=c2 m k/\c2 m k<=5000000:=by
 have:=Hy rF 5 By (m.ax.take k) λc _=>by have:=O8 c;omega
 have h1:=h.c;have I:(m.ax.take k).length<=m.ax.length:=by simp;omega
 unfold c2;omega
def abK{m:Model}(h:vT m)(k:Nat):0<=i1 m k/\i1 m k<=4000000:=by
 have:=Hy (lx m) 4 By (m.procs.take k) λp _=>Ha m p
 have h1:=h.p;have I:(m.procs.take k).length<=m.procs.length:=by simp;omega
 unfold i1;omega
def DA{a b:Int}(aY:0<=a/\a<=4)(ak:0<=b/\b<=1000001):0<=a*b/\a*b<=4000004:=by
 have:a=0\/a=1\/a=2\/a=3\/a=4:=Ad
 rcases this with rfl | rfl | rfl | rfl | rfl<;>omega
def abM{m:Model}(h:vT m)(k:Nat):0<=i2 m k/\i2 m k<=4000004000000:=by
 have:=Hy (λp=>lx m p*p.c0.length) 4000004 By (m.procs.take k) λp ar=>DA (Ha m p) (by have:=(h.i p (acY ar)).2;omega)
 have h1:=h.p;have I:(m.procs.take k).length<=m.procs.length:=by simp;omega
 unfold i2;omega
def abO{m:Model}(h:vT m)(k:Nat):0<=i3 m k/\i3 m k<=4000004000000:=by
 have:=Hy (λp=>lx m p*(1+p.vars.length)) 4000004 By (m.procs.take k) λp ar=>DA (Ha m p) (by have:=(h.i p (acY ar)).1;omega)
 have h1:=h.p;have I:(m.procs.take k).length<=m.procs.length:=by simp;omega
 unfold i3;omega
def X1{m:Model}{k:Nat}(h:k<m.vars.length):c1 m (k+1)=c1 m k+cells m.vars[k] m.scalars:=Hz _ _ h
def X2{m:Model}{k:Nat}(h:k<m.ax.length):c2 m (k+1)=c2 m k+rF m.ax[k]:=Hz _ _ h
def abL{m:Model}{k:Nat}(h:k<m.procs.length):i1 m (k+1)=i1 m k+lx m m.procs[k]:=Hz _ _ h
def abN{m:Model}{k:Nat}(h:k<m.procs.length):i2 m (k+1)=i2 m k+lx m m.procs[k]*m.procs[k].c0.length:=Hz _ _ h
def abP{m:Model}{k:Nat}(h:k<m.procs.length):i3 m (k+1)=i3 m k+lx m m.procs[k]*(1+m.procs[k].vars.length):=Hz _ _ h
def adx(m:Model){a b c:Nat}(aY:m.vars.length<=a)(ak:m.ax.length<=b)(an:m.procs.length<=c):pieces m=(i1 m c,i2 m c,c1 m a+c2 m b+i3 m c):=by
 unfold pieces i1 i2 i3 c1 c2;rw[MC aY,MC ak,MC an]
end o
namespace Go.Proofs.R
open Go Go.RowKit a8
def aqZ(cs:C_ B_)(m:o.Model)(w:A_)(h:o.dj w cs m)(ay:o.vT m) :
  Du F.dl #[.agg cs.toArray] w λv w'=>v = .tuple #[.I (o.pieces m).1,.I (o.pieces m).2.1,.I (o.pieces m).2.2]/\Ext w w':=by
 obtain⟨b0,bz,bO,c1,bT,c2,bV,bu,b1,bB,rfl,ad,h1,I,ab,aC,eu,dz,dJ,dR,ee⟩:=h.form;refine bl E.dl ?_;refine aa ?_;intro w1 bx cN ag al;have u7:=al;clear al;refine aa ?_;refine L_ 18 m.vars.length [1,5,6,16,17] (λs:Int=>[(7,.I s)]) 0 (λk s w'=>Ext w1 w'/\s=o.c1 m k) a6 a6 ⟨Ext.refl _,by simp[o.c1,o.jg]⟩ ?_;rintro k _ S aA hk ⟨ai,rfl⟩;have al:=ai.obj u7;have df:∀{w'},Ext aA w'->Ext w w':=λe=>(ag.trans ai).trans e;refine aa ?_;apply I_<;>intro g1
 .have a7:k<m.vars.length:=Ad
  obtain⟨a,rfl⟩:=h1.addr;have dH:=((h1.at k a7).cells).ext (df (Ext.refl _));refine aa ?_;intro aM bW eX ah ba;replace al:=ah.obj al;refine aa ?_;refine J_ (Cl m.vars[k] _ m.scalars aM (ad.ext (df ah))) ?_;rintro _ aU ⟨rfl,aq⟩;have c5:=o.Ch ay k;have dA:=o.su m.vars[k] m.scalars;refine aa ?_;exact⟨a7,aK,_,a6,(ai.trans ah).trans aq,(o.X1 a7).symm⟩
 have mg:m.vars.length<=k:=Ad
 refine aa ?_;refine L_ 32 m.ax.length [1,5,6,30,31] (λs:Int=>[(7,.I s)]) (o.c1 m k) (λj s w'=>Ext w1 w'/\s=o.c1 m k+o.c2 m j) a6 a6 ⟨ai,by simp[o.c2,o.jg]⟩ ?_;clear al df;rintro j _ aZ aM az ⟨ah,rfl⟩;have al:=ah.obj u7;have fr:∀{w'},Ext aM w'->Ext w w':=λe=>(ag.trans ah).trans e;refine aa ?_;apply I_<;>intro g2
 .have eP:j<m.ax.length:=Ad
  obtain⟨a,rfl⟩:=I.addr;have dH:=((I.at j eP).cells).ext (fr (Ext.refl _));refine aa ?_;intro aU bW eX aq ba;have c5:=o.Ch ay k;have dA:=o.IC ay j;have ea:=o.O8 m.ax[j];unfold o.rF at ea;refine aa ?_;exact⟨eP,aK,_,a6,ah.trans aq,by rw[o.X2 eP];unfold o.rF;omega⟩
 have Rk:m.ax.length<=j:=Ad
 refine aa ?_;refine L_ 47 m.procs.length [1,45,46] (λs:Int×Int×Int=>[(5,.I s.1),(6,.I s.2.1),(7,.I s.2.2)]) (0,0,o.c1 m k+o.c2 m j)
  (λi s w'=>Ext w1 w'/\s=(o.i1 m i,o.i2 m i,o.c1 m k+o.c2 m j+o.i3 m i)) a6 a6 ⟨ah,by simp[o.i1,o.i2,o.i3,o.jg]⟩ ?_
 clear al fr;rintro i _ ga aU U ⟨aq,rfl⟩;have al:=aq.obj u7;have ec:∀{w'},Ext aU w'->Ext w w':=λe=>(ag.trans aq).trans e;refine aa ?_;apply I_<;>intro g3
 .have cw:i<m.procs.length:=Ad
  obtain⟨a,rfl⟩:=ab.addr;obtain⟨_,bY,dV,ar,eQ,c3⟩:=ab.at i cw;obtain⟨ei,eW,rfl,e6⟩:=eQ.form;obtain⟨o6,oM,rfl,lc⟩:=c3.form;replace ar:=ar.ext (ec (Ext.refl _));have Q6:=ay.i _ (ED cw);refine aa ?_;intro bh bW eX av ba;replace al:=av.obj al;refine aa ?_;refine J_ (Cl ⟨⟨#[]⟩,0,m.procs[i].over,0,0,0⟩ _ m.scalars bh (ad.ext (ec av))) ?_;rintro _ bq ⟨rfl,aD⟩;have anx:o.cells ⟨⟨#[]⟩,0,m.procs[i].over,0,0,0⟩ m.scalars=o.lx m m.procs[i]:=rfl;rw[anx];replace ba:=aD.obj ba;have c5:=o.Ch ay k;have dA:=o.IC ay j;have ea:=o.abK ay i;have hg:=o.abM ay i;have r5:=o.abO ay i;have uo:=o.Ha m m.procs[i];have Tq:=o.DA uo (b:=m.procs[i].c0.length) Ad;have DI:=o.DA uo (b:=1+m.procs[i].vars.length) Ad;refine aa ?_;exact⟨cw,aK,(_,_,_),(by first | exact⟨rfl,rfl,rfl,trivial⟩ | exact⟨rfl,rfl,trivial⟩ | (simp -dsimp only[dg,xQ,xP,xq,xp,wS,wR,Nat.reduceAdd,Nat.reduceEqDiff,reduceIte,and_self];exact⟨rfl,rfl,rfl,trivial⟩) | (simp -dsimp only[dg,xQ,xP,xq,xp,wS,wR,Nat.reduceAdd,Nat.reduceEqDiff,reduceIte,and_self];exact⟨rfl,rfl,trivial⟩)),(aq.trans av).trans aD,by rw[o.abL cw,o.abN cw,o.abP cw];exact Prod.ext rfl (Prod.ext rfl (Int.add_assoc _ _ _))⟩
 have j5:m.procs.length<=i:=Ad
 refine aa ?_;exact⟨by rw[o.adx m mg Rk j5],ec (Ext.refl _)⟩
def aoo(cs:C_ B_)(m:o.Model)(p:o.dt)(bY dV:B_)(w:A_)(h:o.dj w cs m) :
  Du F.LJ #[.agg cs.toArray,.agg (p.enc bY dV).toArray] w λv w'=>v = .I (o.lx m p)/\Ext w w':=by
 obtain⟨b0,bz,bO,c1,bT,c2,bV,bu,b1,bB,rfl,ad,_⟩:=h.form;refine bl E.LJ ?_;refine aa ?_;intro w1 bx cN ag al;refine aa ?_;intro aA bQ c7 ai ao;refine aa ?_;refine I_ (λg=>?_) (λg=>?_)
 .refine aa ?_;exact⟨by rw[o.lx,if_pos g],ag.trans ai⟩
 refine aa ?_;refine J_ (DK p.over _ m.scalars aA (ad.ext (ag.trans ai))) ?_;rintro _ _ ⟨rfl,rfl⟩;refine aa ?_;exact⟨by rw[o.lx,if_neg g],ag.trans ai⟩
def asa(cs:C_ B_)(m:o.Model)(w:A_)(h:o.dj w cs m)(ay:o.vT m) :
  Du F.LL #[.agg cs.toArray] w λv w'=>v = .tuple #[.I (o.pieces m).1,.I (o.pieces m).2.1,.I (o.pieces m).2.2]/\Ext w w':=by
 have aL:=h;obtain⟨b0,bz,bO,c1,bT,c2,bV,bu,b1,bB,rfl,ad,h1,I,ab,aC,eu,dz,dJ,dR,ee⟩:=h.form;refine bl E.LL ?_;refine aa ?_;intro w1 bx cN ag al;have u7:=al;clear al;refine aa ?_;refine L_ 8 m.vars.length [1,5,6] (λs:Int=>[(7,.I s)]) 0 (λk s w'=>Ext w1 w'/\s=o.c1 m k) a6 a6 ⟨Ext.refl _,by simp[o.c1,o.jg]⟩ ?_;rintro k _ S aA hk ⟨ai,rfl⟩;have al:=ai.obj u7;have df:∀{w'},Ext aA w'->Ext w w':=λe=>(ag.trans ai).trans e;refine aa ?_;apply I_<;>intro g1
 .have a7:k<m.vars.length:=Ad
  obtain⟨a,rfl⟩:=h1.addr;have dH:=((h1.at k a7).cells).ext (df (Ext.refl _));have c5:=o.Ch ay k;have dA:=o.su m.vars[k] m.scalars;refine aa ?_;refine P_ (.I (o.cells m.vars[k] m.scalars)) (λw' e=>M1 m.vars[k] _ m.scalars w' (ad.ext (df e))) ?_;refine aa ?_;intro aU aq;refine aa ?_;exact⟨a7,aK,_,a6,ai.trans aq,(o.X1 a7).symm⟩
 have mg:m.vars.length<=k:=Ad
 refine aa ?_;refine L_ 9 m.ax.length [1,5,6] (λs:Int=>[(7,.I s)]) (o.c1 m k) (λj s w'=>Ext w1 w'/\s=o.c1 m k+o.c2 m j) a6 a6 ⟨ai,by simp[o.c2,o.jg]⟩ ?_;clear al df;rintro j _ aZ aM az ⟨ah,rfl⟩;have al:=ah.obj u7;have fr:∀{w'},Ext aM w'->Ext w w':=λe=>(ag.trans ah).trans e;refine aa ?_;apply I_<;>intro g2
 .have eP:j<m.ax.length:=Ad
  obtain⟨a,rfl⟩:=I.addr;have dH:=((I.at j eP).cells).ext (fr (Ext.refl _));have c5:=o.Ch ay k;have dA:=o.IC ay j;have ea:=o.O8 m.ax[j];unfold o.rF at ea;refine aa ?_;exact⟨eP,aK,_,a6,ah,by rw[o.X2 eP];unfold o.rF;omega⟩
 have Rk:m.ax.length<=j:=Ad
 refine aa ?_;refine L_ 10 m.procs.length [1] (λs:Int×Int×Int=>[(5,.I s.1),(6,.I s.2.1),(7,.I s.2.2)]) (0,0,o.c1 m k+o.c2 m j)
  (λi s w'=>Ext w1 w'/\s=(o.i1 m i,o.i2 m i,o.c1 m k+o.c2 m j+o.i3 m i)) a6 a6 ⟨ah,by simp[o.i1,o.i2,o.i3,o.jg]⟩ ?_
 clear al fr;rintro i _ ga aU U ⟨aq,rfl⟩;have al:=aq.obj u7;have ec:∀{w'},Ext aU w'->Ext w w':=λe=>(ag.trans aq).trans e;refine aa ?_;apply I_<;>intro g3
 .have cw:i<m.procs.length:=Ad
  obtain⟨a,rfl⟩:=ab.addr;obtain⟨_,bY,dV,ar,eQ,c3⟩:=ab.at i cw;obtain⟨ei,eW,rfl,e6⟩:=eQ.form;obtain⟨o6,oM,rfl,lc⟩:=c3.form;replace ar:=ar.ext (ec (Ext.refl _));have Q6:=ay.i _ (ED cw);refine aa ?_;refine P_ (.I (o.lx m m.procs[i])) (λw' e=>aoo _ m m.procs[i] _ _ w' (aL.ext (ec e))) ?_;refine aa ?_;intro bq aD;replace al:=aD.obj al;replace ar:=ar.ext aD;have c5:=o.Ch ay k;have dA:=o.IC ay j;have ea:=o.abK ay i;have hg:=o.abM ay i;have r5:=o.abO ay i;have uo:=o.Ha m m.procs[i];have Tq:=o.DA uo (b:=m.procs[i].c0.length) Ad;have DI:=o.DA uo (b:=1+m.procs[i].vars.length) Ad;refine aa ?_;exact⟨cw,aK,(_,_,_),(by first | exact⟨rfl,rfl,rfl,trivial⟩ | exact⟨rfl,rfl,trivial⟩ | (simp -dsimp only[dg,xQ,xP,xq,xp,wS,wR,Nat.reduceAdd,Nat.reduceEqDiff,reduceIte,and_self];exact⟨rfl,rfl,rfl,trivial⟩) | (simp -dsimp only[dg,xQ,xP,xq,xp,wS,wR,Nat.reduceAdd,Nat.reduceEqDiff,reduceIte,and_self];exact⟨rfl,rfl,trivial⟩)),aq.trans aD,by rw[o.abL cw,o.abN cw,o.abP cw];exact Prod.ext rfl (Prod.ext rfl (Int.add_assoc _ _ _))⟩
 have j5:m.procs.length<=i:=Ad
 refine aa ?_;exact⟨by rw[o.adx m mg Rk j5],ec (Ext.refl _)⟩
end Go.Proofs.R
namespace o
structure auV(m:Model):Prop where
 s:m.scalars.length<=10
 v:m.vars.length<=30
 c:m.ax.length<=20
 p:m.procs.length<=20
 q:m.props.length<=20
 i:∀p∈m.procs,p.vars.length<=20/\p.c0.length<=30/\∀c∈p.c0,c.bP.length<=20/\c.guard.length<=60
end o