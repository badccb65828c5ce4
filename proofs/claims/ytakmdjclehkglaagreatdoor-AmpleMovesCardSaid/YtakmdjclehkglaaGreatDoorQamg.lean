/- Parts. -/
import Derived.Test.YtakmdjclehkglaaGreatDoorQamf
set_option linter.all false
set_option maxRecDepth 100000
set_option maxHeartbeats 16000000
namespace Go.Proofs.R
open Go Go.RowKit ba o
def tc{α:Type}(f:α->ByteArray)(l:C_ α)(i:Nat)(h:i<l.length):o.nameAt f l i=f l[i]:=by simp[o.nameAt,h]
def ato(i:Nat)(b:Nat)(v:B_)(l:C_ o.Scalar)(w:A_)(aE:iz w v l)(ak:w.cell? ⟨b,0,none⟩=some v)(U:i<l.length) :
  Ei F.sB #[.I i,.pointer (some ⟨b,0,none⟩)] w λv w'=>v = .string (o.nameAt (·.name) l i)/\Ext w w':=by
 obtain⟨aN,cap,rfl,hlen⟩:=aE.form;refine bk E.sB ?_;refine aX ?_;refine M_ ak ?_;refine aX ?_;obtain⟨a,rfl⟩:=aE.addr;have an:=(aE.at i U).cells 0 _ rfl;refine K_ i rfl U ?_;refine aX ?_;refine M_ an ?_;refine aX ?_;rw[tc _ _ _ U];exact⟨rfl,Ext.refl w⟩
def atp(i:Nat)(b:Nat)(v:B_)(l:C_ o.Scalar)(w:A_)(aE:iz w v l)(ak:w.cell? ⟨b,0,none⟩=some v)(U:i<l.length) :
  Ei F.sC #[.I i,.pointer (some ⟨b,0,none⟩)] w λv w'=>v = .I (vX l i)/\Ext w w':=by
 obtain⟨aN,cap,rfl,hlen⟩:=aE.form;refine bk E.sC ?_;refine aX ?_;refine M_ ak ?_;refine aX ?_;obtain⟨a,rfl⟩:=aE.addr;have an:=(aE.at i U).cells 1 _ rfl;have aT:vX l i=if 1<=l[i].size/\l[i].size<=4 then 0 else 10:=by simp[vX,U]
 rw[aT];generalize l[i].size=z at an;refine K_ i rfl U ?_;refine aX ?_;refine M_ an ?_;refine aX ?_;refine I_ (λh1=>?_) (λh1=>?_)
 .refine aX ?_;rw[if_neg Aw];exact⟨rfl,Ext.refl w⟩
 refine aX ?_;refine M_ ak ?_;refine aX ?_;refine K_ i rfl U ?_;refine aX ?_;refine M_ an ?_;refine aX ?_;refine I_ (λh1=>?_) (λh1=>?_)
 .refine aX ?_;rw[if_neg Aw];exact⟨rfl,Ext.refl w⟩
 .refine aX ?_;rw[if_pos Aw];exact⟨rfl,Ext.refl w⟩
def atq(v:B_)(l:C_ o.Scalar)(w:A_)(aS:gQ w)(aE:iz w v l) :
  Ei F.Jk #[v] w λv w'=>v = .tuple #[.I (o.scalars l).1,.I (o.scalars l).2]/\Ext w w':=by
 obtain⟨aN,cap,rfl,hlen⟩:=aE.form;refine bk E.Jk ?_;refine aX ?_;refine O_ λw1 b ak af al=>?_;have mZ:=bm.ext kt.ext af aE;have cN:w1.cell? ⟨b,0,none⟩=some (.slice aN l.length cap):=CD al rfl;refine aX ?_;refine M_ cN ?_;refine aX ?_;refine J_ (Te l.length 2 Aw (o.nameAt (·.name) l) (vX l) F.sB F.sC [_] [_] Cx Cx w1 (aS.ext af)
  (λi U=>by rw[tc _ _ _ Aw];obtain⟨a,rfl⟩:=aE.addr;exact(aE.at i Aw).ok)
  (λi w' U he=>ato i b _ l w' (bm.ext kt.ext he mZ) (he.cell cN) Aw)
  (λi w' U he=>atp i b _ l w' (bm.ext kt.ext he mZ) (he.cell cN) Aw)) ?_
 rintro _ az ⟨rfl,ai⟩;refine aX ?_;exact⟨rfl,af.trans ai⟩
def IY(x:o.Var)(v:B_)(l:C_ o.Scalar)(w:A_)(aE:iz w v l) :
  Ei F.wY #[.agg x.enc.toArray,v] w λv w'=>v = .tuple #[.I (o.bounds x l).1,.I (o.bounds x l).2]/\Ext w w':=by
 obtain⟨aN,cap,rfl,hlen⟩:=aE.form;refine bk E.wY ?_;refine aX ?_;refine O_ λw1 b ak af al=>?_;have c1:w1.cell? (Addr.add ⟨b,0,none⟩ 1)=some (.I x.scalar):=fP al rfl;have bw:w1.cell? (Addr.add ⟨b,0,none⟩ 3)=some (.I x.aV):=fP al rfl;have bD:w1.cell? (Addr.add ⟨b,0,none⟩ 4)=some (.I x.U):=fP al rfl;refine aX ?_;refine M_ c1 ?_;refine aX ?_;refine I_ (λh1=>?_) (λh1=>?_)
 .refine aX ?_;refine M_ bw ?_;refine aX ?_;refine M_ bD ?_;refine aX ?_;intro az ai;simp only[o.bounds,h1,if_true];exact⟨trivial,af.trans ai⟩
 .refine aX ?_;refine M_ c1 ?_;refine aX ?_;refine J_ (Ul x.scalar _ l w1 (bm.ext kt.ext af aE)) ?_;rintro _ _ ⟨rfl,rfl⟩;refine aX ?_;simp only[o.bounds,h1,if_false];exact⟨trivial,af⟩
def CE(x:o.Var)(v:B_)(l:C_ o.Scalar)(w:A_)(aE:iz w v l) :
  Ei F.Jt #[.agg x.enc.toArray,v] w λv w'=>v = .I (o.cells x l)/\Ext w w':=by
 obtain⟨aN,cap,rfl,hlen⟩:=aE.form;refine bk E.Jt ?_;refine aX ?_;refine O_ λw1 b ak af al=>?_;have c2:w1.cell? (Addr.add ⟨b,0,none⟩ 2)=some (.I x.over):=fP al rfl;refine aX ?_;refine M_ c2 ?_;refine aX ?_;refine I_ (λh1=>?_) (λh1=>?_)
 .refine aX ?_;simp only[o.cells,h1,if_true];exact⟨trivial,af⟩
 .refine aX ?_;refine M_ c2 ?_;refine aX ?_;refine J_ (Ul x.over _ l w1 (bm.ext kt.ext af aE)) ?_;rintro _ _ ⟨rfl,rfl⟩;refine aX ?_;simp only[o.cells,h1,if_false];exact⟨trivial,af⟩
def auN(i:Nat)(b:Nat)(v:B_)(l:C_ o.Var)(w:A_)(aE:h8 w v l)(ak:w.cell? ⟨b,0,none⟩=some v)(U:i<l.length) :
  Ei F.x #[.I i,.pointer (some ⟨b,0,none⟩)] w λv w'=>v = .string (o.nameAt (·.name) l i)/\Ext w w':=by
 obtain⟨aN,cap,rfl,hlen⟩:=aE.form;refine bk E.x ?_;refine aX ?_;refine M_ ak ?_;refine aX ?_;obtain⟨a,rfl⟩:=aE.addr;have an:=(aE.at i U).cells 0 _ rfl;refine K_ i rfl U ?_;refine aX ?_;refine M_ an ?_;refine aX ?_;rw[tc _ _ _ U];exact⟨rfl,Ext.refl w⟩
def auO(i:Nat)(b bP:Nat)(v v2:B_)(l:C_ o.Var)(s:C_ o.Scalar)(w:A_)(aE:h8 w v l)(aj:iz w v2 s)(ak:w.cell? ⟨b,0,none⟩=some v)(c8:w.cell? ⟨bP,0,none⟩=some v2)
  (U:i<l.length):Ei F.y #[.I i,.pointer (some ⟨b,0,none⟩),.pointer (some ⟨bP,0,none⟩)] w λv w'=>v = .I (qE l s i)/\Ext w w':=by
 obtain⟨aN,cap,rfl,hlen⟩:=aE.form;obtain⟨ph,Ar,rfl,GD⟩:=aj.form;refine bk E.y ?_;refine aX ?_;refine M_ ak ?_;refine aX ?_;obtain⟨a,rfl⟩:=aE.addr;have an:=(aE.at i U).cells;have aT:qE l s i=if o.there l[i].scalar s=false\/o.there l[i].over s=false then 8
  else if (l[i].scalar=0/\o.narrow l[i].aV l[i].U=false)\/l[i].init<(o.bounds l[i] s).1\/l[i].init > (o.bounds l[i] s).2 then 10 else 0:=by simp[qE,U]
 rw[aT];clear aT;generalize l[i]=x at an;refine K_ i rfl U ?_;refine aX ?_;refine Z_ an rfl ?_;refine aX ?_;refine O_ λw1 q av af al=>?_;refine aX ?_;refine U_ al rfl rfl (by simp[o.Var.enc,Value.oneCell']) λaz hw ao=>?_;have ai:Ext w az:=hw.ext af av;clear hw al af w1;have c1:az.cell? (Addr.add ⟨q,0,none⟩ 1)=some (.I x.scalar):=fP ao rfl;have c2:az.cell? (Addr.add ⟨q,0,none⟩ 2)=some (.I x.over):=fP ao rfl;have Aq:az.cell? (Addr.add ⟨q,0,none⟩ 5)=some (.I x.init):=fP ao rfl;have d2:=ai.cell c8;have eo:=bm.ext kt.ext ai aj;refine aX ?_;refine M_ c1 ?_;refine aX ?_;refine M_ d2 ?_;refine aX ?_;refine J_ (UC x.scalar _ s az eo) ?_;rintro _ _ ⟨rfl,rfl⟩;refine aX ?_;refine N_ (λh1=>?_) (λh1=>?_);rotate_left
 .refine aX ?_;simp only[h1,true_or,if_true];exact⟨trivial,ai⟩
 refine aX ?_;refine M_ c2 ?_;refine aX ?_;refine M_ d2 ?_;refine aX ?_;refine J_ (UC x.over _ s _ eo) ?_;rintro _ _ ⟨rfl,rfl⟩;refine aX ?_;refine N_ (λJ=>?_) (λJ=>?_);rotate_left
 .refine aX ?_;simp only[J,or_true,if_true];exact⟨trivial,ai⟩
 refine aX ?_;refine Z_ (hK ao) rfl ?_;refine aX ?_;refine M_ d2 ?_;refine aX ?_;refine J_ (IY x _ s _ eo) ?_;rintro _ aM ⟨rfl,ag⟩;rename_i ays;have bG:=ag.cell c1;have bC:=ag.cell Aq;have he:=ai.trans ag;refine aX ?_;refine M_ bG ?_;have dd:¬(o.there x.scalar s=false\/o.there x.over s=false):=by simp[h1,J]
 refine aX ?_;refine I_ (λab=>?_) (λab=>?_)
 .refine aX ?_;have q0:o.bounds x s=(x.aV,x.U):=by simp[o.bounds,ab]
  rw[q0];refine J_ (adv x.aV x.U aM) ?_;rintro _ _ ⟨rfl,rfl⟩;refine aX ?_;refine N_ (λaF=>?_) (λaF=>?_);rotate_left
  .refine aX ?_;rw[if_neg dd,if_pos (.inl ⟨ab,aF⟩)];exact⟨rfl,he⟩
  refine aX ?_;refine M_ bC ?_;refine aX ?_;refine I_ (λa7=>?_) (λa7=>?_)
  .refine aX ?_;rw[if_neg dd,if_pos (.inr (.inl a7))];exact⟨rfl,he⟩
  refine aX ?_;refine M_ bC ?_;refine aX ?_;refine I_ (λbJ=>?_) (λbJ=>?_)
  .refine aX ?_;rw[if_neg dd,if_pos (.inr (.inr bJ))];exact⟨rfl,he⟩
  .refine aX ?_;rw[if_neg dd,if_neg (by rw[aF];simp;omega)];exact⟨rfl,he⟩
 .refine aX ?_;refine M_ bC ?_;refine aX ?_;refine I_ (λa7=>?_) (λa7=>?_)
  .refine aX ?_;rw[if_neg dd,if_pos (.inr (.inl a7))];exact⟨rfl,he⟩
  refine aX ?_;refine M_ bC ?_;refine aX ?_;refine I_ (λbJ=>?_) (λbJ=>?_)
  .refine aX ?_;rw[if_neg dd,if_pos (.inr (.inr bJ))];exact⟨rfl,he⟩
  .refine aX ?_;rw[if_neg dd,if_neg (by simp[ab];omega)];exact⟨rfl,he⟩
def afQ(v v2:B_)(l:C_ o.Var)(s:C_ o.Scalar)(fY:Int)(w:A_)(aS:gQ w)(aE:h8 w v l)(aj:iz w v2 s) :
  Ei F.Jl #[v,v2,.I fY] w λv w'=>v = .tuple #[.I (o.vars l s fY).1,.I (o.vars l s fY).2]/\Ext w w':=by
 obtain⟨aN,cap,rfl,hlen⟩:=aE.form;obtain⟨ph,Ar,rfl,GD⟩:=aj.form;refine bk E.Jl ?_;refine aX ?_;refine O_ λw1 b ak af al=>?_;refine aX ?_;refine O_ λaz bP c8 ai ao=>?_;have he:=af.trans ai;have mZ:=bm.ext rL.ext he aE;have fo:=bm.ext kt.ext he aj;have d1:az.cell? ⟨b,0,none⟩=some (.slice aN l.length cap):=CD (ai.obj al) rfl;have d2:az.cell? ⟨bP,0,none⟩=some (.slice ph s.length Ar):=CD ao rfl;refine aX ?_;refine M_ d1 ?_;refine aX ?_;refine J_ (Te l.length (max fY 0) Aw (o.nameAt (·.name) l) (qE l s) F.x F.y [_] [_,_] Cx Cx az (aS.ext he)
  (λi U=>by rw[tc _ _ _ Aw];obtain⟨a,rfl⟩:=aE.addr;exact(aE.at i Aw).ok)
  (λi w' U he=>auN i b _ l w' (bm.ext rL.ext he mZ) (he.cell d1) Aw)
  (λi w' U he=>auO i b bP _ _ l s w' (bm.ext rL.ext he mZ) (bm.ext kt.ext he fo) (he.cell d1) (he.cell d2) Aw)) ?_
 rintro _ aM ⟨rfl,ag⟩;refine aX ?_;exact⟨rfl,he.trans ag⟩
def ait(i:Nat)(b:Nat)(v:B_)(l:C_ ea)(w:A_)(aE:nv w v l)(ak:w.cell? ⟨b,0,none⟩=some v)(U:i<l.length) :
  Ei F.a9 #[.I i,.pointer (some ⟨b,0,none⟩)] w λv w'=>v = .string (o.nameAt (·.name) l i)/\Ext w w':=by
 obtain⟨aN,cap,rfl,hlen⟩:=aE.form;refine bk E.a9 ?_;refine aX ?_;refine M_ ak ?_;refine aX ?_;obtain⟨a,rfl⟩:=aE.addr;have an:=(aE.at i U).cells 0 _ rfl;refine K_ i rfl U ?_;refine aX ?_;refine M_ an ?_;refine aX ?_;rw[tc _ _ _ U];exact⟨rfl,Ext.refl w⟩
def aiu(i:Nat)(b bP:Nat)(v v2:B_)(l:C_ ea)(s:C_ o.Scalar)(w:A_)(aE:nv w v l)(aj:iz w v2 s)(ak:w.cell? ⟨b,0,none⟩=some v)(c8:w.cell? ⟨bP,0,none⟩=some v2)
  (U:i<l.length):Ei F.gM #[.I i,.pointer (some ⟨b,0,none⟩),.pointer (some ⟨bP,0,none⟩)] w λv w'=>v = .I (qd l s i)/\Ext w w':=by
 obtain⟨aN,cap,rfl,hlen⟩:=aE.form;obtain⟨ph,Ar,rfl,GD⟩:=aj.form;refine bk E.gM ?_;refine aX ?_;refine M_ ak ?_;refine aX ?_;obtain⟨a,rfl⟩:=aE.addr;have an:=(aE.at i U).cells;have aT:qd l s i=if o.there l[i].scalar s=false then 8
  else if l[i].cap<1\/l[i].cap > 4\/(l[i].scalar=0/\o.narrow l[i].aV l[i].U=false) then 10 else 0:=by simp[qd,U]
 rw[aT];clear aT;generalize l[i]=x at an;refine K_ i rfl U ?_;refine aX ?_;refine Z_ an rfl ?_;refine aX ?_;refine O_ λw1 q av af al=>?_;refine aX ?_;refine U_ al rfl rfl (by simp[ea.enc,Value.oneCell']) λaz hw ao=>?_;have ai:Ext w az:=hw.ext af av;clear hw al af w1;have c1:az.cell? (Addr.add ⟨q,0,none⟩ 1)=some (.I x.scalar):=fP ao rfl;have c2:az.cell? (Addr.add ⟨q,0,none⟩ 2)=some (.I x.cap):=fP ao rfl;have bw:az.cell? (Addr.add ⟨q,0,none⟩ 3)=some (.I x.aV):=fP ao rfl;have bD:az.cell? (Addr.add ⟨q,0,none⟩ 4)=some (.I x.U):=fP ao rfl;have d2:=ai.cell c8;have eo:=bm.ext kt.ext ai aj;refine aX ?_;refine M_ c1 ?_;refine aX ?_;refine M_ d2 ?_;refine aX ?_;refine J_ (UC x.scalar _ s az eo) ?_;rintro _ _ ⟨rfl,rfl⟩;refine aX ?_;refine N_ (λh1=>?_) (λh1=>?_);rotate_left
 .refine aX ?_;simp only[h1,if_true];exact⟨trivial,ai⟩
 have dd:¬(o.there x.scalar s=false):=by simp[h1]
 refine aX ?_;refine M_ c2 ?_;refine aX ?_;refine I_ (λJ=>?_) (λJ=>?_)
 .refine aX ?_;rw[if_neg dd,if_pos (.inl J)];exact⟨rfl,ai⟩
 refine aX ?_;refine M_ c2 ?_;refine aX ?_;refine I_ (λab=>?_) (λab=>?_)
 .refine aX ?_;rw[if_neg dd,if_pos (.inr (.inl ab))];exact⟨rfl,ai⟩
 refine aX ?_;refine M_ c1 ?_;refine aX ?_;refine I_ (λaF=>?_) (λaF=>?_)
 .refine aX ?_;refine M_ bw ?_;refine aX ?_;refine M_ bD ?_;refine aX ?_;refine J_ (adv x.aV x.U _) ?_;rintro _ _ ⟨rfl,rfl⟩;refine aX ?_;refine N_ (λa7=>?_) (λa7=>?_)
  .refine aX ?_;rw[if_neg dd,if_neg (by rw[a7];simp;omega)];exact⟨rfl,ai⟩
  .refine aX ?_;rw[if_neg dd,if_pos (.inr (.inr ⟨aF,a7⟩))];exact⟨rfl,ai⟩
 .refine aX ?_;rw[if_neg dd,if_neg (by simp[aF];omega)];exact⟨rfl,ai⟩
def aiw(v v2:B_)(l:C_ ea)(s:C_ o.Scalar)(w:A_)(aS:gQ w)(aE:nv w v l)(aj:iz w v2 s) :
  Ei F.Jm #[v,v2] w λv w'=>v = .tuple #[.I (aA l s).1,.I (aA l s).2]/\Ext w w':=by
 obtain⟨aN,cap,rfl,hlen⟩:=aE.form;obtain⟨ph,Ar,rfl,GD⟩:=aj.form;refine bk E.Jm ?_;refine aX ?_;refine O_ λw1 b ak af al=>?_;refine aX ?_;refine O_ λaz bP c8 ai ao=>?_;have he:=af.trans ai;have mZ:=bm.ext rK.ext he aE;have fo:=bm.ext kt.ext he aj;have d1:az.cell? ⟨b,0,none⟩=some (.slice aN l.length cap):=CD (ai.obj al) rfl;have d2:az.cell? ⟨bP,0,none⟩=some (.slice ph s.length Ar):=CD ao rfl;refine aX ?_;refine M_ d1 ?_;refine aX ?_;refine J_ (Te l.length 4 Aw (o.nameAt (·.name) l) (qd l s) F.a9 F.gM [_] [_,_] Cx Cx az (aS.ext he)
  (λi U=>by rw[tc _ _ _ Aw];obtain⟨a,rfl⟩:=aE.addr;exact(aE.at i Aw).ok)
  (λi w' U he=>ait i b _ l w' (bm.ext rK.ext he mZ) (he.cell d1) Aw)
  (λi w' U he=>aiu i b bP _ _ l s w' (bm.ext rK.ext he mZ) (bm.ext kt.ext he fo) (he.cell d1) (he.cell d2) Aw)) ?_
 rintro _ aM ⟨rfl,ag⟩;refine aX ?_;exact⟨rfl,he.trans ag⟩
def D6(k:Int)(v:B_)(l:C_ o.Scalar)(w:A_)(aE:iz w v l) :
  Ei F.Hh #[v,.I k] w λv w'=>v = .I (o.size k l)/\w'=w:=by
 obtain⟨aN,cap,rfl,hlen⟩:=aE.form;refine bk E.Hh ?_;refine aX ?_;refine I_ (λh1=>?_) (λh1=>?_)
 .refine aX ?_;rw[Nq (.inl h1)];exact⟨rfl,trivial⟩
 refine aX ?_;refine I_ (λJ=>?_) (λJ=>?_)
 .refine aX ?_;rw[Nq (.inr J)];exact⟨rfl,trivial⟩
 obtain⟨a,rfl⟩:=aE.addr;have an:=(aE.at (k.toNat - 1) Aw).cells 1 _ rfl;have hk:(k - 1).toNat*2=(k.toNat - 1)*2:=Aw
 rw[aff Aw Aw];rw[<-hk] at an;generalize l[k.toNat - 1].size=z at an
 (repeat' first
  | (refine I_ (λ_=>?_) (λ_=>?_)<;>try (exfalso;omega))
  | (refine N_ (λ_=>?_) (λ_=>?_))
  | (refine Q_ Aw ?_)
  | (refine M_ CV ?_)
  | (refine _Y Aw ?_)
  | simp -dsimp only[dg,cK,Nat.reduceAdd,Nat.reduceEqDiff,reduceIte,reduceCtorEq,dq])
 .rw[if_neg Aw];exact⟨rfl,trivial⟩
 .rw[if_neg Aw];exact⟨rfl,trivial⟩
 .rw[if_pos Aw];exact⟨rfl,trivial⟩
def TX(x:o.Var)(v:B_)(l:C_ o.Scalar)(w:A_)(aE:iz w v l) :
  Ei F.LD #[.agg x.enc.toArray,v] w λv w'=>v = .tuple #[.I (o.bounds x l).1,.I (o.bounds x l).2]/\Ext w w':=by
 obtain⟨aN,cap,rfl,hlen⟩:=aE.form;refine bk E.LD ?_;refine aX ?_;refine O_ λw1 b ak af al=>?_;have c1:w1.cell? (Addr.add ⟨b,0,none⟩ 1)=some (.I x.scalar):=fP al rfl;have bw:w1.cell? (Addr.add ⟨b,0,none⟩ 3)=some (.I x.aV):=fP al rfl;have bD:w1.cell? (Addr.add ⟨b,0,none⟩ 4)=some (.I x.U):=fP al rfl;refine aX ?_;refine M_ c1 ?_;refine aX ?_;refine I_ (λh1=>?_) (λh1=>?_)
 .refine aX ?_;refine M_ bw ?_;refine aX ?_;refine M_ bD ?_;refine aX ?_;intro az ai;simp only[o.bounds,h1,if_true];exact⟨trivial,af.trans ai⟩
 .refine aX ?_;refine M_ c1 ?_;refine aX ?_;refine J_ (D6 x.scalar _ l w1 (bm.ext kt.ext af aE)) ?_;rintro _ _ ⟨rfl,rfl⟩;refine aX ?_;simp only[o.bounds,h1,if_false];exact⟨trivial,af⟩
def Ni(x:o.Var)(v:B_)(l:C_ o.Scalar)(w:A_)(aE:iz w v l) :
  Ei F.LF #[.agg x.enc.toArray,v] w λv w'=>v = .I (o.cells x l)/\Ext w w':=by
 obtain⟨aN,cap,rfl,hlen⟩:=aE.form;refine bk E.LF ?_;refine aX ?_;refine O_ λw1 b ak af al=>?_;have c2:w1.cell? (Addr.add ⟨b,0,none⟩ 2)=some (.I x.over):=fP al rfl;refine aX ?_;refine M_ c2 ?_;refine aX ?_;refine I_ (λh1=>?_) (λh1=>?_)
 .refine aX ?_;simp only[o.cells,h1,if_true];exact⟨trivial,af⟩
 .refine aX ?_;refine M_ c2 ?_;refine aX ?_;refine J_ (D6 x.over _ l w1 (bm.ext kt.ext af aE)) ?_;rintro _ _ ⟨rfl,rfl⟩;refine aX ?_;simp only[o.cells,h1,if_false];exact⟨trivial,af⟩
def aeF(n:Int)(w:A_):Ei F.DR #[.int .u8 n] w λv w'=>v = .bool (o.letter n)/\w'=w:=by
 refine bk E.DR ?_
 (repeat' first
  | (refine I_ (λ_=>?_) (λ_=>?_)<;>try (exfalso;omega))
  | (refine N_ (λ_=>?_) (λ_=>?_))
  | (refine Q_ Aw ?_)
  | (refine M_ CV ?_)
  | (refine _Y Aw ?_)
  | simp -dsimp only[dg,cK,Nat.reduceAdd,Nat.reduceEqDiff,reduceIte,reduceCtorEq,dq])
 all_goals (refine⟨?_,by first | rfl | trivial⟩;congr 1;rw[AG4];simp[o.letter];omega)
def TV(n:Int)(w:A_):Ei F.BA #[.int .u8 n] w λv w'=>v = .bool (o.digit n)/\w'=w:=by
 refine bk E.BA ?_
 (repeat' first
  | (refine I_ (λ_=>?_) (λ_=>?_)<;>try (exfalso;omega))
  | (refine N_ (λ_=>?_) (λ_=>?_))
  | (refine Q_ Aw ?_)
  | (refine M_ CV ?_)
  | (refine _Y Aw ?_)
  | simp -dsimp only[dg,cK,Nat.reduceAdd,Nat.reduceEqDiff,reduceIte,reduceCtorEq,dq])
 all_goals (refine⟨?_,by first | rfl | trivial⟩;congr 1;rw[AG4];simp[o.digit];omega)
def x1:C_ ByteArray:=[⟨#[58,61]⟩,⟨#[61,61]⟩,⟨#[33,61]⟩,⟨#[60,61]⟩,⟨#[45,62]⟩,⟨#[38,38]⟩,⟨#[124,124]⟩,⟨#[61,62]⟩,⟨#[40]⟩,⟨#[41]⟩,⟨#[91]⟩,⟨#[93]⟩,⟨#[123]⟩,⟨#[125]⟩,⟨#[59]⟩,⟨#[44]⟩,⟨#[58]⟩,⟨#[46]⟩,⟨#[60]⟩,⟨#[43]⟩,⟨#[45]⟩,⟨#[42]⟩,⟨#[33]⟩,⟨#[63]⟩,⟨#[64]⟩]
def atC(w:A_):Ei F.Lo #[] w λv w'=>(∃b,v = .slice (some ⟨b,0,none⟩) 25 25/\ff w' ⟨b,0,none⟩ (x1.map Value.string))/\Ext w w':=by
 refine bk E.Lo ?_;refine aX ?_;refine _D (cs:=x1.map Value.string) (by simp[List.range,List.range.loop,gG,lay,dc,oY,bE,Value.cells,x1]) λw1 bx cN af al=>?_;refine aX ?_;exact⟨⟨bx,rfl,hK al⟩,af⟩
def aho(s:ByteArray)(w:A_)(h:0<s.size)(aj:s.size<=16) :
  Ei F.Ln #[.string s,.I 0] w λv w'=>(∃n k:Int,v = .tuple #[.I n,.I k]/\if o.letter (tH s 0:Nat)=true then n=o.run o.part s/\k=1 else k≠1)/\Ext w w':=by
 refine bk E.Ln ?_;refine aX ?_;refine _Z (s.get! 0) BS (o.get?_eq s 0 h) ?_;refine aX ?_;refine J_ (aeF _ w) ?_;rintro _ w ⟨rfl,rfl⟩;refine aX ?_;refine N_ (λh1=>?_) (λh1=>?_)
 .have rW:o.letter (tH s 0:Nat)=true:=h1;refine aX ?_;refine _A (λS w' => ∃i:Nat,i<=s.size/\S 6 = .I i/\(∀j (ay:j<s.size),j<i->o.part s[j].toNat=true)/\w'=w)
   (λS _=>(s.size - intOf (S 6)).toNat) ⟨0,Aw,by refine aX ?_;rfl,λ_ _ h=>absurd h (E3 _),rfl⟩ ?_
  rintro S w b7 ⟨i,U,bJ,dx,rfl⟩;have ad:=b7 0 rfl;have h1:=b7 1 rfl;simp only[bE,Nat.reduceAdd,Nat.reduceEqDiff,reduceIte,kx,oe] at ad h1;clear b7;refine ch (i_ ad (i_ h1 bJ)) ?_;refine I_ (λJ=>?_) (λJ=>?_)
  .have cw:i<s.size:=Aw
   refine ch (i_ ad (i_ h1 bJ)) ?_;refine _Z (s.get! i) Aw (o.get?_eq s i cw) ?_;rw[o.get_eq s i cw];refine ch (i_ ad (i_ h1 bJ)) ?_;refine J_ (aeF _ _) ?_;rintro _ w ⟨rfl,rfl⟩;refine ch (i_ ad (i_ h1 bJ)) ?_;refine N_ (λab=>?_) (λab=>?_)
   .refine ch (i_ ad (i_ h1 bJ)) ?_;refine Q_ Aw ?_;refine ch (i_ ad (i_ h1 bJ)) ?_;refine⟨⟨i+1,Aw,rfl,λj ay hy=>?_,trivial⟩,by simp[intOf];omega⟩;by_cases nH:j<i
    .exact dx j ay nH
    .have:j=i:=Aw
     subst this;simp[o.part,ab]
   refine ch (i_ ad (i_ h1 bJ)) ?_;refine _Z (s.get! i) Aw (o.get?_eq s i cw) ?_;rw[o.get_eq s i cw];refine ch (i_ ad (i_ h1 bJ)) ?_;refine J_ (TV _ _) ?_;rintro _ w ⟨rfl,rfl⟩;refine ch (i_ ad (i_ h1 bJ)) ?_;refine N_ (λaF=>?_) (λaF=>?_)
   .refine ch (i_ ad (i_ h1 bJ)) ?_;refine Q_ Aw ?_;refine ch (i_ ad (i_ h1 bJ)) ?_;refine⟨⟨i+1,Aw,rfl,λj ay hy=>?_,trivial⟩,by simp[intOf];omega⟩;by_cases nH:j<i
    .exact dx j ay nH
    .have:j=i:=Aw
     subst this;simp[o.part,aF]
   refine ch (i_ ad (i_ h1 bJ)) ?_;refine _Z (s.get! i) Aw (o.get?_eq s i cw) ?_;rw[o.get_eq s i cw];refine ch (i_ ad (i_ h1 bJ)) ?_;refine I_ (λa7=>?_) (λa7=>?_)
   .refine ch (i_ ad (i_ h1 bJ)) ?_;refine Q_ Aw ?_;refine ch (i_ ad (i_ h1 bJ)) ?_;refine⟨⟨i+1,Aw,rfl,λj ay hy=>?_,trivial⟩,by simp[intOf];omega⟩;by_cases nH:j<i
    .exact dx j ay nH
    .have:j=i:=Aw
     subst this;simp[o.part];omega
   .refine ch (i_ ad (i_ h1 bJ)) ?_;refine Q_ Aw ?_;refine ch (i_ ad (i_ h1 bJ)) ?_;refine⟨⟨_,_,rfl,?_⟩,Ext.refl _⟩;rw[if_pos rW];rw[aeZ o.part s i cw (λj ay=>dx j Aw ay) (by simp only[o.part,ab,aF,Bool.false_or,decide_eq_false_iff_not];omega)];exact⟨Aw,rfl⟩
  .refine ch (i_ ad (i_ h1 bJ)) ?_;refine Q_ Aw ?_;refine ch (i_ ad (i_ h1 bJ)) ?_;refine⟨⟨_,_,rfl,?_⟩,Ext.refl _⟩;rw[if_pos rW];rw[aeR o.part s (λj ay=>dx j ay Aw)];exact⟨Aw,rfl⟩
 have rW:o.letter (tH s 0:Nat)=false:=h1;have ey:¬o.letter (tH s 0:Nat)=true:=by simp[rW]
 refine aX ?_;refine _Z (s.get! 0) BS (o.get?_eq s 0 h) ?_;refine aX ?_;refine J_ (TV _ w) ?_;rintro _ w ⟨rfl,rfl⟩;refine aX ?_;refine N_ (λJ=>?_) (λJ=>?_)
 .refine aX ?_;refine _A (λS w' => ∃i:Nat,i<=s.size/\S 6 = .I i/\w'=w)
   (λS _=>(s.size - intOf (S 6)).toNat) ⟨0,Aw,by refine aX ?_;rfl,rfl⟩ ?_
  rintro S w b7 ⟨i,U,bJ,rfl⟩;have ad:=b7 0 rfl;have h1:=b7 1 rfl;simp only[bE,Nat.reduceAdd,Nat.reduceEqDiff,reduceIte,kx,oe] at ad h1;clear b7;refine ch (i_ ad (i_ h1 bJ)) ?_;refine I_ (λJ=>?_) (λJ=>?_)
  .have cw:i<s.size:=Aw
   refine ch (i_ ad (i_ h1 bJ)) ?_;refine _Z (s.get! i) Aw (o.get?_eq s i cw) ?_;refine ch (i_ ad (i_ h1 bJ)) ?_;refine J_ (TV _ _) ?_;rintro _ w ⟨rfl,rfl⟩;refine ch (i_ ad (i_ h1 bJ)) ?_;refine N_ (λaF=>?_) (λaF=>?_)
   .refine ch (i_ ad (i_ h1 bJ)) ?_;refine Q_ Aw ?_;refine ch (i_ ad (i_ h1 bJ)) ?_;exact⟨⟨i+1,Aw,rfl,trivial⟩,by simp[intOf];omega⟩
   .refine ch (i_ ad (i_ h1 bJ)) ?_;refine Q_ Aw ?_;refine ch (i_ ad (i_ h1 bJ)) ?_;exact⟨⟨_,_,rfl,by rw[if_neg ey];decide⟩,Ext.refl _⟩
  .refine ch (i_ ad (i_ h1 bJ)) ?_;refine Q_ Aw ?_;refine ch (i_ ad (i_ h1 bJ)) ?_;exact⟨⟨_,_,rfl,by rw[if_neg ey];decide⟩,Ext.refl _⟩
 refine aX ?_;refine J_ (atC w) ?_;rintro _ w1 ⟨⟨b,rfl,an⟩,he⟩;refine aX ?_;refine _A (λS w' => ∃i:Nat,i<=25/\S 8 = .I i/\Ext w1 w')
  (λS _=>(25 - intOf (S 8)).toNat) ⟨0,Aw,by refine aX ?_;rfl,Ext.refl _⟩ ?_
 rintro S w' b7 ⟨i,U,dr,ai⟩;have ad:=b7 0 rfl;have h1:=b7 1 rfl;have ct:=b7 7 rfl;simp only[bE,Nat.reduceAdd,Nat.reduceEqDiff,reduceIte,kx,oe] at ad h1 ct;clear b7;refine ch (i_ ad (i_ h1 (i_ ct dr))) ?_;refine I_ (λJ=>?_) (λJ=>?_)
 .have cw:i<x1.length:=by simp[x1];omega
  have gI:w'.cell? (Addr.add ⟨b,0,none⟩ (i*1))=some (.string x1[i]):=by
   rw[AG2];exact an.ext ai i _ (by rw[List.getElem?_map,List.getElem?_eq_getElem cw];rfl)
  have bB:x1[i].size<=2:=by
   have:∀x∈x1,x.size<=2:=BS
   exact this _ (E2 _)
  generalize x1[i]=x at gI bB;refine ch (i_ ad (i_ h1 (i_ ct dr))) ?_;refine Q_ Aw ?_;refine ch (i_ ad (i_ h1 (i_ ct dr))) ?_;refine K_ i rfl Aw ?_;refine ch (i_ ad (i_ h1 (i_ ct dr))) ?_;refine M_ gI ?_;refine ch (i_ ad (i_ h1 (i_ ct dr))) ?_;refine I_ (λab=>?_) (λab=>?_)
  .refine ch (i_ ad (i_ h1 (i_ ct dr))) ?_;refine K_ i rfl Aw ?_;refine ch (i_ ad (i_ h1 (i_ ct dr))) ?_;refine M_ gI ?_;refine ch (i_ ad (i_ h1 (i_ ct dr))) ?_;refine Q_ Aw ?_;refine ch (i_ ad (i_ h1 (i_ ct dr))) ?_;refine AA9 0 x.size (by simp[eP,dc,bE,h1]) (by simp[eP,dc,bE,h1]) Aw ?_;refine ch (i_ ad (i_ h1 (i_ ct dr))) ?_;refine K_ i rfl Aw ?_;refine ch (i_ ad (i_ h1 (i_ ct dr))) ?_;refine M_ gI ?_;refine ch (i_ ad (i_ h1 (i_ ct dr))) ?_;intro az ag;refine I_ (λaF=>?_) (λaF=>?_)
   .refine ch (i_ ad (i_ h1 (i_ ct dr))) ?_;refine K_ i rfl Aw ?_;refine ch (i_ ad (i_ h1 (i_ ct dr))) ?_;refine M_ (ag.cell gI) ?_;refine ch (i_ ad (i_ h1 (i_ ct dr))) ?_;exact⟨⟨_,_,rfl,by rw[if_neg ey];decide⟩,he.trans (ai.trans ag)⟩
   .refine ch (i_ ad (i_ h1 (i_ ct dr))) ?_;refine Q_ Aw ?_;refine ch (i_ ad (i_ h1 (i_ ct dr))) ?_;exact⟨⟨i+1,Aw,rfl,ai.trans ag⟩,by simp[intOf];omega⟩
  .refine ch (i_ ad (i_ h1 (i_ ct dr))) ?_;intro az ag;refine Q_ Aw ?_;refine ch (i_ ad (i_ h1 (i_ ct dr))) ?_;exact⟨⟨i+1,Aw,rfl,ai.trans ag⟩,by simp[intOf];omega⟩
 .refine ch (i_ ad (i_ h1 (i_ ct dr))) ?_;exact⟨⟨_,_,rfl,by rw[if_neg ey];decide⟩,he.trans ai⟩
def Ea(s:ByteArray)(w:A_)(aj:s.size<=9223372036854775807):Ei F.Lm #[.string s] w λv w'=>v = .bool (o.isName s)/\Ext w w':=by
 refine bk E.Lm ?_;refine aX ?_;refine I_ (λad=>?_) (λad=>?_)
 .refine aX ?_;refine⟨?_,Ext.refl w⟩;subst ad;rfl
 have bB:s.size≠0:=λh=>ad (by
  cases s with | mk d =>
  have:d=#[]:=by simpa[ByteArray.size] using h
  rw[this])
 refine aX ?_;refine I_ (λh1=>?_) (λh1=>?_)
 .refine aX ?_;refine⟨?_,Ext.refl w⟩
  have:¬s.size<=16:=Aw
  simp[o.isName,this]
 have rW:s.size<=16:=Aw
 refine aX ?_;refine I_ (λJ=>?_) (λJ=>?_)
 .refine aX ?_;exact⟨by subst J;exact congrArg Value.bool (by decide +kernel),Ext.refl w⟩
 refine aX ?_;refine I_ (λab=>?_) (λab=>?_)
 .refine aX ?_;exact⟨by subst ab;exact congrArg Value.bool (by decide +kernel),Ext.refl w⟩
 refine aX ?_;refine I_ (λaF=>?_) (λaF=>?_)
 .refine aX ?_;exact⟨by subst aF;exact congrArg Value.bool (by decide +kernel),Ext.refl w⟩
 refine aX ?_;refine I_ (λa7=>?_) (λa7=>?_)
 .refine aX ?_;exact⟨by subst a7;exact congrArg Value.bool (by decide +kernel),Ext.refl w⟩
 have hm:s∉sc:=by simp[sc,J,ab,aF,a7]
 refine aX ?_;refine J_ (aho s w Aw rW) ?_;rintro _ w1 ⟨⟨n,k,rfl,nb⟩,he⟩;refine aX ?_;refine I_ (λbJ=>?_) (λbJ=>?_)
 .refine aX ?_;refine⟨?_,he⟩;have aE:o.letter (tH s 0:Nat)=true:=by
   by_cases ah:o.letter (tH s 0:Nat)=true
   .exact ah
   .rw[if_neg ah] at nb;exact absurd bJ nb
  rw[if_pos aE] at nb;congr 1;simp[o.isName,aE,bB,rW,hm,nb.1];omega
 .refine aX ?_;refine⟨?_,he⟩;have aE:o.letter (tH s 0:Nat)=false:=by
   by_cases ah:o.letter (tH s 0:Nat)=true
   .rw[if_pos ah] at nb;exact absurd nb.2 bJ
   .simpa using ah
  simp[o.isName,aE]
def AD{fY:Int}{gp:Nat->ByteArray}{mo:Nat->Int}{i:Nat}(h:fY<=i):o.err fY gp mo i=11:=by rw[o.err,if_pos h]
def CP{fY:Int}{gp:Nat->ByteArray}{mo:Nat->Int}{i:Nat}(h:¬fY<=i)(J:o.isName (gp i)=false):o.err fY gp mo i=6:=by rw[o.err,if_neg h,if_pos J]
def P1{fY:Int}{gp:Nat->ByteArray}{mo:Nat->Int}{i j:Nat}(h:¬fY<=i)(J:o.isName (gp i)=true)(ay:j<i)(he:gp j=gp i):o.err fY gp mo i=7:=by
 rw[o.err,if_neg h,if_neg (by simp[J]),if_pos ⟨j,ay,he⟩]
def P0{fY:Int}{gp:Nat->ByteArray}{mo:Nat->Int}{i:Nat}(h:¬fY<=i)(J:o.isName (gp i)=true)(ay:∀j,j<i->gp j≠gp i):o.err fY gp mo i=mo i:=by
 rw[o.err,if_neg h,if_neg (by simp[J]),if_neg (λ⟨j,h1,J⟩=>ay j h1 J)]
def adl{fY:Int}{gp:Nat->ByteArray}{mo:Nat->Int}{i:Nat}(hm:0<=fY)(h:∀j,j<i->o.err fY gp mo j=0):(i:Int)<=fY:=by
 by_cases ah:(i:Int)<=fY
 .exact ah
 .have:=h fY.toNat Aw
  rw[AD Aw] at this;cases this
def asK(v:B_)(l:C_ o.Scalar)(w:A_)(aE:iz w v l) :
  Ei F.LH #[v] w λv w'=>v = .tuple #[.I (o.scalars l).1,.I (o.scalars l).2]/\Ext w w':=by
 obtain⟨aN,cap,rfl,hlen⟩:=aE.form;refine bk E.LH ?_;simp -dsimp only[dg,cK,Nat.reduceAdd,Nat.reduceEqDiff,reduceIte,reduceCtorEq,dq];refine _A (λS w' => ∃i:Nat,i<=l.length/\S 4 = .I i/\(∀j,j<i->o.err 2 (o.nameAt (·.name) l) (vX l) j=0)/\Ext w w')
  (λS _=>(l.length - intOf (S 4)).toNat) ⟨0,Aw,by simp -dsimp only[dg,cK,Nat.reduceAdd,Nat.reduceEqDiff,reduceIte,reduceCtorEq,dq];rfl,λ_ h=>absurd h (E3 _),Ext.refl _⟩ ?_
 rintro S w' b7 ⟨i,U,aF,dx,he⟩;have ad:=b7 0 rfl;simp only[bE,Nat.reduceAdd,Nat.reduceEqDiff,reduceIte,kx,oe] at ad;clear b7;have l0:=adl Aw dx;refine ch (i_ ad aF) ?_;apply I_<;>intro g1;rotate_left
 .refine ch (i_ ad aF) ?_;rw[o.scalars,qf (λj ay=>dx j Aw)];exact⟨rfl,he⟩
 have cw:i<l.length:=Aw
 obtain⟨a,rfl⟩:=aE.addr;have ig:=bm.ext kt.ext he aE;have tU:=(ig.at i cw).cells 0 _ rfl;have al:=(ig.at i cw).cells 1 _ rfl;have c9:jV l[i].name:=(ig.at i cw).ok;have gm:o.nameAt (λx:o.Scalar=>x.name) l i=l[i].name:=tc _ _ _ cw;refine ch (i_ ad aF) ?_;apply I_<;>intro g2
 .refine ch (i_ ad aF) ?_;rw[o.scalars,jM cw dx (by rw[AD Aw];decide),AD Aw];exact⟨rfl,he⟩
 have hm:¬(2:Int)<=(i:Int):=Aw
 refine ch (i_ ad aF) ?_;refine K_ i rfl cw ?_;refine ch (i_ ad aF) ?_;refine M_ tU ?_;refine ch (i_ ad aF) ?_;refine J_ (Ea _ _ c9) ?_;rintro _ az ⟨rfl,ai⟩;refine ch (i_ ad aF) ?_;refine N_ (λg3=>?_) (λg3=>?_);rotate_left
 .refine ch (i_ ad aF) ?_;rw[<-gm] at g3;rw[o.scalars,jM cw dx (by rw[CP hm g3];decide),CP hm g3];exact⟨rfl,he.trans ai⟩
 have rV:=g3;rw[<-gm] at rV;replace ai:=he.trans ai;clear he ig;refine ch (i_ ad aF) ?_;refine _A (λaZ w' => ∃k:Nat,k<=i/\aZ 5 = .I k/\(∀j,j<k->o.nameAt (λx:o.Scalar=>x.name) l j≠o.nameAt (λx:o.Scalar=>x.name) l i)/\Ext w w')
  (λS _=>(i - intOf (S 5)).toNat) ⟨0,Aw,by simp -dsimp only[dg,cK,Nat.reduceAdd,Nat.reduceEqDiff,reduceIte,reduceCtorEq,dq];rfl,λ_ h=>absurd h (E3 _),ai⟩ ?_
 rintro j3 aM lf ⟨k,hk,a7,cv,ag⟩;have bZ:=ad;have b1:=aF;have ad:=lf 0 rfl;have aF:=lf 4 rfl;simp only[bE,Nat.reduceAdd,Nat.reduceEqDiff,reduceIte,kx,oe] at ad aF;clear lf;rw[bZ] at ad;rw[b1] at aF;have ig:=bm.ext kt.ext ag aE;have tU:=(ig.at i cw).cells 0 _ rfl;have al:=(ig.at i cw).cells 1 _ rfl;refine ch (i_ ad (i_ aF a7)) ?_;apply I_<;>intro g4
 .have a1:k<l.length:=Aw
  have mw:=(ig.at k a1).cells 0 _ rfl;have nb:o.nameAt (λx:o.Scalar=>x.name) l k=l[k].name:=tc _ _ _ a1;refine ch (i_ ad (i_ aF a7)) ?_;refine K_ k rfl a1 ?_;refine ch (i_ ad (i_ aF a7)) ?_;refine M_ mw ?_;refine ch (i_ ad (i_ aF a7)) ?_;refine K_ i rfl cw ?_;refine ch (i_ ad (i_ aF a7)) ?_;refine M_ tU ?_;refine ch (i_ ad (i_ aF a7)) ?_;intro aR aq;apply I_<;>intro g5
  .refine ch (i_ ad (i_ aF a7)) ?_;have aB:=P1 (mo:=vX l) hm rV (show k<i by omega) (by rw[nb,gm];exact g5);rw[o.scalars,jM cw dx (by rw[aB];decide),aB];exact⟨rfl,ag.trans aq⟩
  .refine ch (i_ ad (i_ aF a7)) ?_;refine Q_ Aw ?_;refine ch (i_ ad (i_ aF a7)) ?_;refine⟨⟨k+1,Aw,rfl,λj ay=>?_,ag.trans aq⟩,by simp[intOf];omega⟩;by_cases hj:j<k
   .exact cv j hj
   .have:j=k:=Aw
    subst this;rw[nb,gm];exact g5
 have hL:=P0 (mo:=vX l) hm rV (λj ay=>cv j Aw);have uj:vX l i=if 1<=l[i].size/\l[i].size<=4 then 0 else 10:=by simp[vX,cw]
 rw[uj] at hL;generalize l[i].size=z at al hL;refine ch (i_ ad (i_ aF a7)) ?_;refine K_ i rfl cw ?_;refine ch (i_ ad (i_ aF a7)) ?_;refine M_ al ?_;refine ch (i_ ad (i_ aF a7)) ?_;apply I_<;>intro g6
 .refine ch (i_ ad (i_ aF a7)) ?_;rw[if_neg Aw] at hL;rw[o.scalars,jM cw dx (by rw[hL];decide),hL];exact⟨rfl,ag⟩
 refine ch (i_ ad (i_ aF a7)) ?_;refine K_ i rfl cw ?_;refine ch (i_ ad (i_ aF a7)) ?_;refine M_ al ?_;refine ch (i_ ad (i_ aF a7)) ?_;apply I_<;>intro g7
 .refine ch (i_ ad (i_ aF a7)) ?_;rw[if_neg Aw] at hL;rw[o.scalars,jM cw dx (by rw[hL];decide),hL];exact⟨rfl,ag⟩
 .refine ch (i_ ad (i_ aF a7)) ?_;rw[if_pos Aw] at hL;refine Q_ Aw ?_;refine ch (i_ ad (i_ aF a7)) ?_;refine⟨⟨i+1,Aw,rfl,λj ay=>?_,ag⟩,by simp[intOf,b1];omega⟩;by_cases hy:j<i
  .exact dx j hy
  .have:j=i:=Aw
   subst this;exact hL
def afo(aV U:Int)(w:A_):Ei F.Hi #[.I aV,.I U] w λv w'=>v = .bool (o.narrow aV U)/\w'=w:=by
 refine bk E.Hi ?_
 (repeat' first
  | (refine I_ (λ_=>?_) (λ_=>?_)<;>try (exfalso;omega))
  | (refine N_ (λ_=>?_) (λ_=>?_))
  | (refine Q_ Aw ?_)
  | (refine M_ CV ?_)
  | (refine _Y Aw ?_)
  | simp -dsimp only[dg,cK,Nat.reduceAdd,Nat.reduceEqDiff,reduceIte,reduceCtorEq,dq])
 all_goals (refine⟨?_,by first | rfl | trivial⟩;congr 1;rw[AG4];simp[o.narrow];omega)
def NN(v:o.Var)(s:C_ o.Scalar):Int :=
 if (v.scalar≠0/\o.size v.scalar s=0)\/(v.over≠0/\o.size v.over s=0) then 8
 else if v.scalar=0/\(o.narrow v.aV v.U=false\/v.init<v.aV\/v.init > v.U) then 10
 else if v.scalar≠0/\(v.init<0\/v.init > o.size v.scalar s) then 10 else 0
def auL(l:C_ o.Var)(s:C_ o.Scalar)(i:Nat)(h:i<l.length):qE l s i=NN l[i] s:=by
 rw[qE,List.getElem?_eq_getElem h];simp only[NN,o.there,o.bounds,decide_eq_false_iff_not];by_cases ad:l[i].scalar=0
 .simp only[ad,if_true];by_cases h1:l[i].over=0
  .simp[h1]
  .simp[h1]
 .simp only[ad,if_false];by_cases h1:l[i].over=0
  .simp[ad,h1]
  .simp[ad,h1]
def asM(x:o.Var)(v:B_)(l:C_ o.Scalar)(w:A_)(aE:iz w v l) :
  Ei F.LJ #[.agg x.enc.toArray,v] w λv w'=>v = .I (NN x l)/\Ext w w':=by
 obtain⟨aN,cap,rfl,hlen⟩:=aE.form;refine bk E.LJ ?_;simp -dsimp only[dg,cK,Nat.reduceAdd,Nat.reduceEqDiff,reduceIte,reduceCtorEq,dq];refine O_ λw1 b ak af al=>?_;have mZ:=bm.ext kt.ext af aE;have c1:w1.cell? (Addr.add ⟨b,0,none⟩ 1)=some (.I x.scalar):=fP al rfl;have c2:w1.cell? (Addr.add ⟨b,0,none⟩ 2)=some (.I x.over):=fP al rfl;have bw:w1.cell? (Addr.add ⟨b,0,none⟩ 3)=some (.I x.aV):=fP al rfl;have bD:w1.cell? (Addr.add ⟨b,0,none⟩ 4)=some (.I x.U):=fP al rfl;have Aq:w1.cell? (Addr.add ⟨b,0,none⟩ 5)=some (.I x.init):=fP al rfl;have av:∀k w',Ext w1 w'->Ei F.Hh #[.slice aN l.length cap,.I k] w' λu bO=>u = .I (o.size k l)/\Ext w' bO:=λk w' he =>
  (D6 k _ l w' (bm.ext kt.ext he mZ)).mono λv bO h=>⟨h.1,h.2 ▸ Ext.refl _⟩
 (repeat' first
  | (refine I_ (λ_=>?_) (λ_=>?_)<;>try (exfalso;omega))
  | (refine N_ (λ_=>?_) (λ_=>?_))
  | (refine M_ CV ?_)
  | (refine J_ (D6 _ _ l _ mZ) ?_;rintro _ w1 ⟨rfl,rfl⟩)
  | (refine J_ (afo _ _ _) ?_;rintro _ w1 ⟨rfl,rfl⟩)
  | (refine P_ _ (av _) ?_)
  | simp -dsimp only[dg,cK,Nat.reduceAdd,Nat.reduceEqDiff,reduceIte,reduceCtorEq,dq]
  | (intro az ai;replace ai:=af.trans ai))
 all_goals (refine⟨?_,CV⟩;congr 1;unfold NN;simp only[o.narrow,decide_eq_false_iff_not])
 all_goals (repeat' split)
 all_goals first | rfl | (exfalso;omega)
def aew(v v2:B_)(l:C_ o.Var)(s:C_ o.Scalar)(fY:Int)(w:A_)(aE:h8 w v l)(aj:iz w v2 s) :
  Ei F.LI #[v,v2,.I fY] w λv w'=>v = .tuple #[.I (o.vars l s fY).1,.I (o.vars l s fY).2]/\Ext w w':=by
 obtain⟨aN,cap,rfl,hlen⟩:=aE.form;refine bk E.LI ?_;simp -dsimp only[dg,cK,Nat.reduceAdd,Nat.reduceEqDiff,reduceIte,reduceCtorEq,dq];refine _A (λS w' => ∃i:Nat,i<=l.length/\S 8 = .I i/\(∀j,j<i->o.err (max fY 0) (o.nameAt (·.name) l) (qE l s) j=0)/\Ext w w')
  (λS _=>(l.length - intOf (S 8)).toNat) ⟨0,Aw,by simp -dsimp only[dg,cK,Nat.reduceAdd,Nat.reduceEqDiff,reduceIte,reduceCtorEq,dq];rfl,λ_ h=>absurd h (E3 _),Ext.refl _⟩ ?_
 rintro S w' b7 ⟨i,U,dr,dx,he⟩;have ad:=b7 0 rfl;have h1:=b7 1 rfl;have J:=b7 2 rfl;simp only[bE,Nat.reduceAdd,Nat.reduceEqDiff,reduceIte,kx,oe] at ad h1 J;clear b7;refine ch (i_ ad (i_ h1 (i_ J dr))) ?_;apply I_<;>intro g1;rotate_left
 .refine ch (i_ ad (i_ h1 (i_ J dr))) ?_;rw[o.vars,qf (λj ay=>dx j Aw)];exact⟨rfl,he⟩
 have cw:i<l.length:=Aw
 obtain⟨a,rfl⟩:=aE.addr;have ig:=bm.ext rL.ext he aE;have tU:=(ig.at i cw).cells 0 _ rfl;have c9:jV l[i].name:=(ig.at i cw).ok;have gm:o.nameAt (λx:o.Var=>x.name) l i=l[i].name:=tc _ _ _ cw;refine ch (i_ ad (i_ h1 (i_ J dr))) ?_;apply I_<;>intro g2
 .refine ch (i_ ad (i_ h1 (i_ J dr))) ?_;rw[o.vars,jM cw dx (by rw[AD Aw];decide),AD Aw];exact⟨rfl,he⟩
 have hm:¬(max fY 0:Int)<=(i:Int):=Aw
 refine ch (i_ ad (i_ h1 (i_ J dr))) ?_;refine K_ i rfl cw ?_;refine ch (i_ ad (i_ h1 (i_ J dr))) ?_;refine M_ tU ?_;refine ch (i_ ad (i_ h1 (i_ J dr))) ?_;refine J_ (Ea _ _ c9) ?_;rintro _ az ⟨rfl,ai⟩;refine ch (i_ ad (i_ h1 (i_ J dr))) ?_;refine N_ (λg3=>?_) (λg3=>?_);rotate_left
 .refine ch (i_ ad (i_ h1 (i_ J dr))) ?_;rw[<-gm] at g3;rw[o.vars,jM cw dx (by rw[CP hm g3];decide),CP hm g3];exact⟨rfl,he.trans ai⟩
 have rV:=g3;rw[<-gm] at rV;replace ai:=he.trans ai;clear he ig;refine ch (i_ ad (i_ h1 (i_ J dr))) ?_;refine _A (λaZ w' => ∃k:Nat,k<=i/\aZ 9 = .I k/\(∀j,j<k->o.nameAt (λx:o.Var=>x.name) l j≠o.nameAt (λx:o.Var=>x.name) l i)/\Ext w w')
  (λS _=>(i - intOf (S 9)).toNat) ⟨0,Aw,by simp -dsimp only[dg,cK,Nat.reduceAdd,Nat.reduceEqDiff,reduceIte,reduceCtorEq,dq];rfl,λ_ h=>absurd h (E3 _),ai⟩ ?_
 rintro j3 aM lf ⟨k,hk,iA,cv,ag⟩;have bZ:=ad;have bN:=h1;have bT:=J;have adI:=dr;have ad:=lf 0 rfl;have h1:=lf 1 rfl;have J:=lf 2 rfl;have dr:=lf 8 rfl;simp only[bE,Nat.reduceAdd,Nat.reduceEqDiff,reduceIte,kx,oe] at ad h1 J dr;clear lf;rw[bZ] at ad;rw[bN] at h1;rw[bT] at J;rw[adI] at dr;have ig:=bm.ext rL.ext ag aE;have tU:=(ig.at i cw).cells 0 _ rfl;refine ch (i_ ad (i_ h1 (i_ J (i_ dr iA)))) ?_;apply I_<;>intro g4
 .have a1:k<l.length:=Aw
  have mw:=(ig.at k a1).cells 0 _ rfl;have nb:o.nameAt (λx:o.Var=>x.name) l k=l[k].name:=tc _ _ _ a1;refine ch (i_ ad (i_ h1 (i_ J (i_ dr iA)))) ?_;refine K_ k rfl a1 ?_;refine ch (i_ ad (i_ h1 (i_ J (i_ dr iA)))) ?_;refine M_ mw ?_;refine ch (i_ ad (i_ h1 (i_ J (i_ dr iA)))) ?_;refine K_ i rfl cw ?_;refine ch (i_ ad (i_ h1 (i_ J (i_ dr iA)))) ?_;refine M_ tU ?_;refine ch (i_ ad (i_ h1 (i_ J (i_ dr iA)))) ?_;intro aR aq;apply I_<;>intro g5
  .refine ch (i_ ad (i_ h1 (i_ J (i_ dr iA)))) ?_;have aB:=P1 (mo:=qE l s) hm rV (show k<i by omega) (by rw[nb,gm];exact g5);rw[o.vars,jM cw dx (by rw[aB];decide),aB];exact⟨rfl,ag.trans aq⟩
  .refine ch (i_ ad (i_ h1 (i_ J (i_ dr iA)))) ?_;refine Q_ Aw ?_;refine ch (i_ ad (i_ h1 (i_ J (i_ dr iA)))) ?_;refine⟨⟨k+1,Aw,rfl,λj ay=>?_,ag.trans aq⟩,by simp[intOf];omega⟩;by_cases hj:j<k
   .exact cv j hj
   .have:j=k:=Aw
    subst this;rw[nb,gm];exact g5
 have hL:=P0 (mo:=qE l s) hm rV (λj ay=>cv j Aw);rw[auL l s i cw] at hL;have Bm:=bm.ext kt.ext ag aj;have je:=(ig.at i cw).cells;generalize l[i]=x at je hL;refine ch (i_ ad (i_ h1 (i_ J (i_ dr iA)))) ?_;refine K_ i rfl cw ?_;refine ch (i_ ad (i_ h1 (i_ J (i_ dr iA)))) ?_;refine Z_ je rfl ?_;refine ch (i_ ad (i_ h1 (i_ J (i_ dr iA)))) ?_;refine J_ (asM x _ s _ Bm) ?_;rintro _ aR ⟨rfl,aq⟩;replace aq:=ag.trans aq;refine ch (i_ ad (i_ h1 (i_ J (i_ dr iA)))) ?_;apply I_<;>intro g6;rotate_left
 .refine ch (i_ ad (i_ h1 (i_ J (i_ dr iA)))) ?_;rw[o.vars,jM cw dx (by rw[hL];exact g6),hL];exact⟨rfl,aq⟩
 .refine ch (i_ ad (i_ h1 (i_ J (i_ dr iA)))) ?_;rw[g6] at hL;refine Q_ Aw ?_;refine ch (i_ ad (i_ h1 (i_ J (i_ dr iA)))) ?_;refine⟨⟨i+1,Aw,rfl,λj ay=>?_,aq⟩,by simp[intOf,adI];omega⟩;by_cases hy:j<i
  .exact dx j hy
  .have:j=i:=Aw
   subst this;exact hL
def asC(v v2:B_)(l:C_ ea)(s:C_ o.Scalar)(w:A_)(aE:nv w v l)(aj:iz w v2 s) :
  Ei F.LG #[v,v2] w λv w'=>v = .tuple #[.I (aA l s).1,.I (aA l s).2]/\Ext w w':=by
 obtain⟨aN,cap,rfl,hlen⟩:=aE.form;refine bk E.LG ?_;refine aX ?_;refine _A (λS w' => ∃i:Nat,i<=l.length/\S 6 = .I i/\(∀j,j<i->o.err 4 (o.nameAt (·.name) l) (qd l s) j=0)/\Ext w w')
  (λS _=>(l.length - intOf (S 6)).toNat) ⟨0,Aw,by refine aX ?_;rfl,λ_ h=>absurd h (E3 _),Ext.refl _⟩ ?_
 rintro S w' b7 ⟨i,U,bJ,dx,he⟩;have ad:=b7 0 rfl;have h1:=b7 1 rfl;simp only[bE,Nat.reduceAdd,Nat.reduceEqDiff,reduceIte,kx,oe] at ad h1;clear b7;have l0:=adl Aw dx;simp -dsimp only[dg,cK,Nat.reduceAdd,Nat.reduceEqDiff,reduceIte,reduceCtorEq,dq,ad,h1,bJ];apply I_<;>intro g1;rotate_left
 .simp -dsimp only[dg,cK,Nat.reduceAdd,Nat.reduceEqDiff,reduceIte,reduceCtorEq,dq,ad,h1,bJ];rw[aA,qf (λj ay=>dx j Aw)];exact⟨rfl,he⟩
 have cw:i<l.length:=Aw
 obtain⟨a,rfl⟩:=aE.addr;have ig:=bm.ext rK.ext he aE;have tU:=(ig.at i cw).cells 0 _ rfl;have c9:jV l[i].name:=(ig.at i cw).ok;have gm:o.nameAt (λx:ea=>x.name) l i=l[i].name:=tc _ _ _ cw;simp -dsimp only[dg,cK,Nat.reduceAdd,Nat.reduceEqDiff,reduceIte,reduceCtorEq,dq,ad,h1,bJ];apply I_<;>intro g2
 .simp -dsimp only[dg,cK,Nat.reduceAdd,Nat.reduceEqDiff,reduceIte,reduceCtorEq,dq,ad,h1,bJ];rw[aA,jM cw dx (by rw[AD Aw];decide),AD Aw];exact⟨rfl,he⟩
 have hm:¬(4:Int)<=(i:Int):=Aw
 simp -dsimp only[dg,cK,Nat.reduceAdd,Nat.reduceEqDiff,reduceIte,reduceCtorEq,dq,ad,h1,bJ];refine K_ i rfl cw ?_;simp -dsimp only[dg,cK,Nat.reduceAdd,Nat.reduceEqDiff,reduceIte,reduceCtorEq,dq,ad,h1,bJ];refine M_ tU ?_;simp -dsimp only[dg,cK,Nat.reduceAdd,Nat.reduceEqDiff,reduceIte,reduceCtorEq,dq,ad,h1,bJ];refine J_ (Ea _ _ c9) ?_;rintro _ az ⟨rfl,ai⟩;simp -dsimp only[dg,cK,Nat.reduceAdd,Nat.reduceEqDiff,reduceIte,reduceCtorEq,dq,ad,h1,bJ];refine N_ (λg3=>?_) (λg3=>?_);rotate_left
 .simp -dsimp only[dg,cK,Nat.reduceAdd,Nat.reduceEqDiff,reduceIte,reduceCtorEq,dq,ad,h1,bJ];rw[<-gm] at g3;rw[aA,jM cw dx (by rw[CP hm g3];decide),CP hm g3];exact⟨rfl,he.trans ai⟩
 have rV:=g3;rw[<-gm] at rV;replace ai:=he.trans ai;clear he ig;simp -dsimp only[dg,cK,Nat.reduceAdd,Nat.reduceEqDiff,reduceIte,reduceCtorEq,dq,ad,h1,bJ];refine _A (λaZ w' => ∃k:Nat,k<=i/\aZ 7 = .I k/\(∀j,j<k->o.nameAt (λx:ea=>x.name) l j≠o.nameAt (λx:ea=>x.name) l i)/\Ext w w')
  (λS _=>(i - intOf (S 7)).toNat) ⟨0,Aw,by refine aX ?_;rfl,λ_ h=>absurd h (E3 _),ai⟩ ?_
 rintro j3 aM lf ⟨k,hk,ct,cv,ag⟩;have bZ:=ad;have bN:=h1;have Tn:=bJ;have ad:=lf 0 rfl;have h1:=lf 1 rfl;have bJ:=lf 6 rfl;simp only[bE,Nat.reduceAdd,Nat.reduceEqDiff,reduceIte,kx,oe] at ad h1 bJ;clear lf;rw[bZ] at ad;rw[bN] at h1;rw[Tn] at bJ;have ig:=bm.ext rK.ext ag aE;have tU:=(ig.at i cw).cells 0 _ rfl;simp -dsimp only[dg,cK,Nat.reduceAdd,Nat.reduceEqDiff,reduceIte,reduceCtorEq,dq,ad,h1,bJ,ct];apply I_<;>intro g4
 .have a1:k<l.length:=Aw
  have mw:=(ig.at k a1).cells 0 _ rfl;have nb:o.nameAt (λx:ea=>x.name) l k=l[k].name:=tc _ _ _ a1;simp -dsimp only[dg,cK,Nat.reduceAdd,Nat.reduceEqDiff,reduceIte,reduceCtorEq,dq,ad,h1,bJ,ct];refine K_ k rfl a1 ?_;simp -dsimp only[dg,cK,Nat.reduceAdd,Nat.reduceEqDiff,reduceIte,reduceCtorEq,dq,ad,h1,bJ,ct];refine M_ mw ?_;simp -dsimp only[dg,cK,Nat.reduceAdd,Nat.reduceEqDiff,reduceIte,reduceCtorEq,dq,ad,h1,bJ,ct];refine K_ i rfl cw ?_;simp -dsimp only[dg,cK,Nat.reduceAdd,Nat.reduceEqDiff,reduceIte,reduceCtorEq,dq,ad,h1,bJ,ct];refine M_ tU ?_;simp -dsimp only[dg,cK,Nat.reduceAdd,Nat.reduceEqDiff,reduceIte,reduceCtorEq,dq,ad,h1,bJ,ct];intro aR aq;apply I_<;>intro g5
  .simp -dsimp only[dg,cK,Nat.reduceAdd,Nat.reduceEqDiff,reduceIte,reduceCtorEq,dq,ad,h1,bJ,ct];have aB:=P1 (mo:=qd l s) hm rV (show k<i by omega) (by rw[nb,gm];exact g5);rw[aA,jM cw dx (by rw[aB];decide),aB];exact⟨rfl,ag.trans aq⟩
  .simp -dsimp only[dg,cK,Nat.reduceAdd,Nat.reduceEqDiff,reduceIte,reduceCtorEq,dq,ad,h1,bJ,ct];refine Q_ Aw ?_;simp -dsimp only[dg,cK,Nat.reduceAdd,Nat.reduceEqDiff,reduceIte,reduceCtorEq,dq,ad,h1,bJ,ct];refine⟨⟨k+1,Aw,rfl,λj ay=>?_,ag.trans aq⟩,by simp[intOf];omega⟩;by_cases hj:j<k
   .exact cv j hj
   .have:j=k:=Aw
    subst this;rw[nb,gm];exact g5
 have hL:=P0 (mo:=qd l s) hm rV (λj ay=>cv j Aw);have eH:qd l s i=if o.there l[i].scalar s=false then 8 else if l[i].cap<1\/l[i].cap > 4\/(l[i].scalar=0/\o.narrow l[i].aV l[i].U=false) then 10 else 0:=by simp[qd,cw]
 rw[eH] at hL;have Bm:=bm.ext kt.ext ag aj;have c1:=(ig.at i cw).cells 1 _ rfl;have c2:=(ig.at i cw).cells 2 _ rfl;have bw:=(ig.at i cw).cells 3 _ rfl;have bD:=(ig.at i cw).cells 4 _ rfl;simp only[o.there,o.narrow,decide_eq_false_iff_not] at hL;generalize l[i].scalar=xs at c1 hL;generalize l[i].cap=ayA at c2 hL;generalize l[i].aV=UX at bw hL;generalize l[i].U=UW at bD hL;clear eH;have av:∀w',Ext aM w'->Ei F.Hi #[.I UX,.I UW] w' λu bO=>u = .bool (o.narrow UX UW)/\Ext w' bO:=λw' he =>
  (afo UX UW w').mono λv bO h=>⟨h.1,h.2 ▸ Ext.refl _⟩
 simp -dsimp only[dg,cK,Nat.reduceAdd,Nat.reduceEqDiff,reduceIte,reduceCtorEq,dq,ad,h1,bJ,ct]
 (repeat' first
  | (refine I_ (λ_=>?_) (λ_=>?_)<;>try (exfalso;omega))
  | (refine N_ (λ_=>?_) (λ_=>?_))
  | (refine K_ i rfl cw ?_)
  | (refine M_ CV ?_)
  | (refine J_ (D6 _ _ s _ Bm) ?_;rintro _ aM ⟨rfl,rfl⟩)
  | (refine P_ _ av ?_)
  | simp -dsimp only[dg,cK,Nat.reduceAdd,Nat.reduceEqDiff,reduceIte,reduceCtorEq,dq,ad,h1,bJ,ct]
  | (intro aR aq;replace aq:=ag.trans aq))
 all_goals first
  | (rw[if_pos Aw] at hL
     rw[aA,jM cw dx (by rw[hL];decide),hL];exact⟨rfl,CV⟩)
  | (rw[if_neg Aw,if_pos Aw] at hL
     rw[aA,jM cw dx (by rw[hL];decide),hL];exact⟨rfl,CV⟩)
  | (rw[if_neg Aw,if_neg Aw] at hL
     refine Q_ Aw ?_;simp -dsimp only[dg,cK,Nat.reduceAdd,Nat.reduceEqDiff,reduceIte,reduceCtorEq,dq,ad,h1,bJ,ct];refine⟨⟨i+1,Aw,rfl,λj ay=>?_,CV⟩,by simp[intOf,Tn];omega⟩;by_cases hy:j<i
     .exact dx j hy
     .have:j=i:=Aw
      subst this;exact hL)
end Go.Proofs.R
namespace o
def ag5(m:Model)(i:Nat):wB m 2 i=ta m i:=by
 have bG:cZ 1 2 i m.vars.length=min m.vars.length i:=by unfold cZ;rw[if_pos BS,if_neg BS];simp
 have aD:cZ 2 2 i m.aA.length=0:=by unfold cZ;rw[if_neg BS]
 have aO:cZ 3 2 i m.procs.length=0:=by unfold cZ;rw[if_neg BS]
 have bo:im 2 i m.props.length=0:=by unfold im;rw[if_neg BS]
 unfold wB;rw[bG,aD,aO,bo];simp only[ta,Hq,BC,List.take_zero,List.map_nil,List.append_nil];rw[AK1,<-AI8];simp only[List.take_length]
def ag3(m:Model)(i:Nat):wB m 3 i=oz m i:=by
 have bG:cZ 1 3 i m.vars.length=m.vars.length:=by unfold cZ;rw[if_pos BS,if_pos BS]
 have aD:cZ 2 3 i m.aA.length=min m.aA.length i:=by unfold cZ;rw[if_pos BS,if_neg BS];simp
 have aO:cZ 3 3 i m.procs.length=0:=by unfold cZ;rw[if_neg BS]
 have bo:im 3 i m.props.length=0:=by unfold im;rw[if_neg BS]
 unfold wB;rw[bG,aD,aO,bo];simp only[oz,ta,Hq,BC,BB,List.take_zero,List.map_nil,List.append_nil];rw[AK1,<-AI8];simp only[List.take_length]
def ag4(m:Model)(i:Nat):wB m 4 i=jE m i:=by
 have bG:cZ 1 4 i m.vars.length=m.vars.length:=by unfold cZ;rw[if_pos BS,if_pos BS]
 have aD:cZ 2 4 i m.aA.length=m.aA.length:=by unfold cZ;rw[if_pos BS,if_pos BS]
 have aO:cZ 3 4 i m.procs.length=min m.procs.length i:=by unfold cZ;rw[if_pos BS,if_neg BS];simp
 have bo:im 4 i m.props.length=0:=by unfold im;rw[if_neg BS]
 unfold wB;rw[bG,aD,aO,bo];simp only[jE,oz,ta,Hq,BC,BB,zB,List.take_zero,List.map_nil,List.append_nil];rw[AK1,<-AI8];simp only[List.take_length]
def X1(m:Model)(i:Nat):wB m 5 i=s9 m i:=by
 have bG:cZ 1 5 i m.vars.length=m.vars.length:=by unfold cZ;rw[if_pos BS,if_pos BS]
 have aD:cZ 2 5 i m.aA.length=m.aA.length:=by unfold cZ;rw[if_pos BS,if_pos BS]
 have aO:cZ 3 5 i m.procs.length=m.procs.length:=by unfold cZ;rw[if_pos BS,if_pos BS]
 have bo:im 5 i m.props.length=min m.props.length i:=by unfold im;rw[if_pos BS];simp
 unfold wB;rw[bG,aD,aO,bo];simp only[s9,jE,oz,ta,Hq,BC,BB,zB,Td];rw[AK1,<-AI8];simp only[List.take_length]
def x8(q p i:Int)(len:Nat):cZ q p i len<=len:=by unfold cZ; (repeat' split)<;>omega
end o
namespace Go.Proofs.R
open Go Go.RowKit ba o
def vf(f:tq):B_:=.agg #[.int .i64 f.cJ,.int .i64 f.part,.int .i64 f.item,.int .i64 f.sub]
def asD(cs:C_ B_)(m:o.Model)(w:A_)(h:dh w cs m) :
  Ei F.L0 #[.agg cs.toArray] w λv w'=>v=vf (o.data m)/\Ext w w':=by
 have aL:=h;obtain⟨bZ,bz,bN,c1,bT,c2,bW,bw,b1,bD,rfl,ad,h1,J,ab,aF,eB,dD,dO,dU,eg⟩:=h.form;refine bk E.L0 ?_;refine aa ?_;intro w1 bx cN af al;refine aa ?_;intro az bP c8 ai ao;replace al:=ai.obj al;have aD:=af.trans ai;have fT:=cq al;have z2:=af.size;refine aa ?_;refine J_ (asK _ m.scalars az (ad.ext aD)) ?_;rintro _ aM ⟨rfl,ag⟩;replace al:=ag.obj al;replace ao:=ag.obj ao;have aO:=aD.trans ag;clear aD;refine aa ?_;apply I_<;>intro g1;rotate_left
 .have bb:=YT g1;refine aa ?_;intro aR dT bn;refine aa ?_;exact⟨by rw[bb];rfl,dT.ext aO Aw⟩
 have b7:(o.scalars m.scalars).2=0:=by simpa using g1
 have lf:=ae4 b7;have y3:=al;have AW:=ao;refine aa ?_;refine L_ 5 m.vars.length [1,2] (λ_:Unit=>[]) () (λk _ w'=>Ext aM w'/\∀j,j<k->ka m j=0) a6 a6 ⟨Ext.refl _,λj h=>absurd h (E3 _)⟩ ?_;clear al ao;rintro k _ S aR hk ⟨aq,bB⟩;have al:=aq.obj y3;have ao:=aq.obj AW;have bo:=aO.trans aq;refine aa ?_;apply I_<;>intro g2
 .have a1:k<m.vars.length:=Aw
  have hT:=(bm.len h1).2;have QX:=hT.2;unfold maxLen at QX;obtain⟨a,rfl⟩:=h1.addr;have gm:=DW (f:=λx:o.Var=>x.name) a1;have dK:=((h1.at k a1).cells).ext bo;have Ss:∀j,j<k->pr m j=0:=λj ay=>NT (bB j ay);refine aa ?_;refine _i (k:=.i64) (k+1) (by simp[dc,bE]) Aw ?_;refine aa ?_;refine P_ (.tuple #[.I (o.vars (m.vars.take (k+1)) m.scalars 12).1,.I (o.vars (m.vars.take (k+1)) m.scalars 12).2]) (λw' e=>aew _ _ (m.vars.take (k+1)) m.scalars 12 w' ((h1.head (k+1) Aw).ext rL.ext (bo.trans e)) (ad.ext (bo.trans e))) ?_;refine aa ?_;intro bg ar;replace al:=ar.obj al;replace ao:=ar.obj ao;replace dK:=dK.ext ar;have bC:=bo.trans ar;rw[auQ a1 Ss];refine aa ?_;apply I_<;>intro g3;rotate_left
  .have lE:ka m k=pr m k:=by unfold ka;rw[if_pos g3]
   have bb:=Ji b7 a1 bB (by rw[lE];exact g3);rw[lE] at bb;refine aa ?_;intro bp gJ bS;refine aa ?_;exact⟨by rw[bb];rfl,gJ.ext bC Aw⟩
  have iE:pr m k=0:=by simpa using g3
  have awR:k<12:=by
   apply Classical.byContradiction;intro aw;have h:=iE;unfold pr o.err at h;rw[if_pos Aw] at h;cases h
  refine aa ?_;intro bp aC;replace al:=aC.obj al;replace ao:=aC.obj ao;refine aa ?_;refine J_ (EZ _ m 2 k bp (aL.ext (bC.trans aC)) Aw Aw (by
   have c7:cZ 1 2 k m.vars.length<=k:=by unfold cZ; (repeat' split)<;>omega
   have dE:cZ 2 2 k m.aA.length=0:=by unfold cZ;rw[if_neg BS]
   have ed:cZ 3 2 k m.procs.length=0:=by unfold cZ;rw[if_neg BS]
   have gW:im 2 k m.props.length=0:=by unfold im;rw[if_neg BS]
   omega)) ?_
  rintro _ bH ⟨⟨v,rfl,gz⟩,bc⟩;refine⟨bc,?_⟩;rw[ag5] at gz;refine aa ?_;refine J_ (F4 v _ m.vars[k].name _ bH gz) ?_;rintro _ ps ⟨rfl,rfl⟩;replace al:=bc.obj al;replace ao:=bc.obj ao;have aa2:=aC.trans bc;have cL:=bC.trans aa2;refine aa ?_;apply I_<;>intro g4
  .have lE:ka m k=7:=by unfold ka;rw[if_neg (by simpa using iE),gm,if_pos g4]
   have bb:=Ji b7 a1 bB (by rw[lE];decide);rw[lE] at bb;refine aa ?_;intro cB ji cF;refine aa ?_;exact⟨by rw[bb];rfl,ji.ext cL Aw⟩
  .refine aa ?_;refine⟨a1,aJ,(),trivial,(aq.trans ar).trans aa2,λj ay=>?_⟩;by_cases hj:j=k
   .subst hj;unfold ka;rw[if_neg (by simpa using iE),gm,if_neg g4]
   .exact bB j Aw
 have nF:∀j,j<m.vars.length->ka m j=0:=λj ay=>bB j Aw;have awe:m.vars.length<=12:=by
  apply Classical.byContradiction;intro aw
  have:=Zo (nF 12 Aw)
  omega
 clear al ao;refine aa ?_;refine L_ 8 m.aA.length [1,2] (λ_:Unit=>[]) () (λk _ w'=>Ext aM w'/\∀j,j<k->k7 m j=0) a6 a6 ⟨aq,λj h=>absurd h (E3 _)⟩ ?_;clear bo;rintro k _ aZ bg hk ⟨ar,bB⟩;have al:=ar.obj y3;have ao:=ar.obj AW;have bo:=aO.trans ar;refine aa ?_;apply I_<;>intro g2
 .have a1:k<m.aA.length:=Aw
  have hT:=(bm.len J).2;have QX:=hT.2;unfold maxLen at QX;obtain⟨a,rfl⟩:=J.addr;have gm:=DW (f:=λx:ea=>x.name) a1;have dK:=((J.at k a1).cells).ext bo;have Ss:∀j,j<k->oV m j=0:=λj ay=>I5 (bB j ay);refine aa ?_;refine _i (k:=.i64) (k+1) (by simp[dc,bE]) Aw ?_;refine aa ?_;refine P_ (.tuple #[.I (aA (m.aA.take (k+1)) m.scalars).1,.I (aA (m.aA.take (k+1)) m.scalars).2]) (λw' e=>asC _ _ (m.aA.take (k+1)) m.scalars w' ((J.head (k+1) Aw).ext rK.ext (bo.trans e)) (ad.ext (bo.trans e))) ?_;refine aa ?_;intro bp aC;replace al:=aC.obj al;replace ao:=aC.obj ao;replace dK:=dK.ext aC;have bC:=bo.trans aC;rw[aix a1 Ss];refine aa ?_;apply I_<;>intro g3;rotate_left
  .have lE:k7 m k=oV m k:=by unfold k7;rw[if_pos g3]
   have bb:=Jg b7 nF a1 bB (by rw[lE];exact g3);rw[lE] at bb;refine aa ?_;intro bp gJ bS;refine aa ?_;exact⟨by rw[bb];rfl,gJ.ext bC Aw⟩
  have iE:oV m k=0:=by simpa using g3
  have awS:k<4:=by
   apply Classical.byContradiction;intro aw;have h:=iE;unfold oV o.err at h;rw[if_pos Aw] at h;cases h
  refine aa ?_;intro bH bc;replace al:=bc.obj al;replace ao:=bc.obj ao;refine aa ?_;refine J_ (EZ _ m 3 k bH (aL.ext (bC.trans bc)) Aw Aw (by
   have c7:=x8 1 3 k m.vars.length;have dE:cZ 2 3 k m.aA.length<=k:=by unfold cZ; (repeat' split)<;>omega
   have ed:cZ 3 3 k m.procs.length=0:=by unfold cZ;rw[if_neg BS]
   have gW:im 3 k m.props.length=0:=by unfold im;rw[if_neg BS]
   omega)) ?_
  rintro _ cB ⟨⟨v,rfl,gz⟩,bt⟩;refine⟨bt,?_⟩;rw[ag3] at gz;refine aa ?_;refine J_ (F4 v _ m.aA[k].name _ cB gz) ?_;rintro _ ps ⟨rfl,rfl⟩;replace al:=bt.obj al;replace ao:=bt.obj ao;have xh:=bc.trans bt;have cL:=bC.trans xh;refine aa ?_;apply I_<;>intro g4
  .have lE:k7 m k=7:=by unfold k7;rw[if_neg (by simpa using iE),gm,if_pos g4]
   have bb:=Jg b7 nF a1 bB (by rw[lE];decide);rw[lE] at bb;refine aa ?_;intro cB ji cF;refine aa ?_;exact⟨by rw[bb];rfl,ji.ext cL Aw⟩
  .refine aa ?_;refine⟨a1,aJ,(),trivial,(ar.trans aC).trans xh,λj ay=>?_⟩;by_cases hj:j=k
   .subst hj;unfold k7;rw[if_neg (by simpa using iE),gm,if_neg g4]
   .exact bB j Aw
 have bb:=YR b7 nF λj ay=>bB j Aw;refine aa ?_;intro bp gJ bS;refine aa ?_;exact⟨by rw[bb];rfl,gJ.ext bo Aw⟩
end Go.Proofs.R
namespace o
structure wj(m:Model):Prop where
 v:m.vars.length<=1000000
 c:m.aA.length<=1000000
 p:m.procs.length<=1000000
 i:∀p∈m.procs,p.vars.length<=1000000/\p.c4.length<=1000000
def c1(m:Model)(k:Nat):Int:=jl ((m.vars.take k).map λv=>cells v m.scalars)
def c2(m:Model)(k:Nat):Int:=jl ((m.aA.take k).map rS)
def i1(m:Model)(k:Nat):Int:=jl ((m.procs.take k).map (lK m))
def i2(m:Model)(k:Nat):Int:=jl ((m.procs.take k).map λp=>lK m p*p.c4.length)
def i3(m:Model)(k:Nat):Int:=jl ((m.procs.take k).map λp=>lK m p*(1+p.vars.length))
def adp{α:Type}{l:C_ α}{k:Nat}{x:α}(h:x∈l.take k):x∈l:=AK2 h
def CB{m:Model}(h:wj m)(k:Nat):0<=c1 m k/\c1 m k<=4000000:=by
 have:=HU (λv=>cells v m.scalars) 4 BS (m.vars.take k) λv _=>sH v _
 have h1:=h.v;have J:(m.vars.take k).length<=m.vars.length:=by simp;omega
 unfold c1;omega
def I0{m:Model}(h:wj m)(k:Nat):0<=c2 m k/\c2 m k<=5000000:=by
 have:=HU rS 5 BS (m.aA.take k) λc _=>by have:=Pr c;omega
 have h1:=h.c;have J:(m.aA.take k).length<=m.aA.length:=by simp;omega
 unfold c2;omega
def aca{m:Model}(h:wj m)(k:Nat):0<=i1 m k/\i1 m k<=4000000:=by
 have:=HU (lK m) 4 BS (m.procs.take k) λp _=>Hw m p
 have h1:=h.p;have J:(m.procs.take k).length<=m.procs.length:=by simp;omega
 unfold i1;omega
def DV{a b:Int}(aY:0<=a/\a<=4)(ak:0<=b/\b<=1000001):0<=a*b/\a*b<=4000004:=by
 have:a=0\/a=1\/a=2\/a=3\/a=4:=Aw
 rcases this with rfl | rfl | rfl | rfl | rfl<;>omega
def acd{m:Model}(h:wj m)(k:Nat):0<=i2 m k/\i2 m k<=4000004000000:=by
 have:=HU (λp=>lK m p*p.c4.length) 4000004 BS (m.procs.take k) λp au=>DV (Hw m p) (by have:=(h.i p (adp au)).2;omega)
 have h1:=h.p;have J:(m.procs.take k).length<=m.procs.length:=by simp;omega
 unfold i2;omega
def acf{m:Model}(h:wj m)(k:Nat):0<=i3 m k/\i3 m k<=4000004000000:=by
 have:=HU (λp=>lK m p*(1+p.vars.length)) 4000004 BS (m.procs.take k) λp au=>DV (Hw m p) (by have:=(h.i p (adp au)).1;omega)
 have h1:=h.p;have J:(m.procs.take k).length<=m.procs.length:=by simp;omega
 unfold i3;omega
def Ym{m:Model}{k:Nat}(h:k<m.vars.length):c1 m (k+1)=c1 m k+cells m.vars[k] m.scalars:=HV _ _ h
def Yn{m:Model}{k:Nat}(h:k<m.aA.length):c2 m (k+1)=c2 m k+rS m.aA[k]:=HV _ _ h
def acb{m:Model}{k:Nat}(h:k<m.procs.length):i1 m (k+1)=i1 m k+lK m m.procs[k]:=HV _ _ h
def ace{m:Model}{k:Nat}(h:k<m.procs.length):i2 m (k+1)=i2 m k+lK m m.procs[k]*m.procs[k].c4.length:=HV _ _ h
def acg{m:Model}{k:Nat}(h:k<m.procs.length):i3 m (k+1)=i3 m k+lK m m.procs[k]*(1+m.procs[k].vars.length):=HV _ _ h
def adX(m:Model){a b c:Nat}(aY:m.vars.length<=a)(ak:m.aA.length<=b)(an:m.procs.length<=c):pieces m=(i1 m c,i2 m c,c1 m a+c2 m b+i3 m c):=by
 unfold pieces i1 i2 i3 c1 c2;rw[MT aY,MT ak,MT an]
end o
namespace Go.Proofs.R
open Go Go.RowKit ba o
def arx(cs:C_ B_)(m:o.Model)(w:A_)(h:dh w cs m)(ax:wj m) :
  Ei F.Jo #[.agg cs.toArray] w λv w'=>v = .tuple #[.I (o.pieces m).1,.I (o.pieces m).2.1,.I (o.pieces m).2.2]/\Ext w w':=by
 obtain⟨bZ,bz,bN,c1,bT,c2,bW,bw,b1,bD,rfl,ad,h1,J,ab,aF,eB,dD,dO,dU,eg⟩:=h.form;refine bk E.Jo ?_;refine aa ?_;intro w1 bx cN af al;have vo:=al;clear al;refine aa ?_;refine L_ 18 m.vars.length [1,5,6,16,17] (λs:Int=>[(7,.I s)]) 0 (λk s w'=>Ext w1 w'/\s=o.c1 m k) a6 a6 ⟨Ext.refl _,by simp[o.c1,jl]⟩ ?_;rintro k _ S az hk ⟨ai,rfl⟩;have al:=ai.obj vo;have df:∀{w'},Ext az w'->Ext w w':=λe=>(af.trans ai).trans e;refine aa ?_;apply I_<;>intro g1
 .have a1:k<m.vars.length:=Aw
  obtain⟨a,rfl⟩:=h1.addr;have dK:=((h1.at k a1).cells).ext (df (Ext.refl _));refine aa ?_;intro aM bV eX ag a8;replace al:=ag.obj al;refine aa ?_;refine J_ (CE m.vars[k] _ m.scalars aM (ad.ext (df ag))) ?_;rintro _ aR ⟨rfl,aq⟩;have c7:=CB ax k;have dE:=sH m.vars[k] m.scalars;refine aa ?_;exact⟨a1,aJ,_,a6,(ai.trans ag).trans aq,(Ym a1).symm⟩
 have my:m.vars.length<=k:=Aw
 refine aa ?_;refine L_ 32 m.aA.length [1,5,6,30,31] (λs:Int=>[(7,.I s)]) (o.c1 m k) (λj s w'=>Ext w1 w'/\s=o.c1 m k+o.c2 m j) a6 a6 ⟨ai,by simp[o.c2,jl]⟩ ?_;clear al df;rintro j _ aZ aM ay ⟨ag,rfl⟩;have al:=ag.obj vo;have fw:∀{w'},Ext aM w'->Ext w w':=λe=>(af.trans ag).trans e;refine aa ?_;apply I_<;>intro g2
 .have eT:j<m.aA.length:=Aw
  obtain⟨a,rfl⟩:=J.addr;have dK:=((J.at j eT).cells).ext (fw (Ext.refl _));refine aa ?_;intro aR bV eX aq a8;have c7:=CB ax k;have dE:=I0 ax j;have ed:=Pr m.aA[j];unfold rS at ed;refine aa ?_;exact⟨eT,aJ,_,a6,ag.trans aq,by rw[Yn eT];unfold rS;omega⟩
 have RA:m.aA.length<=j:=Aw
 refine aa ?_;refine L_ 47 m.procs.length [1,45,46] (λs:Int×Int×Int=>[(5,.I s.1),(6,.I s.2.1),(7,.I s.2.2)]) (0,0,o.c1 m k+o.c2 m j)
  (λi s w'=>Ext w1 w'/\s=(o.i1 m i,o.i2 m i,o.c1 m k+o.c2 m j+o.i3 m i)) a6 a6 ⟨ag,by simp[o.i1,o.i2,o.i3,jl]⟩ ?_
 clear al fw;rintro i _ gf aR U ⟨aq,rfl⟩;have al:=aq.obj vo;have dX:∀{w'},Ext aR w'->Ext w w':=λe=>(af.trans aq).trans e;refine aa ?_;apply I_<;>intro g3
 .have cw:i<m.procs.length:=Aw
  obtain⟨a,rfl⟩:=ab.addr;obtain⟨_,bY,dQ,au,eU,c5⟩:=ab.at i cw;obtain⟨ei,eZ,rfl,fa⟩:=eU.form;obtain⟨pj,oU,rfl,lc⟩:=c5.form;replace au:=au.ext (dX (Ext.refl _));have Rn:=ax.i _ (E2 cw);refine aa ?_;intro bg bV eX ar a8;replace al:=ar.obj al;refine aa ?_;refine J_ (CE ⟨⟨#[]⟩,0,m.procs[i].over,0,0,0⟩ _ m.scalars bg (ad.ext (dX ar))) ?_;rintro _ bp ⟨rfl,aC⟩;have an2:o.cells ⟨⟨#[]⟩,0,m.procs[i].over,0,0,0⟩ m.scalars=lK m m.procs[i]:=rfl;rw[an2];replace a8:=aC.obj a8;have c7:=CB ax k;have dE:=I0 ax j;have ed:=aca ax i;have gW:=acd ax i;have sf:=acf ax i;have uG:=Hw m m.procs[i];have TH:=DV uG (b:=m.procs[i].c4.length) Aw;have D4:=DV uG (b:=1+m.procs[i].vars.length) Aw;refine aa ?_;exact⟨cw,aJ,(_,_,_),(by first | exact⟨rfl,rfl,rfl,trivial⟩ | exact⟨rfl,rfl,trivial⟩ | (simp -dsimp only[dg,x4,x3,xF,xE,w9,w8,Nat.reduceAdd,Nat.reduceEqDiff,reduceIte,and_self];exact⟨rfl,rfl,rfl,trivial⟩) | (simp -dsimp only[dg,x4,x3,xF,xE,w9,w8,Nat.reduceAdd,Nat.reduceEqDiff,reduceIte,and_self];exact⟨rfl,rfl,trivial⟩)),(aq.trans ar).trans aC,by rw[acb cw,ace cw,acg cw];exact Prod.ext rfl (Prod.ext rfl (Int.add_assoc _ _ _))⟩
 have kc:m.procs.length<=i:=Aw
 refine aa ?_;exact⟨by rw[adX m my RA kc],dX (Ext.refl _)⟩
def aoQ(cs:C_ B_)(m:o.Model)(p:dv)(bY dQ:B_)(w:A_)(h:dh w cs m) :
  Ei F.LW #[.agg cs.toArray,.agg (p.enc bY dQ).toArray] w λv w'=>v = .I (lK m p)/\Ext w w':=by
 obtain⟨bZ,bz,bN,c1,bT,c2,bW,bw,b1,bD,rfl,ad,_⟩:=h.form;refine bk E.LW ?_;refine aa ?_;intro w1 bx cN af al;refine aa ?_;intro az bP c8 ai ao;refine aa ?_;refine I_ (λg=>?_) (λg=>?_)
 .refine aa ?_;exact⟨by rw[lK,if_pos g],af.trans ai⟩
 refine aa ?_;refine J_ (D6 p.over _ m.scalars az (ad.ext (af.trans ai))) ?_;rintro _ _ ⟨rfl,rfl⟩;refine aa ?_;exact⟨by rw[lK,if_neg g],af.trans ai⟩
def asG(cs:C_ B_)(m:o.Model)(w:A_)(h:dh w cs m)(ax:wj m) :
  Ei F.LY #[.agg cs.toArray] w λv w'=>v = .tuple #[.I (o.pieces m).1,.I (o.pieces m).2.1,.I (o.pieces m).2.2]/\Ext w w':=by
 have aL:=h;obtain⟨bZ,bz,bN,c1,bT,c2,bW,bw,b1,bD,rfl,ad,h1,J,ab,aF,eB,dD,dO,dU,eg⟩:=h.form;refine bk E.LY ?_;refine aa ?_;intro w1 bx cN af al;have vo:=al;clear al;refine aa ?_;refine L_ 8 m.vars.length [1,5,6] (λs:Int=>[(7,.I s)]) 0 (λk s w'=>Ext w1 w'/\s=o.c1 m k) a6 a6 ⟨Ext.refl _,by simp[o.c1,jl]⟩ ?_;rintro k _ S az hk ⟨ai,rfl⟩;have al:=ai.obj vo;have df:∀{w'},Ext az w'->Ext w w':=λe=>(af.trans ai).trans e;refine aa ?_;apply I_<;>intro g1
 .have a1:k<m.vars.length:=Aw
  obtain⟨a,rfl⟩:=h1.addr;have dK:=((h1.at k a1).cells).ext (df (Ext.refl _));have c7:=CB ax k;have dE:=sH m.vars[k] m.scalars;refine aa ?_;refine P_ (.I (o.cells m.vars[k] m.scalars)) (λw' e=>Ni m.vars[k] _ m.scalars w' (ad.ext (df e))) ?_;refine aa ?_;intro aR aq;refine aa ?_;exact⟨a1,aJ,_,a6,ai.trans aq,(Ym a1).symm⟩
 have my:m.vars.length<=k:=Aw
 refine aa ?_;refine L_ 9 m.aA.length [1,5,6] (λs:Int=>[(7,.I s)]) (o.c1 m k) (λj s w'=>Ext w1 w'/\s=o.c1 m k+o.c2 m j) a6 a6 ⟨ai,by simp[o.c2,jl]⟩ ?_;clear al df;rintro j _ aZ aM ay ⟨ag,rfl⟩;have al:=ag.obj vo;have fw:∀{w'},Ext aM w'->Ext w w':=λe=>(af.trans ag).trans e;refine aa ?_;apply I_<;>intro g2
 .have eT:j<m.aA.length:=Aw
  obtain⟨a,rfl⟩:=J.addr;have dK:=((J.at j eT).cells).ext (fw (Ext.refl _));have c7:=CB ax k;have dE:=I0 ax j;have ed:=Pr m.aA[j];unfold rS at ed;refine aa ?_;exact⟨eT,aJ,_,a6,ag,by rw[Yn eT];unfold rS;omega⟩
 have RA:m.aA.length<=j:=Aw
 refine aa ?_;refine L_ 10 m.procs.length [1] (λs:Int×Int×Int=>[(5,.I s.1),(6,.I s.2.1),(7,.I s.2.2)]) (0,0,o.c1 m k+o.c2 m j)
  (λi s w'=>Ext w1 w'/\s=(o.i1 m i,o.i2 m i,o.c1 m k+o.c2 m j+o.i3 m i)) a6 a6 ⟨ag,by simp[o.i1,o.i2,o.i3,jl]⟩ ?_
 clear al fw;rintro i _ gf aR U ⟨aq,rfl⟩;have al:=aq.obj vo;have dX:∀{w'},Ext aR w'->Ext w w':=λe=>(af.trans aq).trans e;refine aa ?_;apply I_<;>intro g3
 .have cw:i<m.procs.length:=Aw
  obtain⟨a,rfl⟩:=ab.addr;obtain⟨_,bY,dQ,au,eU,c5⟩:=ab.at i cw;obtain⟨ei,eZ,rfl,fa⟩:=eU.form;obtain⟨pj,oU,rfl,lc⟩:=c5.form;replace au:=au.ext (dX (Ext.refl _));have Rn:=ax.i _ (E2 cw);refine aa ?_;refine P_ (.I (lK m m.procs[i])) (λw' e=>aoQ _ m m.procs[i] _ _ w' (aL.ext (dX e))) ?_;refine aa ?_;intro bp aC;replace al:=aC.obj al;replace au:=au.ext aC;have c7:=CB ax k;have dE:=I0 ax j;have ed:=aca ax i;have gW:=acd ax i;have sf:=acf ax i;have uG:=Hw m m.procs[i];have TH:=DV uG (b:=m.procs[i].c4.length) Aw;have D4:=DV uG (b:=1+m.procs[i].vars.length) Aw;refine aa ?_;exact⟨cw,aJ,(_,_,_),(by first | exact⟨rfl,rfl,rfl,trivial⟩ | exact⟨rfl,rfl,trivial⟩ | (simp -dsimp only[dg,x4,x3,xF,xE,w9,w8,Nat.reduceAdd,Nat.reduceEqDiff,reduceIte,and_self];exact⟨rfl,rfl,rfl,trivial⟩) | (simp -dsimp only[dg,x4,x3,xF,xE,w9,w8,Nat.reduceAdd,Nat.reduceEqDiff,reduceIte,and_self];exact⟨rfl,rfl,trivial⟩)),aq.trans aC,by rw[acb cw,ace cw,acg cw];exact Prod.ext rfl (Prod.ext rfl (Int.add_assoc _ _ _))⟩
 have kc:m.procs.length<=i:=Aw
 refine aa ?_;exact⟨by rw[adX m my RA kc],dX (Ext.refl _)⟩
end Go.Proofs.R
namespace o
structure avs(m:Model):Prop where
 s:m.scalars.length<=10
 v:m.vars.length<=30
 c:m.aA.length<=20
 p:m.procs.length<=20
 q:m.props.length<=20
 i:∀p∈m.procs,p.vars.length<=20/\p.c4.length<=30/\∀c∈p.c4,c.bL.length<=20/\c.guard.length<=60
end o