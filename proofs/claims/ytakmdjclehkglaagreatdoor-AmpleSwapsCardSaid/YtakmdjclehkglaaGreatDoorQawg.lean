/- Parts. -/
import Derived.Test.YtakmdjclehkglaaGreatDoorQawf
set_option linter.all false
set_option maxRecDepth 100000
set_option maxHeartbeats 16000000
section
namespace Go.Proofs.R
open Go Go.RowKit a7
theorem su{α:Type}(f:α->ByteArray)(l:C_ α)(i:Nat)(h:i<l.length):o.nameAt f l i=f l[i]:=by simp[o.nameAt,h]
theorem are(i:Nat)(b:Nat)(v:B_)(l:C_ o.Scalar)(w:A_)(az:o.h5 w v l)(an:w.cell? ⟨b,0,none⟩=some v)(U:i<l.length) :
  Dz F.a5 #[.I i,.pointer (some ⟨b,0,none⟩)] w fun v w'=>v = .string (o.nameAt (·.name) l i)/\Ext w w':=by
 obtain⟨aO,cap,rfl,hlen⟩:=az.form;refine bl E.a5 ?_;refine aT ?_;refine M_ an ?_;refine aT ?_;obtain⟨a,rfl⟩:=az.addr;have ai:=(az.at i U).cells 0 _ rfl;refine K_ i rfl U ?_;refine aT ?_;refine M_ ai ?_;refine aT ?_;rw[su _ _ _ U];exact⟨rfl,Ext.refl w⟩
theorem arf(i:Nat)(b:Nat)(v:B_)(l:C_ o.Scalar)(w:A_)(az:o.h5 w v l)(an:w.cell? ⟨b,0,none⟩=some v)(U:i<l.length) :
  Dz F.nh #[.I i,.pointer (some ⟨b,0,none⟩)] w fun v w'=>v = .I (o.va l i)/\Ext w w':=by
 obtain⟨aO,cap,rfl,hlen⟩:=az.form;refine bl E.nh ?_;refine aT ?_;refine M_ an ?_;refine aT ?_;obtain⟨a,rfl⟩:=az.addr;have ai:=(az.at i U).cells 1 _ rfl;have aG:o.va l i=if 1<=l[i].size/\l[i].size<=4 then 0 else 10:=by simp[o.va,U]
 rw[aG];generalize l[i].size=z at ai;refine K_ i rfl U ?_;refine aT ?_;refine M_ ai ?_;refine aT ?_;refine I_ (fun h1=>?_) (fun h1=>?_)
 .refine aT ?_;rw[if_neg Aw];exact⟨rfl,Ext.refl w⟩
 refine aT ?_;refine M_ an ?_;refine aT ?_;refine K_ i rfl U ?_;refine aT ?_;refine M_ ai ?_;refine aT ?_;refine I_ (fun h1=>?_) (fun h1=>?_)
 .refine aT ?_;rw[if_neg Aw];exact⟨rfl,Ext.refl w⟩
 .refine aT ?_;rw[if_pos Aw];exact⟨rfl,Ext.refl w⟩
theorem arh(v:B_)(l:C_ o.Scalar)(w:A_)(aJ:gF w)(az:o.h5 w v l) :
  Dz F.HF #[v] w fun v w'=>v = .tuple #[.I (o.scalars l).1,.I (o.scalars l).2]/\Ext w w':=by
 obtain⟨aO,cap,rfl,hlen⟩:=az.form;refine bl E.HF ?_;refine aT ?_;refine O_ fun w1 b an ah al=>?_;have oV:=bg.ext o.jZ.ext ah az;have cF:w1.cell? ⟨b,0,none⟩=some (.slice aO l.length cap):=Bt al rfl;refine aT ?_;refine M_ cF ?_;refine aT ?_;refine J_ (RD l.length 2 Aw (o.nameAt (·.name) l) (o.va l) F.a5 F.nh [_] [_] Cq Cq w1 (aJ.ext ah)
  (fun i U=>by rw[su _ _ _ Aw];obtain⟨a,rfl⟩:=az.addr;exact(az.at i Aw).ok)
  (fun i w' U he=>are i b _ l w' (bg.ext o.jZ.ext he oV) (he.cell cF) Aw)
  (fun i w' U he=>arf i b _ l w' (bg.ext o.jZ.ext he oV) (he.cell cF) Aw)) ?_
 rintro _ aB ⟨rfl,aj⟩;refine aT ?_;exact⟨rfl,ah.trans aj⟩
theorem Hl(x:o.Var)(v:B_)(l:C_ o.Scalar)(w:A_)(az:o.h5 w v l) :
  Dz F.r4 #[.agg x.enc.toArray,v] w fun v w'=>v = .tuple #[.I (o.bounds x l).1,.I (o.bounds x l).2]/\Ext w w':=by
 obtain⟨aO,cap,rfl,hlen⟩:=az.form;refine bl E.r4 ?_;refine aT ?_;refine O_ fun w1 b an ah al=>?_;have c1:w1.cell? (Addr.add ⟨b,0,none⟩ 1)=some (.I x.scalar):=fT al rfl;have bp:w1.cell? (Addr.add ⟨b,0,none⟩ 3)=some (.I x.aQ):=fT al rfl;have bB:w1.cell? (Addr.add ⟨b,0,none⟩ 4)=some (.I x.U):=fT al rfl;refine aT ?_;refine M_ c1 ?_;refine aT ?_;refine I_ (fun h1=>?_) (fun h1=>?_)
 .refine aT ?_;refine M_ bp ?_;refine aT ?_;refine M_ bB ?_;refine aT ?_;intro aB aj;simp only[o.bounds,h1,if_true];exact⟨trivial,ah.trans aj⟩
 .refine aT ?_;refine M_ c1 ?_;refine aT ?_;refine J_ (SB x.scalar _ l w1 (bg.ext o.jZ.ext ah az)) ?_;rintro _ _ ⟨rfl,rfl⟩;refine aT ?_;simp only[o.bounds,h1,if_false];exact⟨trivial,ah⟩
theorem Bu(x:o.Var)(v:B_)(l:C_ o.Scalar)(w:A_)(az:o.h5 w v l) :
  Dz F.HP #[.agg x.enc.toArray,v] w fun v w'=>v = .I (o.cells x l)/\Ext w w':=by
 obtain⟨aO,cap,rfl,hlen⟩:=az.form;refine bl E.HP ?_;refine aT ?_;refine O_ fun w1 b an ah al=>?_;have c2:w1.cell? (Addr.add ⟨b,0,none⟩ 2)=some (.I x.over):=fT al rfl;refine aT ?_;refine M_ c2 ?_;refine aT ?_;refine I_ (fun h1=>?_) (fun h1=>?_)
 .refine aT ?_;simp only[o.cells,h1,if_true];exact⟨trivial,ah⟩
 .refine aT ?_;refine M_ c2 ?_;refine aT ?_;refine J_ (SB x.over _ l w1 (bg.ext o.jZ.ext ah az)) ?_;rintro _ _ ⟨rfl,rfl⟩;refine aT ?_;simp only[o.cells,h1,if_false];exact⟨trivial,ah⟩
theorem asI(i:Nat)(b:Nat)(v:B_)(l:C_ o.Var)(w:A_)(az:o.hR w v l)(an:w.cell? ⟨b,0,none⟩=some v)(U:i<l.length) :
  Dz F.w #[.I i,.pointer (some ⟨b,0,none⟩)] w fun v w'=>v = .string (o.nameAt (·.name) l i)/\Ext w w':=by
 obtain⟨aO,cap,rfl,hlen⟩:=az.form;refine bl E.w ?_;refine aT ?_;refine M_ an ?_;refine aT ?_;obtain⟨a,rfl⟩:=az.addr;have ai:=(az.at i U).cells 0 _ rfl;refine K_ i rfl U ?_;refine aT ?_;refine M_ ai ?_;refine aT ?_;rw[su _ _ _ U];exact⟨rfl,Ext.refl w⟩
theorem asJ(i:Nat)(b bP:Nat)(v v2:B_)(l:C_ o.Var)(s:C_ o.Scalar)(w:A_)(az:o.hR w v l)(ak:o.h5 w v2 s)(an:w.cell? ⟨b,0,none⟩=some v)(db:w.cell? ⟨bP,0,none⟩=some v2)
  (U:i<l.length):Dz F.x #[.I i,.pointer (some ⟨b,0,none⟩),.pointer (some ⟨bP,0,none⟩)] w fun v w'=>v = .I (o.pT l s i)/\Ext w w':=by
 obtain⟨aO,cap,rfl,hlen⟩:=az.form;obtain⟨yE,zg,rfl,EW⟩:=ak.form;refine bl E.x ?_;refine aT ?_;refine M_ an ?_;refine aT ?_;obtain⟨a,rfl⟩:=az.addr;have ai:=(az.at i U).cells;have aG:o.pT l s i=if o.there l[i].scalar s=false\/o.there l[i].over s=false then 8
  else if (l[i].scalar=0/\o.narrow l[i].aQ l[i].U=false)\/l[i].init<(o.bounds l[i] s).1\/l[i].init > (o.bounds l[i] s).2 then 10 else 0:=by simp[o.pT,U]
 rw[aG];clear aG;generalize l[i]=x at ai;refine K_ i rfl U ?_;refine aT ?_;refine Z_ ai rfl ?_;refine aT ?_;refine O_ fun w1 q ao ah al=>?_;refine aT ?_;refine T_ al rfl rfl (by simp[o.Var.enc,Value.oneCell']) fun aB hw au=>?_;have aj:Ext w aB:=hw.ext ah ao;clear hw al ah w1;have c1:aB.cell? (Addr.add ⟨q,0,none⟩ 1)=some (.I x.scalar):=fT au rfl;have c2:aB.cell? (Addr.add ⟨q,0,none⟩ 2)=some (.I x.over):=fT au rfl;have zf:aB.cell? (Addr.add ⟨q,0,none⟩ 5)=some (.I x.init):=fT au rfl;have d2:=aj.cell db;have dX:=bg.ext o.jZ.ext aj ak;refine aT ?_;refine M_ c1 ?_;refine aT ?_;refine M_ d2 ?_;refine aT ?_;refine J_ (SU x.scalar _ s aB dX) ?_;rintro _ _ ⟨rfl,rfl⟩;refine aT ?_;refine N_ (fun h1=>?_) (fun h1=>?_);rotate_left
 .refine aT ?_;simp only[h1,true_or,if_true];exact⟨trivial,aj⟩
 refine aT ?_;refine M_ c2 ?_;refine aT ?_;refine M_ d2 ?_;refine aT ?_;refine J_ (SU x.over _ s _ dX) ?_;rintro _ _ ⟨rfl,rfl⟩;refine aT ?_;refine N_ (fun I=>?_) (fun I=>?_);rotate_left
 .refine aT ?_;simp only[I,or_true,if_true];exact⟨trivial,aj⟩
 refine aT ?_;refine Z_ (gN au) rfl ?_;refine aT ?_;refine M_ d2 ?_;refine aT ?_;refine J_ (Hl x _ s _ dX) ?_;rintro _ aK ⟨rfl,ag⟩;rename_i awl;have e1:=ag.cell c1;have bF:=ag.cell zf;have he:=aj.trans ag;refine aT ?_;refine M_ e1 ?_;have c4:¬(o.there x.scalar s=false\/o.there x.over s=false):=by simp[h1,I]
 refine aT ?_;refine I_ (fun ab=>?_) (fun ab=>?_)
 .refine aT ?_;have qg:o.bounds x s=(x.aQ,x.U):=by simp[o.bounds,ab]
  rw[qg];refine J_ (abE x.aQ x.U aK) ?_;rintro _ _ ⟨rfl,rfl⟩;refine aT ?_;refine N_ (fun aE=>?_) (fun aE=>?_);rotate_left
  .refine aT ?_;rw[if_neg c4,if_pos (.inl ⟨ab,aE⟩)];exact⟨rfl,he⟩
  refine aT ?_;refine M_ bF ?_;refine aT ?_;refine I_ (fun aY=>?_) (fun aY=>?_)
  .refine aT ?_;rw[if_neg c4,if_pos (.inr (.inl aY))];exact⟨rfl,he⟩
  refine aT ?_;refine M_ bF ?_;refine aT ?_;refine I_ (fun bz=>?_) (fun bz=>?_)
  .refine aT ?_;rw[if_neg c4,if_pos (.inr (.inr bz))];exact⟨rfl,he⟩
  .refine aT ?_;rw[if_neg c4,if_neg (by rw[aE];simp;omega)];exact⟨rfl,he⟩
 .refine aT ?_;refine M_ bF ?_;refine aT ?_;refine I_ (fun aY=>?_) (fun aY=>?_)
  .refine aT ?_;rw[if_neg c4,if_pos (.inr (.inl aY))];exact⟨rfl,he⟩
  refine aT ?_;refine M_ bF ?_;refine aT ?_;refine I_ (fun bz=>?_) (fun bz=>?_)
  .refine aT ?_;rw[if_neg c4,if_pos (.inr (.inr bz))];exact⟨rfl,he⟩
  .refine aT ?_;rw[if_neg c4,if_neg (by simp[ab];omega)];exact⟨rfl,he⟩
theorem ad1(v v2:B_)(l:C_ o.Var)(s:C_ o.Scalar)(fL:Int)(w:A_)(aJ:gF w)(az:o.hR w v l)(ak:o.h5 w v2 s) :
  Dz F.HG #[v,v2,.I fL] w fun v w'=>v = .tuple #[.I (o.vars l s fL).1,.I (o.vars l s fL).2]/\Ext w w':=by
 obtain⟨aO,cap,rfl,hlen⟩:=az.form;obtain⟨yE,zg,rfl,EW⟩:=ak.form;refine bl E.HG ?_;refine aT ?_;refine O_ fun w1 b an ah al=>?_;refine aT ?_;refine O_ fun aB bP db aj au=>?_;have he:=ah.trans aj;have oV:=bg.ext o.qS.ext he az;have ff:=bg.ext o.jZ.ext he ak;have d1:aB.cell? ⟨b,0,none⟩=some (.slice aO l.length cap):=Bt (aj.obj al) rfl;have d2:aB.cell? ⟨bP,0,none⟩=some (.slice yE s.length zg):=Bt au rfl;refine aT ?_;refine M_ d1 ?_;refine aT ?_;refine J_ (RD l.length (max fL 0) Aw (o.nameAt (·.name) l) (o.pT l s) F.w F.x [_] [_,_] Cq Cq aB (aJ.ext he)
  (fun i U=>by rw[su _ _ _ Aw];obtain⟨a,rfl⟩:=az.addr;exact(az.at i Aw).ok)
  (fun i w' U he=>asI i b _ l w' (bg.ext o.qS.ext he oV) (he.cell d1) Aw)
  (fun i w' U he=>asJ i b bP _ _ l s w' (bg.ext o.qS.ext he oV) (bg.ext o.jZ.ext he ff) (he.cell d1) (he.cell d2) Aw)) ?_
 rintro _ aK ⟨rfl,ag⟩;refine aT ?_;exact⟨rfl,he.trans ag⟩
theorem agy(i:Nat)(b:Nat)(v:B_)(l:C_ o.dg)(w:A_)(az:o.mC w v l)(an:w.cell? ⟨b,0,none⟩=some v)(U:i<l.length) :
  Dz F.rV #[.I i,.pointer (some ⟨b,0,none⟩)] w fun v w'=>v = .string (o.nameAt (·.name) l i)/\Ext w w':=by
 obtain⟨aO,cap,rfl,hlen⟩:=az.form;refine bl E.rV ?_;refine aT ?_;refine M_ an ?_;refine aT ?_;obtain⟨a,rfl⟩:=az.addr;have ai:=(az.at i U).cells 0 _ rfl;refine K_ i rfl U ?_;refine aT ?_;refine M_ ai ?_;refine aT ?_;rw[su _ _ _ U];exact⟨rfl,Ext.refl w⟩
theorem agz(i:Nat)(b bP:Nat)(v v2:B_)(l:C_ o.dg)(s:C_ o.Scalar)(w:A_)(az:o.mC w v l)(ak:o.h5 w v2 s)(an:w.cell? ⟨b,0,none⟩=some v)(db:w.cell? ⟨bP,0,none⟩=some v2)
  (U:i<l.length):Dz F.rW #[.I i,.pointer (some ⟨b,0,none⟩),.pointer (some ⟨bP,0,none⟩)] w fun v w'=>v = .I (o.pw l s i)/\Ext w w':=by
 obtain⟨aO,cap,rfl,hlen⟩:=az.form;obtain⟨yE,zg,rfl,EW⟩:=ak.form;refine bl E.rW ?_;refine aT ?_;refine M_ an ?_;refine aT ?_;obtain⟨a,rfl⟩:=az.addr;have ai:=(az.at i U).cells;have aG:o.pw l s i=if o.there l[i].scalar s=false then 8
  else if l[i].cap<1\/l[i].cap > 4\/(l[i].scalar=0/\o.narrow l[i].aQ l[i].U=false) then 10 else 0:=by simp[o.pw,U]
 rw[aG];clear aG;generalize l[i]=x at ai;refine K_ i rfl U ?_;refine aT ?_;refine Z_ ai rfl ?_;refine aT ?_;refine O_ fun w1 q ao ah al=>?_;refine aT ?_;refine T_ al rfl rfl (by simp[o.dg.enc,Value.oneCell']) fun aB hw au=>?_;have aj:Ext w aB:=hw.ext ah ao;clear hw al ah w1;have c1:aB.cell? (Addr.add ⟨q,0,none⟩ 1)=some (.I x.scalar):=fT au rfl;have c2:aB.cell? (Addr.add ⟨q,0,none⟩ 2)=some (.I x.cap):=fT au rfl;have bp:aB.cell? (Addr.add ⟨q,0,none⟩ 3)=some (.I x.aQ):=fT au rfl;have bB:aB.cell? (Addr.add ⟨q,0,none⟩ 4)=some (.I x.U):=fT au rfl;have d2:=aj.cell db;have dX:=bg.ext o.jZ.ext aj ak;refine aT ?_;refine M_ c1 ?_;refine aT ?_;refine M_ d2 ?_;refine aT ?_;refine J_ (SU x.scalar _ s aB dX) ?_;rintro _ _ ⟨rfl,rfl⟩;refine aT ?_;refine N_ (fun h1=>?_) (fun h1=>?_);rotate_left
 .refine aT ?_;simp only[h1,if_true];exact⟨trivial,aj⟩
 have c4:¬(o.there x.scalar s=false):=by simp[h1]
 refine aT ?_;refine M_ c2 ?_;refine aT ?_;refine I_ (fun I=>?_) (fun I=>?_)
 .refine aT ?_;rw[if_neg c4,if_pos (.inl I)];exact⟨rfl,aj⟩
 refine aT ?_;refine M_ c2 ?_;refine aT ?_;refine I_ (fun ab=>?_) (fun ab=>?_)
 .refine aT ?_;rw[if_neg c4,if_pos (.inr (.inl ab))];exact⟨rfl,aj⟩
 refine aT ?_;refine M_ c1 ?_;refine aT ?_;refine I_ (fun aE=>?_) (fun aE=>?_)
 .refine aT ?_;refine M_ bp ?_;refine aT ?_;refine M_ bB ?_;refine aT ?_;refine J_ (abE x.aQ x.U _) ?_;rintro _ _ ⟨rfl,rfl⟩;refine aT ?_;refine N_ (fun aY=>?_) (fun aY=>?_)
  .refine aT ?_;rw[if_neg c4,if_neg (by rw[aY];simp;omega)];exact⟨rfl,aj⟩
  .refine aT ?_;rw[if_neg c4,if_pos (.inr (.inr ⟨aE,aY⟩))];exact⟨rfl,aj⟩
 .refine aT ?_;rw[if_neg c4,if_neg (by simp[aE];omega)];exact⟨rfl,aj⟩
theorem agB(v v2:B_)(l:C_ o.dg)(s:C_ o.Scalar)(w:A_)(aJ:gF w)(az:o.mC w v l)(ak:o.h5 w v2 s) :
  Dz F.HH #[v,v2] w fun v w'=>v = .tuple #[.I (o.ar l s).1,.I (o.ar l s).2]/\Ext w w':=by
 obtain⟨aO,cap,rfl,hlen⟩:=az.form;obtain⟨yE,zg,rfl,EW⟩:=ak.form;refine bl E.HH ?_;refine aT ?_;refine O_ fun w1 b an ah al=>?_;refine aT ?_;refine O_ fun aB bP db aj au=>?_;have he:=ah.trans aj;have oV:=bg.ext o.qR.ext he az;have ff:=bg.ext o.jZ.ext he ak;have d1:aB.cell? ⟨b,0,none⟩=some (.slice aO l.length cap):=Bt (aj.obj al) rfl;have d2:aB.cell? ⟨bP,0,none⟩=some (.slice yE s.length zg):=Bt au rfl;refine aT ?_;refine M_ d1 ?_;refine aT ?_;refine J_ (RD l.length 4 Aw (o.nameAt (·.name) l) (o.pw l s) F.rV F.rW [_] [_,_] Cq Cq aB (aJ.ext he)
  (fun i U=>by rw[su _ _ _ Aw];obtain⟨a,rfl⟩:=az.addr;exact(az.at i Aw).ok)
  (fun i w' U he=>agy i b _ l w' (bg.ext o.qR.ext he oV) (he.cell d1) Aw)
  (fun i w' U he=>agz i b bP _ _ l s w' (bg.ext o.qR.ext he oV) (bg.ext o.jZ.ext he ff) (he.cell d1) (he.cell d2) Aw)) ?_
 rintro _ aK ⟨rfl,ag⟩;refine aT ?_;exact⟨rfl,he.trans ag⟩
end Go.Proofs.R
end
section
end
section
namespace Go.Proofs.R
open Go Go.RowKit a7
theorem CC(k:Int)(v:B_)(l:C_ o.Scalar)(w:A_)(az:o.h5 w v l) :
  Dz F.FE #[v,.I k] w fun v w'=>v = .I (o.size k l)/\w'=w:=by
 obtain⟨aO,cap,rfl,hlen⟩:=az.form;refine bl E.FE ?_;refine aT ?_;refine I_ (fun h1=>?_) (fun h1=>?_)
 .refine aT ?_;rw[LO (.inl h1)];exact⟨rfl,trivial⟩
 refine aT ?_;refine I_ (fun I=>?_) (fun I=>?_)
 .refine aT ?_;rw[LO (.inr I)];exact⟨rfl,trivial⟩
 obtain⟨a,rfl⟩:=az.addr;have ai:=(az.at (k.toNat - 1) Aw).cells 1 _ rfl;have hk:(k - 1).toNat*2=(k.toNat - 1)*2:=Aw
 rw[adr Aw Aw];rw[<-hk] at ai;generalize l[k.toNat - 1].size=z at ai
 (repeat' first
  | (refine I_ (fun _=>?_) (fun _=>?_)<;>try (exfalso;omega))
  | (refine N_ (fun _=>?_) (fun _=>?_))
  | (refine Q_ Aw ?_)
  | (refine M_ Br ?_)
  | (refine _a Aw ?_)
  | simp -dsimp only[cV,cu,Nat.reduceAdd,Nat.reduceEqDiff,reduceIte,reduceCtorEq,c3])
 .rw[if_neg Aw];exact⟨rfl,trivial⟩
 .rw[if_neg Aw];exact⟨rfl,trivial⟩
 .rw[if_pos Aw];exact⟨rfl,trivial⟩
theorem Si(x:o.Var)(v:B_)(l:C_ o.Scalar)(w:A_)(az:o.h5 w v l) :
  Dz F.Kt #[.agg x.enc.toArray,v] w fun v w'=>v = .tuple #[.I (o.bounds x l).1,.I (o.bounds x l).2]/\Ext w w':=by
 obtain⟨aO,cap,rfl,hlen⟩:=az.form;refine bl E.Kt ?_;refine aT ?_;refine O_ fun w1 b an ah al=>?_;have c1:w1.cell? (Addr.add ⟨b,0,none⟩ 1)=some (.I x.scalar):=fT al rfl;have bp:w1.cell? (Addr.add ⟨b,0,none⟩ 3)=some (.I x.aQ):=fT al rfl;have bB:w1.cell? (Addr.add ⟨b,0,none⟩ 4)=some (.I x.U):=fT al rfl;refine aT ?_;refine M_ c1 ?_;refine aT ?_;refine I_ (fun h1=>?_) (fun h1=>?_)
 .refine aT ?_;refine M_ bp ?_;refine aT ?_;refine M_ bB ?_;refine aT ?_;intro aB aj;simp only[o.bounds,h1,if_true];exact⟨trivial,ah.trans aj⟩
 .refine aT ?_;refine M_ c1 ?_;refine aT ?_;refine J_ (CC x.scalar _ l w1 (bg.ext o.jZ.ext ah az)) ?_;rintro _ _ ⟨rfl,rfl⟩;refine aT ?_;simp only[o.bounds,h1,if_false];exact⟨trivial,ah⟩
theorem Sj(x:o.Var)(v:B_)(l:C_ o.Scalar)(w:A_)(az:o.h5 w v l) :
  Dz F.Ku #[.agg x.enc.toArray,v] w fun v w'=>v = .I (o.cells x l)/\Ext w w':=by
 obtain⟨aO,cap,rfl,hlen⟩:=az.form;refine bl E.Ku ?_;refine aT ?_;refine O_ fun w1 b an ah al=>?_;have c2:w1.cell? (Addr.add ⟨b,0,none⟩ 2)=some (.I x.over):=fT al rfl;refine aT ?_;refine M_ c2 ?_;refine aT ?_;refine I_ (fun h1=>?_) (fun h1=>?_)
 .refine aT ?_;simp only[o.cells,h1,if_true];exact⟨trivial,ah⟩
 .refine aT ?_;refine M_ c2 ?_;refine aT ?_;refine J_ (CC x.over _ l w1 (bg.ext o.jZ.ext ah az)) ?_;rintro _ _ ⟨rfl,rfl⟩;refine aT ?_;simp only[o.cells,h1,if_false];exact⟨trivial,ah⟩
end Go.Proofs.R
end
section
namespace Go.Proofs.R
open Go Go.RowKit a7
theorem acT(n:Int)(w:A_):Dz F.Cu #[.int .u8 n] w fun v w'=>v = .bool (o.letter n)/\w'=w:=by
 refine bl E.Cu ?_
 (repeat' first
  | (refine I_ (fun _=>?_) (fun _=>?_)<;>try (exfalso;omega))
  | (refine N_ (fun _=>?_) (fun _=>?_))
  | (refine Q_ Aw ?_)
  | (refine M_ Br ?_)
  | (refine _a Aw ?_)
  | simp -dsimp only[cV,cu,Nat.reduceAdd,Nat.reduceEqDiff,reduceIte,reduceCtorEq,c3])
 all_goals (refine⟨?_,by first | rfl | trivial⟩;congr 1;rw[AG7];simp[o.letter];omega)
theorem Sf(n:Int)(w:A_):Dz F.Ah #[.int .u8 n] w fun v w'=>v = .bool (o.digit n)/\w'=w:=by
 refine bl E.Ah ?_
 (repeat' first
  | (refine I_ (fun _=>?_) (fun _=>?_)<;>try (exfalso;omega))
  | (refine N_ (fun _=>?_) (fun _=>?_))
  | (refine Q_ Aw ?_)
  | (refine M_ Br ?_)
  | (refine _a Aw ?_)
  | simp -dsimp only[cV,cu,Nat.reduceAdd,Nat.reduceEqDiff,reduceIte,reduceCtorEq,c3])
 all_goals (refine⟨?_,by first | rfl | trivial⟩;congr 1;rw[AG7];simp[o.digit];omega)
def w7:C_ ByteArray:=[⟨#[58,61]⟩,⟨#[61,61]⟩,⟨#[33,61]⟩,⟨#[60,61]⟩,⟨#[45,62]⟩,⟨#[38,38]⟩,⟨#[124,124]⟩,⟨#[61,62]⟩,⟨#[40]⟩,⟨#[41]⟩,⟨#[91]⟩,⟨#[93]⟩,⟨#[123]⟩,⟨#[125]⟩,⟨#[59]⟩,⟨#[44]⟩,⟨#[58]⟩,⟨#[46]⟩,⟨#[60]⟩,⟨#[43]⟩,⟨#[45]⟩,⟨#[42]⟩,⟨#[33]⟩,⟨#[63]⟩,⟨#[64]⟩]
theorem arx(w:A_):Dz F.Ke #[] w fun v w'=>(∃b,v = .slice (some ⟨b,0,none⟩) 25 25/\e7 w' ⟨b,0,none⟩ (w7.map Value.string))/\Ext w w':=by
 refine bl E.Ke ?_;refine aT ?_;refine Y_ (cs:=w7.map Value.string) (by simp[List.range,List.range.loop,eZ,lay,c0,n2,bL,Value.cells,w7]) fun w1 br cF ah al=>?_;refine aT ?_;exact⟨⟨br,rfl,gN al⟩,ah⟩
theorem afx(s:ByteArray)(w:A_)(h:0<s.size)(ak:s.size<=16) :
  Dz F.Kd #[.string s,.I 0] w fun v w'=>(∃n k:Int,v = .tuple #[.I n,.I k]/\if o.letter (o.s4 s 0:Nat)=true then n=o.run o.part s/\k=1 else k≠1)/\Ext w w':=by
 refine bl E.Kd ?_;refine aT ?_;refine _b (s.get! 0) BJ (o.get?_eq s 0 h) ?_;refine aT ?_;refine J_ (acT _ w) ?_;rintro _ w ⟨rfl,rfl⟩;refine aT ?_;refine N_ (fun h1=>?_) (fun h1=>?_)
 .have q5:o.letter (o.s4 s 0:Nat)=true:=h1;refine aT ?_;refine _A (fun S w' => ∃i:Nat,i<=s.size/\S 6 = .I i/\(∀j (aC:j<s.size),j<i->o.part s[j].toNat=true)/\w'=w)
   (fun S _=>(s.size - intOf (S 6)).toNat) ⟨0,Aw,by refine aT ?_;rfl,fun _ _ h=>absurd h (LC _),rfl⟩ ?_
  rintro S w b3 ⟨i,U,bz,du,rfl⟩;have ad:=b3 0 rfl;have h1:=b3 1 rfl;simp only[bL,Nat.reduceAdd,Nat.reduceEqDiff,reduceIte,j4,nr] at ad h1;clear b3;refine b7 (i_ ad (i_ h1 bz)) ?_;refine I_ (fun I=>?_) (fun I=>?_)
  .have cw:i<s.size:=Aw
   refine b7 (i_ ad (i_ h1 bz)) ?_;refine _b (s.get! i) Aw (o.get?_eq s i cw) ?_;rw[o.get_eq s i cw];refine b7 (i_ ad (i_ h1 bz)) ?_;refine J_ (acT _ _) ?_;rintro _ w ⟨rfl,rfl⟩;refine b7 (i_ ad (i_ h1 bz)) ?_;refine N_ (fun ab=>?_) (fun ab=>?_)
   .refine b7 (i_ ad (i_ h1 bz)) ?_;refine Q_ Aw ?_;refine b7 (i_ ad (i_ h1 bz)) ?_;refine⟨⟨i+1,Aw,rfl,fun j aC hF=>?_,trivial⟩,by simp[intOf];omega⟩;by_cases mO:j<i
    .exact du j aC mO
    .have:j=i:=Aw
     subst this;simp[o.part,ab]
   refine b7 (i_ ad (i_ h1 bz)) ?_;refine _b (s.get! i) Aw (o.get?_eq s i cw) ?_;rw[o.get_eq s i cw];refine b7 (i_ ad (i_ h1 bz)) ?_;refine J_ (Sf _ _) ?_;rintro _ w ⟨rfl,rfl⟩;refine b7 (i_ ad (i_ h1 bz)) ?_;refine N_ (fun aE=>?_) (fun aE=>?_)
   .refine b7 (i_ ad (i_ h1 bz)) ?_;refine Q_ Aw ?_;refine b7 (i_ ad (i_ h1 bz)) ?_;refine⟨⟨i+1,Aw,rfl,fun j aC hF=>?_,trivial⟩,by simp[intOf];omega⟩;by_cases mO:j<i
    .exact du j aC mO
    .have:j=i:=Aw
     subst this;simp[o.part,aE]
   refine b7 (i_ ad (i_ h1 bz)) ?_;refine _b (s.get! i) Aw (o.get?_eq s i cw) ?_;rw[o.get_eq s i cw];refine b7 (i_ ad (i_ h1 bz)) ?_;refine I_ (fun aY=>?_) (fun aY=>?_)
   .refine b7 (i_ ad (i_ h1 bz)) ?_;refine Q_ Aw ?_;refine b7 (i_ ad (i_ h1 bz)) ?_;refine⟨⟨i+1,Aw,rfl,fun j aC hF=>?_,trivial⟩,by simp[intOf];omega⟩;by_cases mO:j<i
    .exact du j aC mO
    .have:j=i:=Aw
     subst this;simp[o.part];omega
   .refine b7 (i_ ad (i_ h1 bz)) ?_;refine Q_ Aw ?_;refine b7 (i_ ad (i_ h1 bz)) ?_;refine⟨⟨_,_,rfl,?_⟩,Ext.refl _⟩;rw[if_pos q5];rw[o.adf o.part s i cw (fun j aC=>du j Aw aC) (by simp only[o.part,ab,aE,Bool.false_or,decide_eq_false_iff_not];omega)];exact⟨Aw,rfl⟩
  .refine b7 (i_ ad (i_ h1 bz)) ?_;refine Q_ Aw ?_;refine b7 (i_ ad (i_ h1 bz)) ?_;refine⟨⟨_,_,rfl,?_⟩,Ext.refl _⟩;rw[if_pos q5];rw[o.ac5 o.part s (fun j aC=>du j aC Aw)];exact⟨Aw,rfl⟩
 have q5:o.letter (o.s4 s 0:Nat)=false:=h1;have fg:¬o.letter (o.s4 s 0:Nat)=true:=by simp[q5]
 refine aT ?_;refine _b (s.get! 0) BJ (o.get?_eq s 0 h) ?_;refine aT ?_;refine J_ (Sf _ w) ?_;rintro _ w ⟨rfl,rfl⟩;refine aT ?_;refine N_ (fun I=>?_) (fun I=>?_)
 .refine aT ?_;refine _A (fun S w' => ∃i:Nat,i<=s.size/\S 6 = .I i/\w'=w)
   (fun S _=>(s.size - intOf (S 6)).toNat) ⟨0,Aw,by refine aT ?_;rfl,rfl⟩ ?_
  rintro S w b3 ⟨i,U,bz,rfl⟩;have ad:=b3 0 rfl;have h1:=b3 1 rfl;simp only[bL,Nat.reduceAdd,Nat.reduceEqDiff,reduceIte,j4,nr] at ad h1;clear b3;refine b7 (i_ ad (i_ h1 bz)) ?_;refine I_ (fun I=>?_) (fun I=>?_)
  .have cw:i<s.size:=Aw
   refine b7 (i_ ad (i_ h1 bz)) ?_;refine _b (s.get! i) Aw (o.get?_eq s i cw) ?_;refine b7 (i_ ad (i_ h1 bz)) ?_;refine J_ (Sf _ _) ?_;rintro _ w ⟨rfl,rfl⟩;refine b7 (i_ ad (i_ h1 bz)) ?_;refine N_ (fun aE=>?_) (fun aE=>?_)
   .refine b7 (i_ ad (i_ h1 bz)) ?_;refine Q_ Aw ?_;refine b7 (i_ ad (i_ h1 bz)) ?_;exact⟨⟨i+1,Aw,rfl,trivial⟩,by simp[intOf];omega⟩
   .refine b7 (i_ ad (i_ h1 bz)) ?_;refine Q_ Aw ?_;refine b7 (i_ ad (i_ h1 bz)) ?_;exact⟨⟨_,_,rfl,by rw[if_neg fg];decide⟩,Ext.refl _⟩
  .refine b7 (i_ ad (i_ h1 bz)) ?_;refine Q_ Aw ?_;refine b7 (i_ ad (i_ h1 bz)) ?_;exact⟨⟨_,_,rfl,by rw[if_neg fg];decide⟩,Ext.refl _⟩
 refine aT ?_;refine J_ (arx w) ?_;rintro _ w1 ⟨⟨b,rfl,ai⟩,he⟩;refine aT ?_;refine _A (fun S w' => ∃i:Nat,i<=25/\S 8 = .I i/\Ext w1 w')
  (fun S _=>(25 - intOf (S 8)).toNat) ⟨0,Aw,by refine aT ?_;rfl,Ext.refl _⟩ ?_
 rintro S w' b3 ⟨i,U,dF,aj⟩;have ad:=b3 0 rfl;have h1:=b3 1 rfl;have b0:=b3 7 rfl;simp only[bL,Nat.reduceAdd,Nat.reduceEqDiff,reduceIte,j4,nr] at ad h1 b0;clear b3;refine b7 (i_ ad (i_ h1 (i_ b0 dF))) ?_;refine I_ (fun I=>?_) (fun I=>?_)
 .have cw:i<w7.length:=by simp[w7];omega
  have gj:w'.cell? (Addr.add ⟨b,0,none⟩ (i*1))=some (.string w7[i]):=by
   rw[AG8];exact ai.ext aj i _ (by rw[List.getElem?_map,List.getElem?_eq_getElem cw];rfl)
  have bw:w7[i].size<=2:=by
   have:∀x∈w7,x.size<=2:=BJ
   exact this _ (Gy _)
  generalize w7[i]=x at gj bw;refine b7 (i_ ad (i_ h1 (i_ b0 dF))) ?_;refine Q_ Aw ?_;refine b7 (i_ ad (i_ h1 (i_ b0 dF))) ?_;refine K_ i rfl Aw ?_;refine b7 (i_ ad (i_ h1 (i_ b0 dF))) ?_;refine M_ gj ?_;refine b7 (i_ ad (i_ h1 (i_ b0 dF))) ?_;refine I_ (fun ab=>?_) (fun ab=>?_)
  .refine b7 (i_ ad (i_ h1 (i_ b0 dF))) ?_;refine K_ i rfl Aw ?_;refine b7 (i_ ad (i_ h1 (i_ b0 dF))) ?_;refine M_ gj ?_;refine b7 (i_ ad (i_ h1 (i_ b0 dF))) ?_;refine Q_ Aw ?_;refine b7 (i_ ad (i_ h1 (i_ b0 dF))) ?_;refine AA7 0 x.size (by simp[et,c0,bL,h1]) (by simp[et,c0,bL,h1]) Aw ?_;refine b7 (i_ ad (i_ h1 (i_ b0 dF))) ?_;refine K_ i rfl Aw ?_;refine b7 (i_ ad (i_ h1 (i_ b0 dF))) ?_;refine M_ gj ?_;refine b7 (i_ ad (i_ h1 (i_ b0 dF))) ?_;intro aB ag;refine I_ (fun aE=>?_) (fun aE=>?_)
   .refine b7 (i_ ad (i_ h1 (i_ b0 dF))) ?_;refine K_ i rfl Aw ?_;refine b7 (i_ ad (i_ h1 (i_ b0 dF))) ?_;refine M_ (ag.cell gj) ?_;refine b7 (i_ ad (i_ h1 (i_ b0 dF))) ?_;exact⟨⟨_,_,rfl,by rw[if_neg fg];decide⟩,he.trans (aj.trans ag)⟩
   .refine b7 (i_ ad (i_ h1 (i_ b0 dF))) ?_;refine Q_ Aw ?_;refine b7 (i_ ad (i_ h1 (i_ b0 dF))) ?_;exact⟨⟨i+1,Aw,rfl,aj.trans ag⟩,by simp[intOf];omega⟩
  .refine b7 (i_ ad (i_ h1 (i_ b0 dF))) ?_;intro aB ag;refine Q_ Aw ?_;refine b7 (i_ ad (i_ h1 (i_ b0 dF))) ?_;exact⟨⟨i+1,Aw,rfl,aj.trans ag⟩,by simp[intOf];omega⟩
 .refine b7 (i_ ad (i_ h1 (i_ b0 dF))) ?_;exact⟨⟨_,_,rfl,by rw[if_neg fg];decide⟩,he.trans aj⟩
theorem CG(s:ByteArray)(w:A_)(ak:s.size<=9223372036854775807):Dz F.Kc #[.string s] w fun v w'=>v = .bool (o.isName s)/\Ext w w':=by
 refine bl E.Kc ?_;refine aT ?_;refine I_ (fun ad=>?_) (fun ad=>?_)
 .refine aT ?_;refine⟨?_,Ext.refl w⟩;subst ad;rfl
 have bw:s.size≠0:=fun h=>ad (by
  cases s with | mk d =>
  have:d=#[]:=by simpa[ByteArray.size] using h
  rw[this])
 refine aT ?_;refine I_ (fun h1=>?_) (fun h1=>?_)
 .refine aT ?_;refine⟨?_,Ext.refl w⟩
  have:¬s.size<=16:=Aw
  simp[o.isName,this]
 have q5:s.size<=16:=Aw
 refine aT ?_;refine I_ (fun I=>?_) (fun I=>?_)
 .refine aT ?_;exact⟨by subst I;exact congrArg Value.bool (by decide +kernel),Ext.refl w⟩
 refine aT ?_;refine I_ (fun ab=>?_) (fun ab=>?_)
 .refine aT ?_;exact⟨by subst ab;exact congrArg Value.bool (by decide +kernel),Ext.refl w⟩
 refine aT ?_;refine I_ (fun aE=>?_) (fun aE=>?_)
 .refine aT ?_;exact⟨by subst aE;exact congrArg Value.bool (by decide +kernel),Ext.refl w⟩
 refine aT ?_;refine I_ (fun aY=>?_) (fun aY=>?_)
 .refine aT ?_;exact⟨by subst aY;exact congrArg Value.bool (by decide +kernel),Ext.refl w⟩
 have hm:s∉o.rz:=by simp[o.rz,I,ab,aE,aY]
 refine aT ?_;refine J_ (afx s w Aw q5) ?_;rintro _ w1 ⟨⟨n,k,rfl,mn⟩,he⟩;refine aT ?_;refine I_ (fun bz=>?_) (fun bz=>?_)
 .refine aT ?_;refine⟨?_,he⟩;have az:o.letter (o.s4 s 0:Nat)=true:=by
   by_cases af:o.letter (o.s4 s 0:Nat)=true
   .exact af
   .rw[if_neg af] at mn;exact absurd bz mn
  rw[if_pos az] at mn;congr 1;simp[o.isName,az,bw,q5,hm,mn.1];omega
 .refine aT ?_;refine⟨?_,he⟩;have az:o.letter (o.s4 s 0:Nat)=false:=by
   by_cases af:o.letter (o.s4 s 0:Nat)=true
   .rw[if_pos af] at mn;exact absurd mn.2 bz
   .simpa using af
  simp[o.isName,az]
end Go.Proofs.R
end
section
namespace Go.Proofs.R
open Go Go.RowKit a7
theorem zq{fL:Int}{fZ:Nat->ByteArray}{mo:Nat->Int}{i:Nat}(h:fL<=i):o.err fL fZ mo i=11:=by rw[o.err,if_pos h]
theorem BD{fL:Int}{fZ:Nat->ByteArray}{mo:Nat->Int}{i:Nat}(h:¬fL<=i)(I:o.isName (fZ i)=false):o.err fL fZ mo i=6:=by rw[o.err,if_neg h,if_pos I]
theorem Oy{fL:Int}{fZ:Nat->ByteArray}{mo:Nat->Int}{i j:Nat}(h:¬fL<=i)(I:o.isName (fZ i)=true)(aC:j<i)(he:fZ j=fZ i):o.err fL fZ mo i=7:=by
 rw[o.err,if_neg h,if_neg (by simp[I]),if_pos ⟨j,aC,he⟩]
theorem Ox{fL:Int}{fZ:Nat->ByteArray}{mo:Nat->Int}{i:Nat}(h:¬fL<=i)(I:o.isName (fZ i)=true)(aC:∀j,j<i->fZ j≠fZ i):o.err fL fZ mo i=mo i:=by
 rw[o.err,if_neg h,if_neg (by simp[I]),if_neg (fun⟨j,h1,I⟩=>aC j h1 I)]
theorem abu{fL:Int}{fZ:Nat->ByteArray}{mo:Nat->Int}{i:Nat}(hm:0<=fL)(h:∀j,j<i->o.err fL fZ mo j=0):(i:Int)<=fL:=by
 by_cases af:(i:Int)<=fL
 .exact af
 .have:=h fL.toNat Aw
  rw[zq Aw] at this;cases this
theorem aqC(v:B_)(l:C_ o.Scalar)(w:A_)(az:o.h5 w v l) :
  Dz F.Kw #[v] w fun v w'=>v = .tuple #[.I (o.scalars l).1,.I (o.scalars l).2]/\Ext w w':=by
 obtain⟨aO,cap,rfl,hlen⟩:=az.form;refine bl E.Kw ?_;simp -dsimp only[cV,cu,Nat.reduceAdd,Nat.reduceEqDiff,reduceIte,reduceCtorEq,c3];refine _A (fun S w' => ∃i:Nat,i<=l.length/\S 4 = .I i/\(∀j,j<i->o.err 2 (o.nameAt (·.name) l) (o.va l) j=0)/\Ext w w')
  (fun S _=>(l.length - intOf (S 4)).toNat) ⟨0,Aw,by simp -dsimp only[cV,cu,Nat.reduceAdd,Nat.reduceEqDiff,reduceIte,reduceCtorEq,c3];rfl,fun _ h=>absurd h (LC _),Ext.refl _⟩ ?_
 rintro S w' b3 ⟨i,U,aE,du,he⟩;have ad:=b3 0 rfl;simp only[bL,Nat.reduceAdd,Nat.reduceEqDiff,reduceIte,j4,nr] at ad;clear b3;have qt:=abu Aw du;refine b7 (i_ ad aE) ?_;apply I_<;>intro g1;rotate_left
 .refine b7 (i_ ad aE) ?_;rw[o.scalars,o.py (fun j aC=>du j Aw)];exact⟨rfl,he⟩
 have cw:i<l.length:=Aw
 obtain⟨a,rfl⟩:=az.addr;have ir:=bg.ext o.jZ.ext he az;have tk:=(ir.at i cw).cells 0 _ rfl;have al:=(ir.at i cw).cells 1 _ rfl;have c5:o.jB l[i].name:=(ir.at i cw).ok;have fX:o.nameAt (fun x:o.Scalar=>x.name) l i=l[i].name:=su _ _ _ cw;refine b7 (i_ ad aE) ?_;apply I_<;>intro g2
 .refine b7 (i_ ad aE) ?_;rw[o.scalars,o.jr cw du (by rw[zq Aw];decide),zq Aw];exact⟨rfl,he⟩
 have hm:¬(2:Int)<=(i:Int):=Aw
 refine b7 (i_ ad aE) ?_;refine K_ i rfl cw ?_;refine b7 (i_ ad aE) ?_;refine M_ tk ?_;refine b7 (i_ ad aE) ?_;refine J_ (CG _ _ c5) ?_;rintro _ aB ⟨rfl,aj⟩;refine b7 (i_ ad aE) ?_;refine N_ (fun g3=>?_) (fun g3=>?_);rotate_left
 .refine b7 (i_ ad aE) ?_;rw[<-fX] at g3;rw[o.scalars,o.jr cw du (by rw[BD hm g3];decide),BD hm g3];exact⟨rfl,he.trans aj⟩
 have q4:=g3;rw[<-fX] at q4;replace aj:=he.trans aj;clear he ir;refine b7 (i_ ad aE) ?_;refine _A (fun aZ w' => ∃k:Nat,k<=i/\aZ 5 = .I k/\(∀j,j<k->o.nameAt (fun x:o.Scalar=>x.name) l j≠o.nameAt (fun x:o.Scalar=>x.name) l i)/\Ext w w')
  (fun S _=>(i - intOf (S 5)).toNat) ⟨0,Aw,by simp -dsimp only[cV,cu,Nat.reduceAdd,Nat.reduceEqDiff,reduceIte,reduceCtorEq,c3];rfl,fun _ h=>absurd h (LC _),aj⟩ ?_
 rintro kU aK kH ⟨k,hk,aY,b8,ag⟩;have bW:=ad;have bZ:=aE;have ad:=kH 0 rfl;have aE:=kH 4 rfl;simp only[bL,Nat.reduceAdd,Nat.reduceEqDiff,reduceIte,j4,nr] at ad aE;clear kH;rw[bW] at ad;rw[bZ] at aE;have ir:=bg.ext o.jZ.ext ag az;have tk:=(ir.at i cw).cells 0 _ rfl;have al:=(ir.at i cw).cells 1 _ rfl;refine b7 (i_ ad (i_ aE aY)) ?_;apply I_<;>intro g4
 .have aV:k<l.length:=Aw
  have lU:=(ir.at k aV).cells 0 _ rfl;have mn:o.nameAt (fun x:o.Scalar=>x.name) l k=l[k].name:=su _ _ _ aV;refine b7 (i_ ad (i_ aE aY)) ?_;refine K_ k rfl aV ?_;refine b7 (i_ ad (i_ aE aY)) ?_;refine M_ lU ?_;refine b7 (i_ ad (i_ aE aY)) ?_;refine K_ i rfl cw ?_;refine b7 (i_ ad (i_ aE aY)) ?_;refine M_ tk ?_;refine b7 (i_ ad (i_ aE aY)) ?_;intro aR aw;apply I_<;>intro g5
  .refine b7 (i_ ad (i_ aE aY)) ?_;have aA:=Oy (mo:=o.va l) hm q4 (show k<i by omega) (by rw[mn,fX];exact g5);rw[o.scalars,o.jr cw du (by rw[aA];decide),aA];exact⟨rfl,ag.trans aw⟩
  .refine b7 (i_ ad (i_ aE aY)) ?_;refine Q_ Aw ?_;refine b7 (i_ ad (i_ aE aY)) ?_;refine⟨⟨k+1,Aw,rfl,fun j aC=>?_,ag.trans aw⟩,by simp[intOf];omega⟩;by_cases gU:j<k
   .exact b8 j gU
   .have:j=k:=Aw
    subst this;rw[mn,fX];exact g5
 have ht:=Ox (mo:=o.va l) hm q4 (fun j aC=>b8 j Aw);have tw:o.va l i=if 1<=l[i].size/\l[i].size<=4 then 0 else 10:=by simp[o.va,cw]
 rw[tw] at ht;generalize l[i].size=z at al ht;refine b7 (i_ ad (i_ aE aY)) ?_;refine K_ i rfl cw ?_;refine b7 (i_ ad (i_ aE aY)) ?_;refine M_ al ?_;refine b7 (i_ ad (i_ aE aY)) ?_;apply I_<;>intro g6
 .refine b7 (i_ ad (i_ aE aY)) ?_;rw[if_neg Aw] at ht;rw[o.scalars,o.jr cw du (by rw[ht];decide),ht];exact⟨rfl,ag⟩
 refine b7 (i_ ad (i_ aE aY)) ?_;refine K_ i rfl cw ?_;refine b7 (i_ ad (i_ aE aY)) ?_;refine M_ al ?_;refine b7 (i_ ad (i_ aE aY)) ?_;apply I_<;>intro g7
 .refine b7 (i_ ad (i_ aE aY)) ?_;rw[if_neg Aw] at ht;rw[o.scalars,o.jr cw du (by rw[ht];decide),ht];exact⟨rfl,ag⟩
 .refine b7 (i_ ad (i_ aE aY)) ?_;rw[if_pos Aw] at ht;refine Q_ Aw ?_;refine b7 (i_ ad (i_ aE aY)) ?_;refine⟨⟨i+1,Aw,rfl,fun j aC=>?_,ag⟩,by simp[intOf,bZ];omega⟩;by_cases hF:j<i
  .exact du j hF
  .have:j=i:=Aw
   subst this;exact ht
end Go.Proofs.R
end
section
namespace Go.Proofs.R
open Go Go.RowKit a7
theorem adz(aQ U:Int)(w:A_):Dz F.FF #[.I aQ,.I U] w fun v w'=>v = .bool (o.narrow aQ U)/\w'=w:=by
 refine bl E.FF ?_
 (repeat' first
  | (refine I_ (fun _=>?_) (fun _=>?_)<;>try (exfalso;omega))
  | (refine N_ (fun _=>?_) (fun _=>?_))
  | (refine Q_ Aw ?_)
  | (refine M_ Br ?_)
  | (refine _a Aw ?_)
  | simp -dsimp only[cV,cu,Nat.reduceAdd,Nat.reduceEqDiff,reduceIte,reduceCtorEq,c3])
 all_goals (refine⟨?_,by first | rfl | trivial⟩;congr 1;rw[AG7];simp[o.narrow];omega)
def Ma(v:o.Var)(s:C_ o.Scalar):Int :=
 if (v.scalar≠0/\o.size v.scalar s=0)\/(v.over≠0/\o.size v.over s=0) then 8
 else if v.scalar=0/\(o.narrow v.aQ v.U=false\/v.init<v.aQ\/v.init > v.U) then 10
 else if v.scalar≠0/\(v.init<0\/v.init > o.size v.scalar s) then 10 else 0
theorem asG(l:C_ o.Var)(s:C_ o.Scalar)(i:Nat)(h:i<l.length):o.pT l s i=Ma l[i] s:=by
 rw[o.pT,List.getElem?_eq_getElem h];simp only[Ma,o.there,o.bounds,decide_eq_false_iff_not];by_cases ad:l[i].scalar=0
 .simp only[ad,if_true];by_cases h1:l[i].over=0
  .simp[h1]
  .simp[h1]
 .simp only[ad,if_false];by_cases h1:l[i].over=0
  .simp[ad,h1]
  .simp[ad,h1]
theorem aqE(x:o.Var)(v:B_)(l:C_ o.Scalar)(w:A_)(az:o.h5 w v l) :
  Dz F.Ky #[.agg x.enc.toArray,v] w fun v w'=>v = .I (Ma x l)/\Ext w w':=by
 obtain⟨aO,cap,rfl,hlen⟩:=az.form;refine bl E.Ky ?_;simp -dsimp only[cV,cu,Nat.reduceAdd,Nat.reduceEqDiff,reduceIte,reduceCtorEq,c3];refine O_ fun w1 b an ah al=>?_;have oV:=bg.ext o.jZ.ext ah az;have c1:w1.cell? (Addr.add ⟨b,0,none⟩ 1)=some (.I x.scalar):=fT al rfl;have c2:w1.cell? (Addr.add ⟨b,0,none⟩ 2)=some (.I x.over):=fT al rfl;have bp:w1.cell? (Addr.add ⟨b,0,none⟩ 3)=some (.I x.aQ):=fT al rfl;have bB:w1.cell? (Addr.add ⟨b,0,none⟩ 4)=some (.I x.U):=fT al rfl;have zf:w1.cell? (Addr.add ⟨b,0,none⟩ 5)=some (.I x.init):=fT al rfl;have ao:∀k w',Ext w1 w'->Dz F.FE #[.slice aO l.length cap,.I k] w' fun u bM=>u = .I (o.size k l)/\Ext w' bM:=fun k w' he =>
  (CC k _ l w' (bg.ext o.jZ.ext he oV)).mono fun v bM h=>⟨h.1,h.2 ▸ Ext.refl _⟩
 (repeat' first
  | (refine I_ (fun _=>?_) (fun _=>?_)<;>try (exfalso;omega))
  | (refine N_ (fun _=>?_) (fun _=>?_))
  | (refine M_ Br ?_)
  | (refine J_ (CC _ _ l _ oV) ?_;rintro _ w1 ⟨rfl,rfl⟩)
  | (refine J_ (adz _ _ _) ?_;rintro _ w1 ⟨rfl,rfl⟩)
  | (refine P_ _ (ao _) ?_)
  | simp -dsimp only[cV,cu,Nat.reduceAdd,Nat.reduceEqDiff,reduceIte,reduceCtorEq,c3]
  | (intro aB aj;replace aj:=ah.trans aj))
 all_goals (refine⟨?_,Br⟩;congr 1;unfold Ma;simp only[o.narrow,decide_eq_false_iff_not])
 all_goals (repeat' split)
 all_goals first | rfl | (exfalso;omega)
theorem acL(v v2:B_)(l:C_ o.Var)(s:C_ o.Scalar)(fL:Int)(w:A_)(az:o.hR w v l)(ak:o.h5 w v2 s) :
  Dz F.Kx #[v,v2,.I fL] w fun v w'=>v = .tuple #[.I (o.vars l s fL).1,.I (o.vars l s fL).2]/\Ext w w':=by
 obtain⟨aO,cap,rfl,hlen⟩:=az.form;refine bl E.Kx ?_;simp -dsimp only[cV,cu,Nat.reduceAdd,Nat.reduceEqDiff,reduceIte,reduceCtorEq,c3];refine _A (fun S w' => ∃i:Nat,i<=l.length/\S 8 = .I i/\(∀j,j<i->o.err (max fL 0) (o.nameAt (·.name) l) (o.pT l s) j=0)/\Ext w w')
  (fun S _=>(l.length - intOf (S 8)).toNat) ⟨0,Aw,by simp -dsimp only[cV,cu,Nat.reduceAdd,Nat.reduceEqDiff,reduceIte,reduceCtorEq,c3];rfl,fun _ h=>absurd h (LC _),Ext.refl _⟩ ?_
 rintro S w' b3 ⟨i,U,dF,du,he⟩;have ad:=b3 0 rfl;have h1:=b3 1 rfl;have I:=b3 2 rfl;simp only[bL,Nat.reduceAdd,Nat.reduceEqDiff,reduceIte,j4,nr] at ad h1 I;clear b3;refine b7 (i_ ad (i_ h1 (i_ I dF))) ?_;apply I_<;>intro g1;rotate_left
 .refine b7 (i_ ad (i_ h1 (i_ I dF))) ?_;rw[o.vars,o.py (fun j aC=>du j Aw)];exact⟨rfl,he⟩
 have cw:i<l.length:=Aw
 obtain⟨a,rfl⟩:=az.addr;have ir:=bg.ext o.qS.ext he az;have tk:=(ir.at i cw).cells 0 _ rfl;have c5:o.jB l[i].name:=(ir.at i cw).ok;have fX:o.nameAt (fun x:o.Var=>x.name) l i=l[i].name:=su _ _ _ cw;refine b7 (i_ ad (i_ h1 (i_ I dF))) ?_;apply I_<;>intro g2
 .refine b7 (i_ ad (i_ h1 (i_ I dF))) ?_;rw[o.vars,o.jr cw du (by rw[zq Aw];decide),zq Aw];exact⟨rfl,he⟩
 have hm:¬(max fL 0:Int)<=(i:Int):=Aw
 refine b7 (i_ ad (i_ h1 (i_ I dF))) ?_;refine K_ i rfl cw ?_;refine b7 (i_ ad (i_ h1 (i_ I dF))) ?_;refine M_ tk ?_;refine b7 (i_ ad (i_ h1 (i_ I dF))) ?_;refine J_ (CG _ _ c5) ?_;rintro _ aB ⟨rfl,aj⟩;refine b7 (i_ ad (i_ h1 (i_ I dF))) ?_;refine N_ (fun g3=>?_) (fun g3=>?_);rotate_left
 .refine b7 (i_ ad (i_ h1 (i_ I dF))) ?_;rw[<-fX] at g3;rw[o.vars,o.jr cw du (by rw[BD hm g3];decide),BD hm g3];exact⟨rfl,he.trans aj⟩
 have q4:=g3;rw[<-fX] at q4;replace aj:=he.trans aj;clear he ir;refine b7 (i_ ad (i_ h1 (i_ I dF))) ?_;refine _A (fun aZ w' => ∃k:Nat,k<=i/\aZ 9 = .I k/\(∀j,j<k->o.nameAt (fun x:o.Var=>x.name) l j≠o.nameAt (fun x:o.Var=>x.name) l i)/\Ext w w')
  (fun S _=>(i - intOf (S 9)).toNat) ⟨0,Aw,by simp -dsimp only[cV,cu,Nat.reduceAdd,Nat.reduceEqDiff,reduceIte,reduceCtorEq,c3];rfl,fun _ h=>absurd h (LC _),aj⟩ ?_
 rintro kU aK kH ⟨k,hk,js,b8,ag⟩;have bW:=ad;have bI:=h1;have bO:=I;have abW:=dF;have ad:=kH 0 rfl;have h1:=kH 1 rfl;have I:=kH 2 rfl;have dF:=kH 8 rfl;simp only[bL,Nat.reduceAdd,Nat.reduceEqDiff,reduceIte,j4,nr] at ad h1 I dF;clear kH;rw[bW] at ad;rw[bI] at h1;rw[bO] at I;rw[abW] at dF;have ir:=bg.ext o.qS.ext ag az;have tk:=(ir.at i cw).cells 0 _ rfl;refine b7 (i_ ad (i_ h1 (i_ I (i_ dF js)))) ?_;apply I_<;>intro g4
 .have aV:k<l.length:=Aw
  have lU:=(ir.at k aV).cells 0 _ rfl;have mn:o.nameAt (fun x:o.Var=>x.name) l k=l[k].name:=su _ _ _ aV;refine b7 (i_ ad (i_ h1 (i_ I (i_ dF js)))) ?_;refine K_ k rfl aV ?_;refine b7 (i_ ad (i_ h1 (i_ I (i_ dF js)))) ?_;refine M_ lU ?_;refine b7 (i_ ad (i_ h1 (i_ I (i_ dF js)))) ?_;refine K_ i rfl cw ?_;refine b7 (i_ ad (i_ h1 (i_ I (i_ dF js)))) ?_;refine M_ tk ?_;refine b7 (i_ ad (i_ h1 (i_ I (i_ dF js)))) ?_;intro aR aw;apply I_<;>intro g5
  .refine b7 (i_ ad (i_ h1 (i_ I (i_ dF js)))) ?_;have aA:=Oy (mo:=o.pT l s) hm q4 (show k<i by omega) (by rw[mn,fX];exact g5);rw[o.vars,o.jr cw du (by rw[aA];decide),aA];exact⟨rfl,ag.trans aw⟩
  .refine b7 (i_ ad (i_ h1 (i_ I (i_ dF js)))) ?_;refine Q_ Aw ?_;refine b7 (i_ ad (i_ h1 (i_ I (i_ dF js)))) ?_;refine⟨⟨k+1,Aw,rfl,fun j aC=>?_,ag.trans aw⟩,by simp[intOf];omega⟩;by_cases gU:j<k
   .exact b8 j gU
   .have:j=k:=Aw
    subst this;rw[mn,fX];exact g5
 have ht:=Ox (mo:=o.pT l s) hm q4 (fun j aC=>b8 j Aw);rw[asG l s i cw] at ht;have z1:=bg.ext o.jZ.ext ag ak;have j7:=(ir.at i cw).cells;generalize l[i]=x at j7 ht;refine b7 (i_ ad (i_ h1 (i_ I (i_ dF js)))) ?_;refine K_ i rfl cw ?_;refine b7 (i_ ad (i_ h1 (i_ I (i_ dF js)))) ?_;refine Z_ j7 rfl ?_;refine b7 (i_ ad (i_ h1 (i_ I (i_ dF js)))) ?_;refine J_ (aqE x _ s _ z1) ?_;rintro _ aR ⟨rfl,aw⟩;replace aw:=ag.trans aw;refine b7 (i_ ad (i_ h1 (i_ I (i_ dF js)))) ?_;apply I_<;>intro g6;rotate_left
 .refine b7 (i_ ad (i_ h1 (i_ I (i_ dF js)))) ?_;rw[o.vars,o.jr cw du (by rw[ht];exact g6),ht];exact⟨rfl,aw⟩
 .refine b7 (i_ ad (i_ h1 (i_ I (i_ dF js)))) ?_;rw[g6] at ht;refine Q_ Aw ?_;refine b7 (i_ ad (i_ h1 (i_ I (i_ dF js)))) ?_;refine⟨⟨i+1,Aw,rfl,fun j aC=>?_,aw⟩,by simp[intOf,abW];omega⟩;by_cases hF:j<i
  .exact du j hF
  .have:j=i:=Aw
   subst this;exact ht
end Go.Proofs.R
end
section
namespace Go.Proofs.R
open Go Go.RowKit a7
theorem aqs(v v2:B_)(l:C_ o.dg)(s:C_ o.Scalar)(w:A_)(az:o.mC w v l)(ak:o.h5 w v2 s) :
  Dz F.Kv #[v,v2] w fun v w'=>v = .tuple #[.I (o.ar l s).1,.I (o.ar l s).2]/\Ext w w':=by
 obtain⟨aO,cap,rfl,hlen⟩:=az.form;refine bl E.Kv ?_;refine aT ?_;refine _A (fun S w' => ∃i:Nat,i<=l.length/\S 6 = .I i/\(∀j,j<i->o.err 4 (o.nameAt (·.name) l) (o.pw l s) j=0)/\Ext w w')
  (fun S _=>(l.length - intOf (S 6)).toNat) ⟨0,Aw,by refine aT ?_;rfl,fun _ h=>absurd h (LC _),Ext.refl _⟩ ?_
 rintro S w' b3 ⟨i,U,bz,du,he⟩;have ad:=b3 0 rfl;have h1:=b3 1 rfl;simp only[bL,Nat.reduceAdd,Nat.reduceEqDiff,reduceIte,j4,nr] at ad h1;clear b3;have qt:=abu Aw du;simp -dsimp only[cV,cu,Nat.reduceAdd,Nat.reduceEqDiff,reduceIte,reduceCtorEq,c3,ad,h1,bz];apply I_<;>intro g1;rotate_left
 .simp -dsimp only[cV,cu,Nat.reduceAdd,Nat.reduceEqDiff,reduceIte,reduceCtorEq,c3,ad,h1,bz];rw[o.ar,o.py (fun j aC=>du j Aw)];exact⟨rfl,he⟩
 have cw:i<l.length:=Aw
 obtain⟨a,rfl⟩:=az.addr;have ir:=bg.ext o.qR.ext he az;have tk:=(ir.at i cw).cells 0 _ rfl;have c5:o.jB l[i].name:=(ir.at i cw).ok;have fX:o.nameAt (fun x:o.dg=>x.name) l i=l[i].name:=su _ _ _ cw;simp -dsimp only[cV,cu,Nat.reduceAdd,Nat.reduceEqDiff,reduceIte,reduceCtorEq,c3,ad,h1,bz];apply I_<;>intro g2
 .simp -dsimp only[cV,cu,Nat.reduceAdd,Nat.reduceEqDiff,reduceIte,reduceCtorEq,c3,ad,h1,bz];rw[o.ar,o.jr cw du (by rw[zq Aw];decide),zq Aw];exact⟨rfl,he⟩
 have hm:¬(4:Int)<=(i:Int):=Aw
 simp -dsimp only[cV,cu,Nat.reduceAdd,Nat.reduceEqDiff,reduceIte,reduceCtorEq,c3,ad,h1,bz];refine K_ i rfl cw ?_;simp -dsimp only[cV,cu,Nat.reduceAdd,Nat.reduceEqDiff,reduceIte,reduceCtorEq,c3,ad,h1,bz];refine M_ tk ?_;simp -dsimp only[cV,cu,Nat.reduceAdd,Nat.reduceEqDiff,reduceIte,reduceCtorEq,c3,ad,h1,bz];refine J_ (CG _ _ c5) ?_;rintro _ aB ⟨rfl,aj⟩;simp -dsimp only[cV,cu,Nat.reduceAdd,Nat.reduceEqDiff,reduceIte,reduceCtorEq,c3,ad,h1,bz];refine N_ (fun g3=>?_) (fun g3=>?_);rotate_left
 .simp -dsimp only[cV,cu,Nat.reduceAdd,Nat.reduceEqDiff,reduceIte,reduceCtorEq,c3,ad,h1,bz];rw[<-fX] at g3;rw[o.ar,o.jr cw du (by rw[BD hm g3];decide),BD hm g3];exact⟨rfl,he.trans aj⟩
 have q4:=g3;rw[<-fX] at q4;replace aj:=he.trans aj;clear he ir;simp -dsimp only[cV,cu,Nat.reduceAdd,Nat.reduceEqDiff,reduceIte,reduceCtorEq,c3,ad,h1,bz];refine _A (fun aZ w' => ∃k:Nat,k<=i/\aZ 7 = .I k/\(∀j,j<k->o.nameAt (fun x:o.dg=>x.name) l j≠o.nameAt (fun x:o.dg=>x.name) l i)/\Ext w w')
  (fun S _=>(i - intOf (S 7)).toNat) ⟨0,Aw,by refine aT ?_;rfl,fun _ h=>absurd h (LC _),aj⟩ ?_
 rintro kU aK kH ⟨k,hk,b0,b8,ag⟩;have bW:=ad;have bI:=h1;have RN:=bz;have ad:=kH 0 rfl;have h1:=kH 1 rfl;have bz:=kH 6 rfl;simp only[bL,Nat.reduceAdd,Nat.reduceEqDiff,reduceIte,j4,nr] at ad h1 bz;clear kH;rw[bW] at ad;rw[bI] at h1;rw[RN] at bz;have ir:=bg.ext o.qR.ext ag az;have tk:=(ir.at i cw).cells 0 _ rfl;simp -dsimp only[cV,cu,Nat.reduceAdd,Nat.reduceEqDiff,reduceIte,reduceCtorEq,c3,ad,h1,bz,b0];apply I_<;>intro g4
 .have aV:k<l.length:=Aw
  have lU:=(ir.at k aV).cells 0 _ rfl;have mn:o.nameAt (fun x:o.dg=>x.name) l k=l[k].name:=su _ _ _ aV;simp -dsimp only[cV,cu,Nat.reduceAdd,Nat.reduceEqDiff,reduceIte,reduceCtorEq,c3,ad,h1,bz,b0];refine K_ k rfl aV ?_;simp -dsimp only[cV,cu,Nat.reduceAdd,Nat.reduceEqDiff,reduceIte,reduceCtorEq,c3,ad,h1,bz,b0];refine M_ lU ?_;simp -dsimp only[cV,cu,Nat.reduceAdd,Nat.reduceEqDiff,reduceIte,reduceCtorEq,c3,ad,h1,bz,b0];refine K_ i rfl cw ?_;simp -dsimp only[cV,cu,Nat.reduceAdd,Nat.reduceEqDiff,reduceIte,reduceCtorEq,c3,ad,h1,bz,b0];refine M_ tk ?_;simp -dsimp only[cV,cu,Nat.reduceAdd,Nat.reduceEqDiff,reduceIte,reduceCtorEq,c3,ad,h1,bz,b0];intro aR aw;apply I_<;>intro g5
  .simp -dsimp only[cV,cu,Nat.reduceAdd,Nat.reduceEqDiff,reduceIte,reduceCtorEq,c3,ad,h1,bz,b0];have aA:=Oy (mo:=o.pw l s) hm q4 (show k<i by omega) (by rw[mn,fX];exact g5);rw[o.ar,o.jr cw du (by rw[aA];decide),aA];exact⟨rfl,ag.trans aw⟩
  .simp -dsimp only[cV,cu,Nat.reduceAdd,Nat.reduceEqDiff,reduceIte,reduceCtorEq,c3,ad,h1,bz,b0];refine Q_ Aw ?_;simp -dsimp only[cV,cu,Nat.reduceAdd,Nat.reduceEqDiff,reduceIte,reduceCtorEq,c3,ad,h1,bz,b0];refine⟨⟨k+1,Aw,rfl,fun j aC=>?_,ag.trans aw⟩,by simp[intOf];omega⟩;by_cases gU:j<k
   .exact b8 j gU
   .have:j=k:=Aw
    subst this;rw[mn,fX];exact g5
 have ht:=Ox (mo:=o.pw l s) hm q4 (fun j aC=>b8 j Aw);have e0:o.pw l s i=if o.there l[i].scalar s=false then 8 else if l[i].cap<1\/l[i].cap > 4\/(l[i].scalar=0/\o.narrow l[i].aQ l[i].U=false) then 10 else 0:=by simp[o.pw,cw]
 rw[e0] at ht;have z1:=bg.ext o.jZ.ext ag ak;have c1:=(ir.at i cw).cells 1 _ rfl;have c2:=(ir.at i cw).cells 2 _ rfl;have bp:=(ir.at i cw).cells 3 _ rfl;have bB:=(ir.at i cw).cells 4 _ rfl;simp only[o.there,o.narrow,decide_eq_false_iff_not] at ht;generalize l[i].scalar=xs at c1 ht;generalize l[i].cap=awt at c2 ht;generalize l[i].aQ=Te at bp ht;generalize l[i].U=Td at bB ht;clear e0;have ao:∀w',Ext aK w'->Dz F.FF #[.I Te,.I Td] w' fun u bM=>u = .bool (o.narrow Te Td)/\Ext w' bM:=fun w' he =>
  (adz Te Td w').mono fun v bM h=>⟨h.1,h.2 ▸ Ext.refl _⟩
 simp -dsimp only[cV,cu,Nat.reduceAdd,Nat.reduceEqDiff,reduceIte,reduceCtorEq,c3,ad,h1,bz,b0]
 (repeat' first
  | (refine I_ (fun _=>?_) (fun _=>?_)<;>try (exfalso;omega))
  | (refine N_ (fun _=>?_) (fun _=>?_))
  | (refine K_ i rfl cw ?_)
  | (refine M_ Br ?_)
  | (refine J_ (CC _ _ s _ z1) ?_;rintro _ aK ⟨rfl,rfl⟩)
  | (refine P_ _ ao ?_)
  | simp -dsimp only[cV,cu,Nat.reduceAdd,Nat.reduceEqDiff,reduceIte,reduceCtorEq,c3,ad,h1,bz,b0]
  | (intro aR aw;replace aw:=ag.trans aw))
 all_goals first
  | (rw[if_pos Aw] at ht
     rw[o.ar,o.jr cw du (by rw[ht];decide),ht];exact⟨rfl,Br⟩)
  | (rw[if_neg Aw,if_pos Aw] at ht
     rw[o.ar,o.jr cw du (by rw[ht];decide),ht];exact⟨rfl,Br⟩)
  | (rw[if_neg Aw,if_neg Aw] at ht
     refine Q_ Aw ?_;simp -dsimp only[cV,cu,Nat.reduceAdd,Nat.reduceEqDiff,reduceIte,reduceCtorEq,c3,ad,h1,bz,b0];refine⟨⟨i+1,Aw,rfl,fun j aC=>?_,Br⟩,by simp[intOf,RN];omega⟩;by_cases hF:j<i
     .exact du j hF
     .have:j=i:=Aw
      subst this;exact ht)
end Go.Proofs.R
end
section
namespace o
theorem afd(m:Model)(i:Nat):vz m 2 i=ss m i:=by
 have e1:cJ 1 2 i m.vars.length=min m.vars.length i:=by unfold cJ;rw[if_pos BJ,if_neg BJ];simp
 have e2:cJ 2 2 i m.ar.length=0:=by unfold cJ;rw[if_neg BJ]
 have a1:cJ 3 2 i m.procs.length=0:=by unfold cJ;rw[if_neg BJ]
 have bC:h0 2 i m.props.length=0:=by unfold h0;rw[if_neg BJ]
 unfold vz;rw[e1,e2,a1,bC];simp only[ss,FN,Aj,List.take_zero,List.map_nil,List.append_nil];rw[AJ8,<-AI8];simp only[List.take_length]
theorem afb(m:Model)(i:Nat):vz m 3 i=nG m i:=by
 have e1:cJ 1 3 i m.vars.length=m.vars.length:=by unfold cJ;rw[if_pos BJ,if_pos BJ]
 have e2:cJ 2 3 i m.ar.length=min m.ar.length i:=by unfold cJ;rw[if_pos BJ,if_neg BJ];simp
 have a1:cJ 3 3 i m.procs.length=0:=by unfold cJ;rw[if_neg BJ]
 have bC:h0 3 i m.props.length=0:=by unfold h0;rw[if_neg BJ]
 unfold vz;rw[e1,e2,a1,bC];simp only[nG,ss,FN,Aj,Ai,List.take_zero,List.map_nil,List.append_nil];rw[AJ8,<-AI8];simp only[List.take_length]
theorem afc(m:Model)(i:Nat):vz m 4 i=jd m i:=by
 have e1:cJ 1 4 i m.vars.length=m.vars.length:=by unfold cJ;rw[if_pos BJ,if_pos BJ]
 have e2:cJ 2 4 i m.ar.length=m.ar.length:=by unfold cJ;rw[if_pos BJ,if_pos BJ]
 have a1:cJ 3 4 i m.procs.length=min m.procs.length i:=by unfold cJ;rw[if_pos BJ,if_neg BJ];simp
 have bC:h0 4 i m.props.length=0:=by unfold h0;rw[if_neg BJ]
 unfold vz;rw[e1,e2,a1,bC];simp only[jd,nG,ss,FN,Aj,Ai,yC,List.take_zero,List.map_nil,List.append_nil];rw[AJ8,<-AI8];simp only[List.take_length]
theorem Wg(m:Model)(i:Nat):vz m 5 i=sr m i:=by
 have e1:cJ 1 5 i m.vars.length=m.vars.length:=by unfold cJ;rw[if_pos BJ,if_pos BJ]
 have e2:cJ 2 5 i m.ar.length=m.ar.length:=by unfold cJ;rw[if_pos BJ,if_pos BJ]
 have a1:cJ 3 5 i m.procs.length=m.procs.length:=by unfold cJ;rw[if_pos BJ,if_pos BJ]
 have bC:h0 5 i m.props.length=min m.props.length i:=by unfold h0;rw[if_pos BJ];simp
 unfold vz;rw[e1,e2,a1,bC];simp only[sr,jd,nG,ss,FN,Aj,Ai,yC,RC];rw[AJ8,<-AI8];simp only[List.take_length]
theorem xe(q p i:Int)(len:Nat):cJ q p i len<=len:=by unfold cJ; (repeat' split)<;>omega
end o
namespace Go.Proofs.R
open Go Go.RowKit a7
def BI(f:o.sL):B_:=.agg #[.int .i64 f.cC,.int .i64 f.part,.int .i64 f.item,.int .i64 f.sub]
theorem aqu(cs:C_ B_)(m:o.Model)(w:A_)(h:o.dU w cs m) :
  Dz F.KO #[.agg cs.toArray] w fun v w'=>v=BI (o.data m)/\Ext w w':=by
 have aS:=h;obtain⟨bW,bu,bI,c1,bO,c2,bQ,bp,bZ,bB,rfl,ad,h1,I,ab,aE,eU,eh,eo,dY,ew⟩:=h.form;refine bl E.KO ?_;refine aa ?_;intro w1 br cF ah al;refine aa ?_;intro aB bP db aj au;replace al:=aj.obj al;have e2:=ah.trans aj;have gq:=cr al;have z2:=ah.size;refine aa ?_;refine J_ (aqC _ m.scalars aB (ad.ext e2)) ?_;rintro _ aK ⟨rfl,ag⟩;replace al:=ag.obj al;replace au:=ag.obj au;have a1:=e2.trans ag;clear e2;refine aa ?_;apply I_<;>intro g1;rotate_left
 .have a6:=o.Xa g1;refine aa ?_;intro aR dq bf;refine aa ?_;exact⟨by rw[a6];rfl,dq.ext a1 Aw⟩
 have b3:(o.scalars m.scalars).2=0:=by simpa using g1
 have kH:=o.adl b3;have yd:=al;have zH:=au;refine aa ?_;refine L_ 5 m.vars.length [1,2] (fun _:Unit=>[]) () (fun k _ w'=>Ext aK w'/\∀j,j<k->o.jL m j=0) a8 a8 ⟨Ext.refl _,fun j h=>absurd h (LC _)⟩ ?_;clear al au;rintro k _ S aR hk ⟨aw,bw⟩;have al:=aw.obj yd;have au:=aw.obj zH;have bC:=a1.trans aw;refine aa ?_;apply I_<;>intro g2
 .have aV:k<m.vars.length:=Aw
  have hS:=(bg.len h1).2;have Pw:=hS.2;unfold maxLen at Pw;obtain⟨a,rfl⟩:=h1.addr;have fX:=o.Cx (f:=fun x:o.Var=>x.name) aV;have dT:=((h1.at k aV).cells).ext bC;have QS:∀j,j<k->o.oB m j=0:=fun j aC=>o.Mh (bw j aC);refine aa ?_;refine _N (k:=.i64) (k+1) (by simp[c0,bL]) Aw ?_;refine aa ?_;refine P_ (.tuple #[.I (o.vars (m.vars.take (k+1)) m.scalars 12).1,.I (o.vars (m.vars.take (k+1)) m.scalars 12).2]) (fun w' e=>acL _ _ (m.vars.take (k+1)) m.scalars 12 w' ((h1.head (k+1) Aw).ext o.qS.ext (bC.trans e)) (ad.ext (bC.trans e))) ?_;refine aa ?_;intro bo aF;replace al:=aF.obj al;replace au:=aF.obj au;replace dT:=dT.ext aF;have bF:=bC.trans aF;rw[o.asL aV QS];refine aa ?_;apply I_<;>intro g3;rotate_left
  .have k8:o.jL m k=o.oB m k:=by unfold o.jL;rw[if_pos g3]
   have a6:=o.HE b3 aV bw (by rw[k8];exact g3);rw[k8] at a6;refine aa ?_;intro bt gP b1;refine aa ?_;exact⟨by rw[a6];rfl,gP.ext bF Aw⟩
  have iJ:o.oB m k=0:=by simpa using g3
  have auL:k<12:=by
   apply Classical.byContradiction;intro ax;have h:=iJ;unfold o.oB o.err at h;rw[if_pos Aw] at h;cases h
  refine aa ?_;intro bt aI;replace al:=aI.obj al;replace au:=aI.obj au;refine aa ?_;refine J_ (Dw _ m 2 k bt (aS.ext (bF.trans aI)) Aw Aw (by
   have cO:o.cJ 1 2 k m.vars.length<=k:=by unfold o.cJ; (repeat' split)<;>omega
   have de:o.cJ 2 2 k m.ar.length=0:=by unfold o.cJ;rw[if_neg BJ]
   have dQ:o.cJ 3 2 k m.procs.length=0:=by unfold o.cJ;rw[if_neg BJ]
   have gK:o.h0 2 k m.props.length=0:=by unfold o.h0;rw[if_neg BJ]
   omega)) ?_
  rintro _ bG ⟨⟨v,rfl,fK⟩,bm⟩;refine⟨bm,?_⟩;rw[o.afd] at fK;refine aa ?_;refine J_ (Es v _ m.vars[k].name _ bG fK) ?_;rintro _ oC ⟨rfl,rfl⟩;replace al:=bm.obj al;replace au:=bm.obj au;have Zl:=aI.trans bm;have c8:=bF.trans Zl;refine aa ?_;apply I_<;>intro g4
  .have k8:o.jL m k=7:=by unfold o.jL;rw[if_neg (by simpa using iJ),fX,if_pos g4]
   have a6:=o.HE b3 aV bw (by rw[k8];decide);rw[k8] at a6;refine aa ?_;intro cQ iK cn;refine aa ?_;exact⟨by rw[a6];rfl,iK.ext c8 Aw⟩
  .refine aa ?_;refine⟨aV,aL,(),trivial,(aw.trans aF).trans Zl,fun j aC=>?_⟩;by_cases gU:j=k
   .subst gU;unfold o.jL;rw[if_neg (by simpa using iJ),fX,if_neg g4]
   .exact bw j Aw
 have mN:∀j,j<m.vars.length->o.jL m j=0:=fun j aC=>bw j Aw;have at4:m.vars.length<=12:=by
  apply Classical.byContradiction;intro ax
  have:=o.XB (mN 12 Aw)
  omega
 clear al au;refine aa ?_;refine L_ 8 m.ar.length [1,2] (fun _:Unit=>[]) () (fun k _ w'=>Ext aK w'/\∀j,j<k->o.kF m j=0) a8 a8 ⟨aw,fun j h=>absurd h (LC _)⟩ ?_;clear bC;rintro k _ aZ bo hk ⟨aF,bw⟩;have al:=aF.obj yd;have au:=aF.obj zH;have bC:=a1.trans aF;refine aa ?_;apply I_<;>intro g2
 .have aV:k<m.ar.length:=Aw
  have hS:=(bg.len I).2;have Pw:=hS.2;unfold maxLen at Pw;obtain⟨a,rfl⟩:=I.addr;have fX:=o.Cx (f:=fun x:o.dg=>x.name) aV;have dT:=((I.at k aV).cells).ext bC;have QS:∀j,j<k->o.nZ m j=0:=fun j aC=>o.Hs (bw j aC);refine aa ?_;refine _N (k:=.i64) (k+1) (by simp[c0,bL]) Aw ?_;refine aa ?_;refine P_ (.tuple #[.I (o.ar (m.ar.take (k+1)) m.scalars).1,.I (o.ar (m.ar.take (k+1)) m.scalars).2]) (fun w' e=>aqs _ _ (m.ar.take (k+1)) m.scalars w' ((I.head (k+1) Aw).ext o.qR.ext (bC.trans e)) (ad.ext (bC.trans e))) ?_;refine aa ?_;intro bt aI;replace al:=aI.obj al;replace au:=aI.obj au;replace dT:=dT.ext aI;have bF:=bC.trans aI;rw[o.agC aV QS];refine aa ?_;apply I_<;>intro g3;rotate_left
  .have k8:o.kF m k=o.nZ m k:=by unfold o.kF;rw[if_pos g3]
   have a6:=o.HC b3 mN aV bw (by rw[k8];exact g3);rw[k8] at a6;refine aa ?_;intro bt gP b1;refine aa ?_;exact⟨by rw[a6];rfl,gP.ext bF Aw⟩
  have iJ:o.nZ m k=0:=by simpa using g3
  have auM:k<4:=by
   apply Classical.byContradiction;intro ax;have h:=iJ;unfold o.nZ o.err at h;rw[if_pos Aw] at h;cases h
  refine aa ?_;intro bG bm;replace al:=bm.obj al;replace au:=bm.obj au;refine aa ?_;refine J_ (Dw _ m 3 k bG (aS.ext (bF.trans bm)) Aw Aw (by
   have cO:=o.xe 1 3 k m.vars.length;have de:o.cJ 2 3 k m.ar.length<=k:=by unfold o.cJ; (repeat' split)<;>omega
   have dQ:o.cJ 3 3 k m.procs.length=0:=by unfold o.cJ;rw[if_neg BJ]
   have gK:o.h0 3 k m.props.length=0:=by unfold o.h0;rw[if_neg BJ]
   omega)) ?_
  rintro _ cQ ⟨⟨v,rfl,fK⟩,bA⟩;refine⟨bA,?_⟩;rw[o.afb] at fK;refine aa ?_;refine J_ (Es v _ m.ar[k].name _ cQ fK) ?_;rintro _ oC ⟨rfl,rfl⟩;replace al:=bA.obj al;replace au:=bA.obj au;have wk:=bm.trans bA;have c8:=bF.trans wk;refine aa ?_;apply I_<;>intro g4
  .have k8:o.kF m k=7:=by unfold o.kF;rw[if_neg (by simpa using iJ),fX,if_pos g4]
   have a6:=o.HC b3 mN aV bw (by rw[k8];decide);rw[k8] at a6;refine aa ?_;intro cQ iK cn;refine aa ?_;exact⟨by rw[a6];rfl,iK.ext c8 Aw⟩
  .refine aa ?_;refine⟨aV,aL,(),trivial,(aF.trans aI).trans wk,fun j aC=>?_⟩;by_cases gU:j=k
   .subst gU;unfold o.kF;rw[if_neg (by simpa using iJ),fX,if_neg g4]
   .exact bw j Aw
 have a6:=o.W8 b3 mN fun j aC=>bw j Aw;refine aa ?_;intro bt gP b1;refine aa ?_;exact⟨by rw[a6];rfl,gP.ext bC Aw⟩
end Go.Proofs.R
end
section
namespace o
structure vo(m:Model):Prop where
 v:m.vars.length<=1000000
 c:m.ar.length<=1000000
 p:m.procs.length<=1000000
 i:∀p∈m.procs,p.vars.length<=1000000/\p.cy.length<=1000000
def c1(m:Model)(k:Nat):Int:=iP ((m.vars.take k).map fun v=>cells v m.scalars)
def c2(m:Model)(k:Nat):Int:=iP ((m.ar.take k).map q0)
def i1(m:Model)(k:Nat):Int:=iP ((m.procs.take k).map (lg m))
def i2(m:Model)(k:Nat):Int:=iP ((m.procs.take k).map fun p=>lg m p*p.cy.length)
def i3(m:Model)(k:Nat):Int:=iP ((m.procs.take k).map fun p=>lg m p*(1+p.vars.length))
theorem aby{α:Type}{l:C_ α}{k:Nat}{x:α}(h:x∈l.take k):x∈l:=AJ9 h
theorem Bq{m:Model}(h:vo m)(k:Nat):0<=c1 m k/\c1 m k<=4000000:=by
 have:=Gl (fun v=>cells v m.scalars) 4 BJ (m.vars.take k) fun v _=>r0 v _
 have h1:=h.v;have I:(m.vars.take k).length<=m.vars.length:=by simp;omega
 unfold c1;omega
theorem Hn{m:Model}(h:vo m)(k:Nat):0<=c2 m k/\c2 m k<=5000000:=by
 have:=Gl q0 5 BJ (m.ar.take k) fun c _=>by have:=NR c;omega
 have h1:=h.c;have I:(m.ar.take k).length<=m.ar.length:=by simp;omega
 unfold c2;omega
theorem aar{m:Model}(h:vo m)(k:Nat):0<=i1 m k/\i1 m k<=4000000:=by
 have:=Gl (lg m) 4 BJ (m.procs.take k) fun p _=>FU m p
 have h1:=h.p;have I:(m.procs.take k).length<=m.procs.length:=by simp;omega
 unfold i1;omega
theorem Cw{a b:Int}(aU:0<=a/\a<=4)(an:0<=b/\b<=1000001):0<=a*b/\a*b<=4000004:=by
 have:a=0\/a=1\/a=2\/a=3\/a=4:=Aw
 rcases this with rfl | rfl | rfl | rfl | rfl<;>omega
theorem aat{m:Model}(h:vo m)(k:Nat):0<=i2 m k/\i2 m k<=4000004000000:=by
 have:=Gl (fun p=>lg m p*p.cy.length) 4000004 BJ (m.procs.take k) fun p aq=>Cw (FU m p) (by have:=(h.i p (aby aq)).2;omega)
 have h1:=h.p;have I:(m.procs.take k).length<=m.procs.length:=by simp;omega
 unfold i2;omega
theorem aav{m:Model}(h:vo m)(k:Nat):0<=i3 m k/\i3 m k<=4000004000000:=by
 have:=Gl (fun p=>lg m p*(1+p.vars.length)) 4000004 BJ (m.procs.take k) fun p aq=>Cw (FU m p) (by have:=(h.i p (aby aq)).1;omega)
 have h1:=h.p;have I:(m.procs.take k).length<=m.procs.length:=by simp;omega
 unfold i3;omega
theorem WA{m:Model}{k:Nat}(h:k<m.vars.length):c1 m (k+1)=c1 m k+cells m.vars[k] m.scalars:=Gm _ _ h
theorem WC{m:Model}{k:Nat}(h:k<m.ar.length):c2 m (k+1)=c2 m k+q0 m.ar[k]:=Gm _ _ h
theorem aas{m:Model}{k:Nat}(h:k<m.procs.length):i1 m (k+1)=i1 m k+lg m m.procs[k]:=Gm _ _ h
theorem aau{m:Model}{k:Nat}(h:k<m.procs.length):i2 m (k+1)=i2 m k+lg m m.procs[k]*m.procs[k].cy.length:=Gm _ _ h
theorem aaw{m:Model}{k:Nat}(h:k<m.procs.length):i3 m (k+1)=i3 m k+lg m m.procs[k]*(1+m.procs[k].vars.length):=Gm _ _ h
theorem aca(m:Model){a b c:Nat}(aU:m.vars.length<=a)(an:m.ar.length<=b)(ai:m.procs.length<=c):pieces m=(i1 m c,i2 m c,c1 m a+c2 m b+i3 m c):=by
 unfold pieces i1 i2 i3 c1 c2;rw[Lj aU,Lj an,Lj ai]
end o
namespace Go.Proofs.R
open Go Go.RowKit a7
theorem apx(cs:C_ B_)(m:o.Model)(w:A_)(h:o.dU w cs m)(av:o.vo m) :
  Dz F.HK #[.agg cs.toArray] w fun v w'=>v = .tuple #[.I (o.pieces m).1,.I (o.pieces m).2.1,.I (o.pieces m).2.2]/\Ext w w':=by
 obtain⟨bW,bu,bI,c1,bO,c2,bQ,bp,bZ,bB,rfl,ad,h1,I,ab,aE,eU,eh,eo,dY,ew⟩:=h.form;refine bl E.HK ?_;refine aa ?_;intro w1 br cF ah al;have uF:=al;clear al;refine aa ?_;refine L_ 18 m.vars.length [1,5,6,16,17] (fun s:Int=>[(7,.I s)]) 0 (fun k s w'=>Ext w1 w'/\s=o.c1 m k) a8 a8 ⟨Ext.refl _,by simp[o.c1,o.iP]⟩ ?_;rintro k _ S aB hk ⟨aj,rfl⟩;have al:=aj.obj uF;have cY:∀{w'},Ext aB w'->Ext w w':=fun e=>(ah.trans aj).trans e;refine aa ?_;apply I_<;>intro g1
 .have aV:k<m.vars.length:=Aw
  obtain⟨a,rfl⟩:=h1.addr;have dT:=((h1.at k aV).cells).ext (cY (Ext.refl _));refine aa ?_;intro aK bR e9 ag bh;replace al:=ag.obj al;refine aa ?_;refine J_ (Bu m.vars[k] _ m.scalars aK (ad.ext (cY ag))) ?_;rintro _ aR ⟨rfl,aw⟩;have cO:=o.Bq av k;have de:=o.r0 m.vars[k] m.scalars;refine aa ?_;exact⟨aV,aL,_,a8,(aj.trans ag).trans aw,(o.WA aV).symm⟩
 have lV:m.vars.length<=k:=Aw
 refine aa ?_;refine L_ 32 m.ar.length [1,5,6,30,31] (fun s:Int=>[(7,.I s)]) (o.c1 m k) (fun j s w'=>Ext w1 w'/\s=o.c1 m k+o.c2 m j) a8 a8 ⟨aj,by simp[o.c2,o.iP]⟩ ?_;clear al cY;rintro j _ aZ aK aC ⟨ag,rfl⟩;have al:=ag.obj uF;have fD:∀{w'},Ext aK w'->Ext w w':=fun e=>(ah.trans ag).trans e;refine aa ?_;apply I_<;>intro g2
 .have en:j<m.ar.length:=Aw
  obtain⟨a,rfl⟩:=I.addr;have dT:=((I.at j en).cells).ext (fD (Ext.refl _));refine aa ?_;intro aR bR e9 aw bh;have cO:=o.Bq av k;have de:=o.Hn av j;have dQ:=o.NR m.ar[j];unfold o.q0 at dQ;refine aa ?_;exact⟨en,aL,_,a8,ag.trans aw,by rw[o.WC en];unfold o.q0;omega⟩
 have P6:m.ar.length<=j:=Aw
 refine aa ?_;refine L_ 47 m.procs.length [1,45,46] (fun s:Int×Int×Int=>[(5,.I s.1),(6,.I s.2.1),(7,.I s.2.2)]) (0,0,o.c1 m k+o.c2 m j)
  (fun i s w'=>Ext w1 w'/\s=(o.i1 m i,o.i2 m i,o.c1 m k+o.c2 m j+o.i3 m i)) a8 a8 ⟨ag,by simp[o.i1,o.i2,o.i3,o.iP]⟩ ?_
 clear al fD;rintro i _ fO aR U ⟨aw,rfl⟩;have al:=aw.obj uF;have dW:∀{w'},Ext aR w'->Ext w w':=fun e=>(ah.trans aw).trans e;refine aa ?_;apply I_<;>intro g3
 .have cw:i<m.procs.length:=Aw
  obtain⟨a,rfl⟩:=ab.addr;obtain⟨_,bV,dL,aq,eW,dA⟩:=ab.at i cw;obtain⟨ep,fp,rfl,fc⟩:=eW.form;obtain⟨ov,nY,rfl,lc⟩:=dA.form;replace aq:=aq.ext (dW (Ext.refl _));have PU:=av.i _ (Gy cw);refine aa ?_;intro bo bR e9 aF bh;replace al:=aF.obj al;refine aa ?_;refine J_ (Bu ⟨⟨#[]⟩,0,m.procs[i].over,0,0,0⟩ _ m.scalars bo (ad.ext (dW aF))) ?_;rintro _ bt ⟨rfl,aI⟩;have alR:o.cells ⟨⟨#[]⟩,0,m.procs[i].over,0,0,0⟩ m.scalars=o.lg m m.procs[i]:=rfl;rw[alR];replace bh:=aI.obj bh;have cO:=o.Bq av k;have de:=o.Hn av j;have dQ:=o.aar av i;have gK:=o.aat av i;have rC:=o.aav av i;have tS:=o.FU m m.procs[i];have R5:=o.Cw tS (b:=m.procs[i].cy.length) Aw;have CB:=o.Cw tS (b:=1+m.procs[i].vars.length) Aw;refine aa ?_;exact⟨cw,aL,(_,_,_),(by first | exact⟨rfl,rfl,rfl,trivial⟩ | exact⟨rfl,rfl,trivial⟩ | (simp -dsimp only[cV,w9,w8,wM,wL,wa,v8,Nat.reduceAdd,Nat.reduceEqDiff,reduceIte,and_self];exact⟨rfl,rfl,rfl,trivial⟩) | (simp -dsimp only[cV,w9,w8,wM,wL,wa,v8,Nat.reduceAdd,Nat.reduceEqDiff,reduceIte,and_self];exact⟨rfl,rfl,trivial⟩)),(aw.trans aF).trans aI,by rw[o.aas cw,o.aau cw,o.aaw cw];exact Prod.ext rfl (Prod.ext rfl (Int.add_assoc _ _ _))⟩
 have oe:m.procs.length<=i:=Aw
 refine aa ?_;exact⟨by rw[o.aca m lV P6 oe],dW (Ext.refl _)⟩
theorem amR(cs:C_ B_)(m:o.Model)(p:o.dw)(bV dL:B_)(w:A_)(h:o.dU w cs m) :
  Dz F.KL #[.agg cs.toArray,.agg (p.enc bV dL).toArray] w fun v w'=>v = .I (o.lg m p)/\Ext w w':=by
 obtain⟨bW,bu,bI,c1,bO,c2,bQ,bp,bZ,bB,rfl,ad,_⟩:=h.form;refine bl E.KL ?_;refine aa ?_;intro w1 br cF ah al;refine aa ?_;intro aB bP db aj au;refine aa ?_;refine I_ (fun g=>?_) (fun g=>?_)
 .refine aa ?_;exact⟨by rw[o.lg,if_pos g],ah.trans aj⟩
 refine aa ?_;refine J_ (CC p.over _ m.scalars aB (ad.ext (ah.trans aj))) ?_;rintro _ _ ⟨rfl,rfl⟩;refine aa ?_;exact⟨by rw[o.lg,if_neg g],ah.trans aj⟩
theorem aqy(cs:C_ B_)(m:o.Model)(w:A_)(h:o.dU w cs m)(av:o.vo m) :
  Dz F.KM #[.agg cs.toArray] w fun v w'=>v = .tuple #[.I (o.pieces m).1,.I (o.pieces m).2.1,.I (o.pieces m).2.2]/\Ext w w':=by
 have aS:=h;obtain⟨bW,bu,bI,c1,bO,c2,bQ,bp,bZ,bB,rfl,ad,h1,I,ab,aE,eU,eh,eo,dY,ew⟩:=h.form;refine bl E.KM ?_;refine aa ?_;intro w1 br cF ah al;have uF:=al;clear al;refine aa ?_;refine L_ 8 m.vars.length [1,5,6] (fun s:Int=>[(7,.I s)]) 0 (fun k s w'=>Ext w1 w'/\s=o.c1 m k) a8 a8 ⟨Ext.refl _,by simp[o.c1,o.iP]⟩ ?_;rintro k _ S aB hk ⟨aj,rfl⟩;have al:=aj.obj uF;have cY:∀{w'},Ext aB w'->Ext w w':=fun e=>(ah.trans aj).trans e;refine aa ?_;apply I_<;>intro g1
 .have aV:k<m.vars.length:=Aw
  obtain⟨a,rfl⟩:=h1.addr;have dT:=((h1.at k aV).cells).ext (cY (Ext.refl _));have cO:=o.Bq av k;have de:=o.r0 m.vars[k] m.scalars;refine aa ?_;refine P_ (.I (o.cells m.vars[k] m.scalars)) (fun w' e=>Sj m.vars[k] _ m.scalars w' (ad.ext (cY e))) ?_;refine aa ?_;intro aR aw;refine aa ?_;exact⟨aV,aL,_,a8,aj.trans aw,(o.WA aV).symm⟩
 have lV:m.vars.length<=k:=Aw
 refine aa ?_;refine L_ 9 m.ar.length [1,5,6] (fun s:Int=>[(7,.I s)]) (o.c1 m k) (fun j s w'=>Ext w1 w'/\s=o.c1 m k+o.c2 m j) a8 a8 ⟨aj,by simp[o.c2,o.iP]⟩ ?_;clear al cY;rintro j _ aZ aK aC ⟨ag,rfl⟩;have al:=ag.obj uF;have fD:∀{w'},Ext aK w'->Ext w w':=fun e=>(ah.trans ag).trans e;refine aa ?_;apply I_<;>intro g2
 .have en:j<m.ar.length:=Aw
  obtain⟨a,rfl⟩:=I.addr;have dT:=((I.at j en).cells).ext (fD (Ext.refl _));have cO:=o.Bq av k;have de:=o.Hn av j;have dQ:=o.NR m.ar[j];unfold o.q0 at dQ;refine aa ?_;exact⟨en,aL,_,a8,ag,by rw[o.WC en];unfold o.q0;omega⟩
 have P6:m.ar.length<=j:=Aw
 refine aa ?_;refine L_ 10 m.procs.length [1] (fun s:Int×Int×Int=>[(5,.I s.1),(6,.I s.2.1),(7,.I s.2.2)]) (0,0,o.c1 m k+o.c2 m j)
  (fun i s w'=>Ext w1 w'/\s=(o.i1 m i,o.i2 m i,o.c1 m k+o.c2 m j+o.i3 m i)) a8 a8 ⟨ag,by simp[o.i1,o.i2,o.i3,o.iP]⟩ ?_
 clear al fD;rintro i _ fO aR U ⟨aw,rfl⟩;have al:=aw.obj uF;have dW:∀{w'},Ext aR w'->Ext w w':=fun e=>(ah.trans aw).trans e;refine aa ?_;apply I_<;>intro g3
 .have cw:i<m.procs.length:=Aw
  obtain⟨a,rfl⟩:=ab.addr;obtain⟨_,bV,dL,aq,eW,dA⟩:=ab.at i cw;obtain⟨ep,fp,rfl,fc⟩:=eW.form;obtain⟨ov,nY,rfl,lc⟩:=dA.form;replace aq:=aq.ext (dW (Ext.refl _));have PU:=av.i _ (Gy cw);refine aa ?_;refine P_ (.I (o.lg m m.procs[i])) (fun w' e=>amR _ m m.procs[i] _ _ w' (aS.ext (dW e))) ?_;refine aa ?_;intro bt aI;replace al:=aI.obj al;replace aq:=aq.ext aI;have cO:=o.Bq av k;have de:=o.Hn av j;have dQ:=o.aar av i;have gK:=o.aat av i;have rC:=o.aav av i;have tS:=o.FU m m.procs[i];have R5:=o.Cw tS (b:=m.procs[i].cy.length) Aw;have CB:=o.Cw tS (b:=1+m.procs[i].vars.length) Aw;refine aa ?_;exact⟨cw,aL,(_,_,_),(by first | exact⟨rfl,rfl,rfl,trivial⟩ | exact⟨rfl,rfl,trivial⟩ | (simp -dsimp only[cV,w9,w8,wM,wL,wa,v8,Nat.reduceAdd,Nat.reduceEqDiff,reduceIte,and_self];exact⟨rfl,rfl,rfl,trivial⟩) | (simp -dsimp only[cV,w9,w8,wM,wL,wa,v8,Nat.reduceAdd,Nat.reduceEqDiff,reduceIte,and_self];exact⟨rfl,rfl,trivial⟩)),aw.trans aI,by rw[o.aas cw,o.aau cw,o.aaw cw];exact Prod.ext rfl (Prod.ext rfl (Int.add_assoc _ _ _))⟩
 have oe:m.procs.length<=i:=Aw
 refine aa ?_;exact⟨by rw[o.aca m lV P6 oe],dW (Ext.refl _)⟩
end Go.Proofs.R
end
section
namespace o
structure atj(m:Model):Prop where
 s:m.scalars.length<=10
 v:m.vars.length<=30
 c:m.ar.length<=20
 p:m.procs.length<=20
 q:m.props.length<=20
 i:∀p∈m.procs,p.vars.length<=20/\p.cy.length<=30/\∀c∈p.cy,c.bE.length<=20/\c.guard.length<=60
end o
end