/- Parts. -/
import Derived.Test.YtfdohkdifdemeaaGreatDoorQdsh
set_option linter.all false
set_option maxRecDepth 100000
set_option maxHeartbeats 16000000
section
namespace Go.Proofs.R
open Go Go.RowKit bt
theorem q7{α:Type}(f:α->ByteArray)(l:List α)(i:Nat)(h:i<l.length):o.nameAt f l i=f l[i]:=by simp[o.nameAt,h]
theorem aky(i:Nat)(b:Nat)(v:Value)(l:List o.Scalar)(w:World)(aS:o.hI w v l)(aC:w.cell? ⟨b,0,none⟩=some v)(ad:i<l.length) :
  bu Tryz.prog F.bC #[.int .i64 i,.pointer (some ⟨b,0,none⟩)] w fun v w'=>v = .string (o.nameAt (·.name) l i)/\Ext w w':=by
 obtain⟨bm,cap,rfl,hlen⟩:=aS.form;refine bL E.bC ?_;refine bG ?_;refine a7 ?_;refine K.ld aC ?_;refine a7 ?_;obtain⟨a,rfl⟩:=aS.addr (by omega);have aw:=(aS.at i ad).cells 0 _ rfl;refine K.dD i rfl ad ?_;refine a7 ?_;refine K.ld aw ?_;refine a7 ?_;rw[q7 _ _ _ ad];exact⟨rfl,Ext.refl w⟩
theorem akz(i:Nat)(b:Nat)(v:Value)(l:List o.Scalar)(w:World)(aS:o.hI w v l)(aC:w.cell? ⟨b,0,none⟩=some v)(ad:i<l.length) :
  bu Tryz.prog F.cp #[.int .i64 i,.pointer (some ⟨b,0,none⟩)] w fun v w'=>v = .int .i64 (o.tr l i)/\Ext w w':=by
 obtain⟨bm,cap,rfl,hlen⟩:=aS.form;refine bL E.cp ?_;refine bG ?_;refine a7 ?_;refine K.ld aC ?_;refine a7 ?_;obtain⟨a,rfl⟩:=aS.addr (by omega);have aw:=(aS.at i ad).cells 1 _ rfl;have a6:o.tr l i=if 1<=l[i].size/\l[i].size<=4 then 0 else 10:=by simp[o.tr,ad]
 rw[a6];generalize l[i].size=z at aw;refine K.dD i rfl ad ?_;refine a7 ?_;refine K.ld aw ?_;refine a7 ?_;refine K.cond (fun h1=>?_) (fun h1=>?_)
 .refine a7 ?_;rw[if_neg (by omega)];exact⟨rfl,Ext.refl w⟩
 refine a7 ?_;refine K.ld aC ?_;refine a7 ?_;refine K.dD i rfl ad ?_;refine a7 ?_;refine K.ld aw ?_;refine a7 ?_;refine K.cond (fun h1=>?_) (fun h1=>?_)
 .refine a7 ?_;rw[if_neg (by omega)];exact⟨rfl,Ext.refl w⟩
 .refine a7 ?_;rw[if_pos (by omega)];exact⟨rfl,Ext.refl w⟩
theorem akA(v:Value)(l:List o.Scalar)(w:World)(ba:ht w)(aS:o.hI w v l) :
  bu Tryz.prog F.Cu #[v] w fun v w'=>v = .tuple #[.int .i64 (o.scalars l).1,.int .i64 (o.scalars l).2]/\Ext w w':=by
 obtain⟨bm,cap,rfl,hlen⟩:=aS.form;refine bL E.Cu ?_;refine bG ?_;refine a7 ?_;refine K.new fun av b aC aB aq=>?_;have ph:=bE.ext o.jd.ext aB aS;have cR:av.cell? ⟨b,0,none⟩=some (.slice bm l.length cap):=zK aq rfl;refine a7 ?_;refine K.ld cR ?_;refine a7 ?_;refine K.call (M3 l.length 2 (by omega) (o.nameAt (·.name) l) (o.tr l) F.bC F.cp [_] [_] (by kernel_rfl) (by kernel_rfl) av (ba.ext aB)
  (fun i ad=>by rw[q7 _ _ _ (by omega)];obtain⟨a,rfl⟩:=aS.addr (by omega);exact(aS.at i (by omega)).ok)
  (fun i w' ad he=>aky i b _ l w' (bE.ext o.jd.ext he ph) (he.cell cR) (by omega))
  (fun i w' ad he=>akz i b _ l w' (bE.ext o.jd.ext he ph) (he.cell cR) (by omega))) ?_
 rintro _ aU ⟨rfl,aA⟩;refine a7 ?_;exact⟨rfl,aB.trans aA⟩
theorem R0(x:o.Var)(v:Value)(l:List o.Scalar)(w:World)(aS:o.hI w v l) :
  bu Tryz.prog F.dO #[.agg x.enc.toArray,v] w fun v w'=>v = .tuple #[.int .i64 (o.bounds x l).1,.int .i64 (o.bounds x l).2]/\Ext w w':=by
 obtain⟨bm,cap,rfl,hlen⟩:=aS.form;refine bL E.dO ?_;refine bG ?_;refine a7 ?_;refine K.new fun av b aC aB aq=>?_;have c1:av.cell? (Addr.add ⟨b,0,none⟩ 1)=some (.int .i64 x.scalar):=e2 aq rfl;have bQ:av.cell? (Addr.add ⟨b,0,none⟩ 3)=some (.int .i64 x.bf):=e2 aq rfl;have bX:av.cell? (Addr.add ⟨b,0,none⟩ 4)=some (.int .i64 x.ad):=e2 aq rfl;refine a7 ?_;refine K.ld c1 ?_;refine a7 ?_;refine K.cond (fun h1=>?_) (fun h1=>?_)
 .refine a7 ?_;refine K.ld bQ ?_;refine a7 ?_;refine K.ld bX ?_;refine a7 ?_;intro aU aA;simp only[o.bounds,h1,if_true];exact⟨trivial,aB.trans aA⟩
 .refine a7 ?_;refine K.ld c1 ?_;refine a7 ?_;refine K.call (N4 x.scalar _ l av (bE.ext o.jd.ext aB aS)) ?_;rintro _ _ ⟨rfl,rfl⟩;refine a7 ?_;simp only[o.bounds,h1,if_false];exact⟨trivial,aB⟩
theorem GB(x:o.Var)(v:Value)(l:List o.Scalar)(w:World)(aS:o.hI w v l) :
  bu Tryz.prog F.x #[.agg x.enc.toArray,v] w fun v w'=>v = .int .i64 (o.cells x l)/\Ext w w':=by
 obtain⟨bm,cap,rfl,hlen⟩:=aS.form;refine bL E.x ?_;refine bG ?_;refine a7 ?_;refine K.new fun av b aC aB aq=>?_;have c2:av.cell? (Addr.add ⟨b,0,none⟩ 2)=some (.int .i64 x.over):=e2 aq rfl;refine a7 ?_;refine K.ld c2 ?_;refine a7 ?_;refine K.cond (fun h1=>?_) (fun h1=>?_)
 .refine a7 ?_;simp only[o.cells,h1,if_true];exact⟨trivial,aB⟩
 .refine a7 ?_;refine K.ld c2 ?_;refine a7 ?_;refine K.call (N4 x.over _ l av (bE.ext o.jd.ext aB aS)) ?_;rintro _ _ ⟨rfl,rfl⟩;refine a7 ?_;simp only[o.cells,h1,if_false];exact⟨trivial,aB⟩
theorem al0(i:Nat)(b:Nat)(v:Value)(l:List o.Var)(w:World)(aS:o.hi w v l)(aC:w.cell? ⟨b,0,none⟩=some v)(ad:i<l.length) :
  bu Tryz.prog F.b4 #[.int .i64 i,.pointer (some ⟨b,0,none⟩)] w fun v w'=>v = .string (o.nameAt (·.name) l i)/\Ext w w':=by
 obtain⟨bm,cap,rfl,hlen⟩:=aS.form;refine bL E.b4 ?_;refine bG ?_;refine a7 ?_;refine K.ld aC ?_;refine a7 ?_;obtain⟨a,rfl⟩:=aS.addr (by omega);have aw:=(aS.at i ad).cells 0 _ rfl;refine K.dD i rfl ad ?_;refine a7 ?_;refine K.ld aw ?_;refine a7 ?_;rw[q7 _ _ _ ad];exact⟨rfl,Ext.refl w⟩
theorem al1(i:Nat)(b cp:Nat)(v v2:Value)(l:List o.Var)(s:List o.Scalar)(w:World)(aS:o.hi w v l)(ay:o.hI w v2 s)(aC:w.cell? ⟨b,0,none⟩=some v)(dR:w.cell? ⟨cp,0,none⟩=some v2)
  (ad:i<l.length):bu Tryz.prog F.cN #[.int .i64 i,.pointer (some ⟨b,0,none⟩),.pointer (some ⟨cp,0,none⟩)] w fun v w'=>v = .int .i64 (o.oL l s i)/\Ext w w':=by
 obtain⟨bm,cap,rfl,hlen⟩:=aS.form;obtain⟨wT,zJ,rfl,HJ⟩:=ay.form;refine bL E.cN ?_;refine bG ?_;refine a7 ?_;refine K.ld aC ?_;refine a7 ?_;obtain⟨a,rfl⟩:=aS.addr (by omega);have aw:=(aS.at i ad).cells;have a6:o.oL l s i=if o.there l[i].scalar s=false\/o.there l[i].over s=false then 8
  else if (l[i].scalar=0/\o.narrow l[i].bf l[i].ad=false)\/l[i].init<(o.bounds l[i] s).1\/l[i].init > (o.bounds l[i] s).2 then 10 else 0:=by simp[o.oL,ad]
 rw[a6];clear a6;generalize l[i]=x at aw;refine K.dD i rfl ad ?_;refine a7 ?_;refine K.j3 aw rfl ?_;refine a7 ?_;refine K.new fun av q aD aB aq=>?_;refine a7 ?_;refine K.jJ aq rfl rfl (by simp[o.Var.enc,Value.oneCell']) fun aU hw aQ=>?_;have aA:Ext w aU:=hw.ext aB aD;clear hw aq aB av;have c1:aU.cell? (Addr.add ⟨q,0,none⟩ 1)=some (.int .i64 x.scalar):=e2 aQ rfl;have c2:aU.cell? (Addr.add ⟨q,0,none⟩ 2)=some (.int .i64 x.over):=e2 aQ rfl;have xG:aU.cell? (Addr.add ⟨q,0,none⟩ 5)=some (.int .i64 x.init):=e2 aQ rfl;have d2:=aA.cell dR;have ez:=bE.ext o.jd.ext aA ay;refine a7 ?_;refine K.ld c1 ?_;refine a7 ?_;refine K.ld d2 ?_;refine a7 ?_;refine K.call (Om x.scalar _ s aU ez) ?_;rintro _ _ ⟨rfl,rfl⟩;refine a7 ?_;refine K.dp (fun h1=>?_) (fun h1=>?_);rotate_left
 .refine a7 ?_;simp only[h1,true_or,if_true];exact⟨trivial,aA⟩
 refine a7 ?_;refine K.ld c2 ?_;refine a7 ?_;refine K.ld d2 ?_;refine a7 ?_;refine K.call (Om x.over _ s _ ez) ?_;rintro _ _ ⟨rfl,rfl⟩;refine a7 ?_;refine K.dp (fun U=>?_) (fun U=>?_);rotate_left
 .refine a7 ?_;simp only[U,or_true,if_true];exact⟨trivial,aA⟩
 refine a7 ?_;refine K.j3 (hj aQ) rfl ?_;refine a7 ?_;refine K.ld d2 ?_;refine a7 ?_;refine K.call (R0 x _ s _ ez) ?_;rintro _ bb ⟨rfl,ax⟩;rename_i apJ;have bR:=ax.cell c1;have b5:=ax.cell xG;have he:=aA.trans ax;refine a7 ?_;refine K.ld bR ?_;have eJ:¬(o.there x.scalar s=false\/o.there x.over s=false):=by simp[h1,U]
 refine a7 ?_;refine K.cond (fun ag=>?_) (fun ag=>?_)
 .refine a7 ?_;have sS:o.bounds x s=(x.bf,x.ad):=by simp[o.bounds,ag]
  rw[sS];refine K.call (WL x.bf x.ad bb) ?_;rintro _ _ ⟨rfl,rfl⟩;refine a7 ?_;refine K.dp (fun aJ=>?_) (fun aJ=>?_);rotate_left
  .refine a7 ?_;rw[if_neg eJ,if_pos (.inl ⟨ag,aJ⟩)];exact⟨rfl,he⟩
  refine a7 ?_;refine K.ld b5 ?_;refine a7 ?_;refine K.cond (fun bg=>?_) (fun bg=>?_)
  .refine a7 ?_;rw[if_neg eJ,if_pos (.inr (.inl bg))];exact⟨rfl,he⟩
  refine a7 ?_;refine K.ld b5 ?_;refine a7 ?_;refine K.cond (fun bS=>?_) (fun bS=>?_)
  .refine a7 ?_;rw[if_neg eJ,if_pos (.inr (.inr bS))];exact⟨rfl,he⟩
  .refine a7 ?_;rw[if_neg eJ,if_neg (by rw[aJ];simp;omega)];exact⟨rfl,he⟩
 .refine a7 ?_;refine K.ld b5 ?_;refine a7 ?_;refine K.cond (fun bg=>?_) (fun bg=>?_)
  .refine a7 ?_;rw[if_neg eJ,if_pos (.inr (.inl bg))];exact⟨rfl,he⟩
  refine a7 ?_;refine K.ld b5 ?_;refine a7 ?_;refine K.cond (fun bS=>?_) (fun bS=>?_)
  .refine a7 ?_;rw[if_neg eJ,if_pos (.inr (.inr bS))];exact⟨rfl,he⟩
  .refine a7 ?_;rw[if_neg eJ,if_neg (by simp[ag];omega)];exact⟨rfl,he⟩
theorem YS(v v2:Value)(l:List o.Var)(s:List o.Scalar)(fs:Int)(w:World)(ba:ht w)(aS:o.hi w v l)(ay:o.hI w v2 s) :
  bu Tryz.prog F.bv #[v,v2,.int .i64 fs] w fun v w'=>v = .tuple #[.int .i64 (o.vars l s fs).1,.int .i64 (o.vars l s fs).2]/\Ext w w':=by
 obtain⟨bm,cap,rfl,hlen⟩:=aS.form;obtain⟨wT,zJ,rfl,HJ⟩:=ay.form;refine bL E.bv ?_;refine bG ?_;refine a7 ?_;refine K.new fun av b aC aB aq=>?_;refine a7 ?_;refine K.new fun aU cp dR aA aQ=>?_;have he:=aB.trans aA;have ph:=bE.ext o.pL.ext he aS;have gg:=bE.ext o.jd.ext he ay;have d1:aU.cell? ⟨b,0,none⟩=some (.slice bm l.length cap):=zK (aA.obj aq) rfl;have d2:aU.cell? ⟨cp,0,none⟩=some (.slice wT s.length zJ):=zK aQ rfl;refine a7 ?_;refine K.ld d1 ?_;refine a7 ?_;refine K.call (M3 l.length (max fs 0) (by omega) (o.nameAt (·.name) l) (o.oL l s) F.b4 F.cN [_] [_,_] (by kernel_rfl) (by kernel_rfl) aU (ba.ext he)
  (fun i ad=>by rw[q7 _ _ _ (by omega)];obtain⟨a,rfl⟩:=aS.addr (by omega);exact(aS.at i (by omega)).ok)
  (fun i w' ad he=>al0 i b _ l w' (bE.ext o.pL.ext he ph) (he.cell d1) (by omega))
  (fun i w' ad he=>al1 i b cp _ _ l s w' (bE.ext o.pL.ext he ph) (bE.ext o.jd.ext he gg) (he.cell d1) (he.cell d2) (by omega))) ?_
 rintro _ bb ⟨rfl,ax⟩;refine a7 ?_;exact⟨rfl,he.trans ax⟩
theorem abj(i:Nat)(b:Nat)(v:Value)(l:List o.dr)(w:World)(aS:o.mK w v l)(aC:w.cell? ⟨b,0,none⟩=some v)(ad:i<l.length) :
  bu Tryz.prog F.l1 #[.int .i64 i,.pointer (some ⟨b,0,none⟩)] w fun v w'=>v = .string (o.nameAt (·.name) l i)/\Ext w w':=by
 obtain⟨bm,cap,rfl,hlen⟩:=aS.form;refine bL E.l1 ?_;refine bG ?_;refine a7 ?_;refine K.ld aC ?_;refine a7 ?_;obtain⟨a,rfl⟩:=aS.addr (by omega);have aw:=(aS.at i ad).cells 0 _ rfl;refine K.dD i rfl ad ?_;refine a7 ?_;refine K.ld aw ?_;refine a7 ?_;rw[q7 _ _ _ ad];exact⟨rfl,Ext.refl w⟩
theorem abk(i:Nat)(b cp:Nat)(v v2:Value)(l:List o.dr)(s:List o.Scalar)(w:World)(aS:o.mK w v l)(ay:o.hI w v2 s)(aC:w.cell? ⟨b,0,none⟩=some v)(dR:w.cell? ⟨cp,0,none⟩=some v2)
  (ad:i<l.length):bu Tryz.prog F.kU #[.int .i64 i,.pointer (some ⟨b,0,none⟩),.pointer (some ⟨cp,0,none⟩)] w fun v w'=>v = .int .i64 (o.oo l s i)/\Ext w w':=by
 obtain⟨bm,cap,rfl,hlen⟩:=aS.form;obtain⟨wT,zJ,rfl,HJ⟩:=ay.form;refine bL E.kU ?_;refine bG ?_;refine a7 ?_;refine K.ld aC ?_;refine a7 ?_;obtain⟨a,rfl⟩:=aS.addr (by omega);have aw:=(aS.at i ad).cells;have a6:o.oo l s i=if o.there l[i].scalar s=false then 8
  else if l[i].cap<1\/l[i].cap > 4\/(l[i].scalar=0/\o.narrow l[i].bf l[i].ad=false) then 10 else 0:=by simp[o.oo,ad]
 rw[a6];clear a6;generalize l[i]=x at aw;refine K.dD i rfl ad ?_;refine a7 ?_;refine K.j3 aw rfl ?_;refine a7 ?_;refine K.new fun av q aD aB aq=>?_;refine a7 ?_;refine K.jJ aq rfl rfl (by simp[o.dr.enc,Value.oneCell']) fun aU hw aQ=>?_;have aA:Ext w aU:=hw.ext aB aD;clear hw aq aB av;have c1:aU.cell? (Addr.add ⟨q,0,none⟩ 1)=some (.int .i64 x.scalar):=e2 aQ rfl;have c2:aU.cell? (Addr.add ⟨q,0,none⟩ 2)=some (.int .i64 x.cap):=e2 aQ rfl;have bQ:aU.cell? (Addr.add ⟨q,0,none⟩ 3)=some (.int .i64 x.bf):=e2 aQ rfl;have bX:aU.cell? (Addr.add ⟨q,0,none⟩ 4)=some (.int .i64 x.ad):=e2 aQ rfl;have d2:=aA.cell dR;have ez:=bE.ext o.jd.ext aA ay;refine a7 ?_;refine K.ld c1 ?_;refine a7 ?_;refine K.ld d2 ?_;refine a7 ?_;refine K.call (Om x.scalar _ s aU ez) ?_;rintro _ _ ⟨rfl,rfl⟩;refine a7 ?_;refine K.dp (fun h1=>?_) (fun h1=>?_);rotate_left
 .refine a7 ?_;simp only[h1,if_true];exact⟨trivial,aA⟩
 have eJ:¬(o.there x.scalar s=false):=by simp[h1]
 refine a7 ?_;refine K.ld c2 ?_;refine a7 ?_;refine K.cond (fun U=>?_) (fun U=>?_)
 .refine a7 ?_;rw[if_neg eJ,if_pos (.inl U)];exact⟨rfl,aA⟩
 refine a7 ?_;refine K.ld c2 ?_;refine a7 ?_;refine K.cond (fun ag=>?_) (fun ag=>?_)
 .refine a7 ?_;rw[if_neg eJ,if_pos (.inr (.inl ag))];exact⟨rfl,aA⟩
 refine a7 ?_;refine K.ld c1 ?_;refine a7 ?_;refine K.cond (fun aJ=>?_) (fun aJ=>?_)
 .refine a7 ?_;refine K.ld bQ ?_;refine a7 ?_;refine K.ld bX ?_;refine a7 ?_;refine K.call (WL x.bf x.ad _) ?_;rintro _ _ ⟨rfl,rfl⟩;refine a7 ?_;refine K.dp (fun bg=>?_) (fun bg=>?_)
  .refine a7 ?_;rw[if_neg eJ,if_neg (by rw[bg];simp;omega)];exact⟨rfl,aA⟩
  .refine a7 ?_;rw[if_neg eJ,if_pos (.inr (.inr ⟨aJ,bg⟩))];exact⟨rfl,aA⟩
 .refine a7 ?_;rw[if_neg eJ,if_neg (by simp[aJ];omega)];exact⟨rfl,aA⟩
theorem abm(v v2:Value)(l:List o.dr)(s:List o.Scalar)(w:World)(ba:ht w)(aS:o.mK w v l)(ay:o.hI w v2 s) :
  bu Tryz.prog F.Cv #[v,v2] w fun v w'=>v = .tuple #[.int .i64 (o.aL l s).1,.int .i64 (o.aL l s).2]/\Ext w w':=by
 obtain⟨bm,cap,rfl,hlen⟩:=aS.form;obtain⟨wT,zJ,rfl,HJ⟩:=ay.form;refine bL E.Cv ?_;refine bG ?_;refine a7 ?_;refine K.new fun av b aC aB aq=>?_;refine a7 ?_;refine K.new fun aU cp dR aA aQ=>?_;have he:=aB.trans aA;have ph:=bE.ext o.pK.ext he aS;have gg:=bE.ext o.jd.ext he ay;have d1:aU.cell? ⟨b,0,none⟩=some (.slice bm l.length cap):=zK (aA.obj aq) rfl;have d2:aU.cell? ⟨cp,0,none⟩=some (.slice wT s.length zJ):=zK aQ rfl;refine a7 ?_;refine K.ld d1 ?_;refine a7 ?_;refine K.call (M3 l.length 4 (by omega) (o.nameAt (·.name) l) (o.oo l s) F.l1 F.kU [_] [_,_] (by kernel_rfl) (by kernel_rfl) aU (ba.ext he)
  (fun i ad=>by rw[q7 _ _ _ (by omega)];obtain⟨a,rfl⟩:=aS.addr (by omega);exact(aS.at i (by omega)).ok)
  (fun i w' ad he=>abj i b _ l w' (bE.ext o.pK.ext he ph) (he.cell d1) (by omega))
  (fun i w' ad he=>abk i b cp _ _ l s w' (bE.ext o.pK.ext he ph) (bE.ext o.jd.ext he gg) (he.cell d1) (he.cell d2) (by omega))) ?_
 rintro _ bb ⟨rfl,ax⟩;refine a7 ?_;exact⟨rfl,he.trans ax⟩
end Go.Proofs.R
end
section
end
section
namespace Go.Proofs.R
open Go Go.RowKit bt
theorem Bh(k:Int)(v:Value)(l:List o.Scalar)(w:World)(aS:o.hI w v l) :
  bu Tryz.prog F.q2 #[v,.int .i64 k] w fun v w'=>v = .int .i64 (o.size k l)/\w'=w:=by
 obtain⟨bm,cap,rfl,hlen⟩:=aS.form;refine bL E.q2 ?_;refine bG ?_;refine a7 ?_;refine K.cond (fun h1=>?_) (fun h1=>?_)
 .refine a7 ?_;rw[IH (.inl h1)];exact⟨rfl,trivial⟩
 refine a7 ?_;refine K.cond (fun U=>?_) (fun U=>?_)
 .refine a7 ?_;rw[IH (.inr U)];exact⟨rfl,trivial⟩
 obtain⟨a,rfl⟩:=aS.addr (by omega);have aw:=(aS.at (k.toNat - 1) (by omega)).cells 1 _ rfl;have hk:(k - 1).toNat*2=(k.toNat - 1)*2:=by omega
 rw[Yh (by omega) (by omega)];rw[<-hk] at aw;generalize l[k.toNat - 1].size=z at aw
 (repeat' first
  | (refine K.cond (fun _=>?_) (fun _=>?_)<;>try (exfalso;omega))
  | (refine K.dp (fun _=>?_) (fun _=>?_))
  | (refine K.wrap (by omega) ?_)
  | (refine K.ld (by assumption) ?_)
  | (refine K.gB (by omega) ?_)
  | simp -dsimp only[c4,cF,Nat.reduceAdd,Nat.reduceEqDiff,reduceIte,reduceCtorEq,db])
 .rw[if_neg (by omega)];exact⟨rfl,trivial⟩
 .rw[if_neg (by omega)];exact⟨rfl,trivial⟩
 .rw[if_pos (by omega)];exact⟨rfl,trivial⟩
theorem NM(x:o.Var)(v:Value)(l:List o.Scalar)(w:World)(aS:o.hI w v l) :
  bu Tryz.prog F.yE #[.agg x.enc.toArray,v] w fun v w'=>v = .tuple #[.int .i64 (o.bounds x l).1,.int .i64 (o.bounds x l).2]/\Ext w w':=by
 obtain⟨bm,cap,rfl,hlen⟩:=aS.form;refine bL E.yE ?_;refine bG ?_;refine a7 ?_;refine K.new fun av b aC aB aq=>?_;have c1:av.cell? (Addr.add ⟨b,0,none⟩ 1)=some (.int .i64 x.scalar):=e2 aq rfl;have bQ:av.cell? (Addr.add ⟨b,0,none⟩ 3)=some (.int .i64 x.bf):=e2 aq rfl;have bX:av.cell? (Addr.add ⟨b,0,none⟩ 4)=some (.int .i64 x.ad):=e2 aq rfl;refine a7 ?_;refine K.ld c1 ?_;refine a7 ?_;refine K.cond (fun h1=>?_) (fun h1=>?_)
 .refine a7 ?_;refine K.ld bQ ?_;refine a7 ?_;refine K.ld bX ?_;refine a7 ?_;intro aU aA;simp only[o.bounds,h1,if_true];exact⟨trivial,aB.trans aA⟩
 .refine a7 ?_;refine K.ld c1 ?_;refine a7 ?_;refine K.call (Bh x.scalar _ l av (bE.ext o.jd.ext aB aS)) ?_;rintro _ _ ⟨rfl,rfl⟩;refine a7 ?_;simp only[o.bounds,h1,if_false];exact⟨trivial,aB⟩
theorem NN(x:o.Var)(v:Value)(l:List o.Scalar)(w:World)(aS:o.hI w v l) :
  bu Tryz.prog F.yF #[.agg x.enc.toArray,v] w fun v w'=>v = .int .i64 (o.cells x l)/\Ext w w':=by
 obtain⟨bm,cap,rfl,hlen⟩:=aS.form;refine bL E.yF ?_;refine bG ?_;refine a7 ?_;refine K.new fun av b aC aB aq=>?_;have c2:av.cell? (Addr.add ⟨b,0,none⟩ 2)=some (.int .i64 x.over):=e2 aq rfl;refine a7 ?_;refine K.ld c2 ?_;refine a7 ?_;refine K.cond (fun h1=>?_) (fun h1=>?_)
 .refine a7 ?_;simp only[o.cells,h1,if_true];exact⟨trivial,aB⟩
 .refine a7 ?_;refine K.ld c2 ?_;refine a7 ?_;refine K.call (Bh x.over _ l av (bE.ext o.jd.ext aB aS)) ?_;rintro _ _ ⟨rfl,rfl⟩;refine a7 ?_;simp only[o.cells,h1,if_false];exact⟨trivial,aB⟩
end Go.Proofs.R
end
section
namespace Go.Proofs.R
open Go Go.RowKit bt
theorem XO(n:Int)(w:World):bu Tryz.prog F.AK #[.int .u8 n] w fun v w'=>v = .bool (o.letter n)/\w'=w:=by
 refine bL E.AK ?_;refine bG ?_
 (repeat' first
  | (refine K.cond (fun _=>?_) (fun _=>?_)<;>try (exfalso;omega))
  | (refine K.dp (fun _=>?_) (fun _=>?_))
  | (refine K.wrap (by omega) ?_)
  | (refine K.ld (by assumption) ?_)
  | (refine K.gB (by omega) ?_)
  | simp -dsimp only[c4,cF,Nat.reduceAdd,Nat.reduceEqDiff,reduceIte,reduceCtorEq,db])
 all_goals (refine⟨?_,by first | rfl | trivial⟩;congr 1;rw[Bool.eq_iff_iff];simp[o.letter];omega)
theorem NJ(n:Int)(w:World):bu Tryz.prog F.yB #[.int .u8 n] w fun v w'=>v = .bool (o.digit n)/\w'=w:=by
 refine bL E.yB ?_;refine bG ?_
 (repeat' first
  | (refine K.cond (fun _=>?_) (fun _=>?_)<;>try (exfalso;omega))
  | (refine K.dp (fun _=>?_) (fun _=>?_))
  | (refine K.wrap (by omega) ?_)
  | (refine K.ld (by assumption) ?_)
  | (refine K.gB (by omega) ?_)
  | simp -dsimp only[c4,cF,Nat.reduceAdd,Nat.reduceEqDiff,reduceIte,reduceCtorEq,db])
 all_goals (refine⟨?_,by first | rfl | trivial⟩;congr 1;rw[Bool.eq_iff_iff];simp[o.digit];omega)
def vf:List ByteArray:=[⟨#[58,61]⟩,⟨#[61,61]⟩,⟨#[33,61]⟩,⟨#[60,61]⟩,⟨#[45,62]⟩,⟨#[38,38]⟩,⟨#[124,124]⟩,⟨#[61,62]⟩,⟨#[40]⟩,⟨#[41]⟩,⟨#[91]⟩,⟨#[93]⟩,⟨#[123]⟩,⟨#[125]⟩,⟨#[59]⟩,⟨#[44]⟩,⟨#[58]⟩,⟨#[46]⟩,⟨#[60]⟩,⟨#[43]⟩,⟨#[45]⟩,⟨#[42]⟩,⟨#[33]⟩,⟨#[63]⟩,⟨#[64]⟩]
theorem akP(w:World):bu Tryz.prog F.Eg #[] w fun v w'=>(∃b,v = .slice (some ⟨b,0,none⟩) 25 25/\eS w' ⟨b,0,none⟩ (vf.map Value.string))/\Ext w w':=by
 refine bL E.Eg ?_;refine bG ?_;refine a7 ?_;refine K.lv (cs:=vf.map Value.string) (by simp[List.range,List.range.loop,eP,lay,fu,o7,cu,Value.cells,vf]) fun av bC cR aB aq=>?_;refine a7 ?_;exact⟨⟨bC,rfl,hj aq⟩,aB⟩
theorem aaq(s:ByteArray)(w:World)(h:0<s.size)(ay:s.size<=16) :
  bu Tryz.prog F.Ef #[.string s,.int .i64 0] w fun v w'=>(∃n k:Int,v = .tuple #[.int .i64 n,.int .i64 k]/\if o.letter (o.rJ s 0:Nat)=true then n=o.run o.part s/\k=1 else k≠1)/\Ext w w':=by
 refine bL E.Ef ?_;refine bG ?_;refine a7 ?_;refine K.lM (s.get! 0) (by decide) (o.get?_eq s 0 h) ?_;refine a7 ?_;refine K.call (XO _ w) ?_;rintro _ w ⟨rfl,rfl⟩;refine a7 ?_;refine K.dp (fun h1=>?_) (fun h1=>?_)
 .have p0:o.letter (o.rJ s 0:Nat)=true:=h1;refine a7 ?_;refine K.loop (fun S w' => ∃i:Nat,i<=s.size/\S 6 = .int .i64 i/\(∀j (aR:j<s.size),j<i->o.part s[j].toNat=true)/\w'=w)
   (fun S _=>(s.size - intOf (S 6)).toNat) ⟨0,by omega,by refine a7 ?_;rfl,fun _ _ h=>absurd h (Nat.not_lt_zero _),rfl⟩ ?_
  rintro S w cq ⟨i,ad,bS,dC,rfl⟩;have ak:=cq 0 rfl;have h1:=cq 1 rfl;simp only[cu,Nat.reduceAdd,Nat.reduceEqDiff,reduceIte,jh,mr] at ak h1;clear cq;refine cd (i_ ak (i_ h1 bS)) ?_;refine K.cond (fun U=>?_) (fun U=>?_)
  .have cO:i<s.size:=by omega
   refine cd (i_ ak (i_ h1 bS)) ?_;refine K.lM (s.get! i) (by omega) (o.get?_eq s i cO) ?_;rw[o.get_eq s i cO];refine cd (i_ ak (i_ h1 bS)) ?_;refine K.call (XO _ _) ?_;rintro _ w ⟨rfl,rfl⟩;refine cd (i_ ak (i_ h1 bS)) ?_;refine K.dp (fun ag=>?_) (fun ag=>?_)
   .refine cd (i_ ak (i_ h1 bS)) ?_;refine K.wrap (by omega) ?_;refine cd (i_ ak (i_ h1 bS)) ?_;refine⟨⟨i+1,by omega,rfl,fun j aR gY=>?_,trivial⟩,by simp[intOf];omega⟩;by_cases kZ:j<i
    .exact dC j aR kZ
    .have:j=i:=by omega
     subst this;simp[o.part,ag]
   refine cd (i_ ak (i_ h1 bS)) ?_;refine K.lM (s.get! i) (by omega) (o.get?_eq s i cO) ?_;rw[o.get_eq s i cO];refine cd (i_ ak (i_ h1 bS)) ?_;refine K.call (NJ _ _) ?_;rintro _ w ⟨rfl,rfl⟩;refine cd (i_ ak (i_ h1 bS)) ?_;refine K.dp (fun aJ=>?_) (fun aJ=>?_)
   .refine cd (i_ ak (i_ h1 bS)) ?_;refine K.wrap (by omega) ?_;refine cd (i_ ak (i_ h1 bS)) ?_;refine⟨⟨i+1,by omega,rfl,fun j aR gY=>?_,trivial⟩,by simp[intOf];omega⟩;by_cases kZ:j<i
    .exact dC j aR kZ
    .have:j=i:=by omega
     subst this;simp[o.part,aJ]
   refine cd (i_ ak (i_ h1 bS)) ?_;refine K.lM (s.get! i) (by omega) (o.get?_eq s i cO) ?_;rw[o.get_eq s i cO];refine cd (i_ ak (i_ h1 bS)) ?_;refine K.cond (fun bg=>?_) (fun bg=>?_)
   .refine cd (i_ ak (i_ h1 bS)) ?_;refine K.wrap (by omega) ?_;refine cd (i_ ak (i_ h1 bS)) ?_;refine⟨⟨i+1,by omega,rfl,fun j aR gY=>?_,trivial⟩,by simp[intOf];omega⟩;by_cases kZ:j<i
    .exact dC j aR kZ
    .have:j=i:=by omega
     subst this;simp[o.part];omega
   .refine cd (i_ ak (i_ h1 bS)) ?_;refine K.wrap (by omega) ?_;refine cd (i_ ak (i_ h1 bS)) ?_;refine⟨⟨_,_,rfl,?_⟩,Ext.refl _⟩;rw[if_pos p0];rw[o.X6 o.part s i cO (fun j aR=>dC j (by omega) aR) (by simp only[o.part,ag,aJ,Bool.false_or,decide_eq_false_iff_not];omega)];exact⟨by omega,rfl⟩
  .refine cd (i_ ak (i_ h1 bS)) ?_;refine K.wrap (by omega) ?_;refine cd (i_ ak (i_ h1 bS)) ?_;refine⟨⟨_,_,rfl,?_⟩,Ext.refl _⟩;rw[if_pos p0];rw[o.XZ o.part s (fun j aR=>dC j aR (by omega))];exact⟨by omega,rfl⟩
 have p0:o.letter (o.rJ s 0:Nat)=false:=h1;have gZ:¬o.letter (o.rJ s 0:Nat)=true:=by simp[p0]
 refine a7 ?_;refine K.lM (s.get! 0) (by decide) (o.get?_eq s 0 h) ?_;refine a7 ?_;refine K.call (NJ _ w) ?_;rintro _ w ⟨rfl,rfl⟩;refine a7 ?_;refine K.dp (fun U=>?_) (fun U=>?_)
 .refine a7 ?_;refine K.loop (fun S w' => ∃i:Nat,i<=s.size/\S 6 = .int .i64 i/\w'=w)
   (fun S _=>(s.size - intOf (S 6)).toNat) ⟨0,by omega,by refine a7 ?_;rfl,rfl⟩ ?_
  rintro S w cq ⟨i,ad,bS,rfl⟩;have ak:=cq 0 rfl;have h1:=cq 1 rfl;simp only[cu,Nat.reduceAdd,Nat.reduceEqDiff,reduceIte,jh,mr] at ak h1;clear cq;refine cd (i_ ak (i_ h1 bS)) ?_;refine K.cond (fun U=>?_) (fun U=>?_)
  .have cO:i<s.size:=by omega
   refine cd (i_ ak (i_ h1 bS)) ?_;refine K.lM (s.get! i) (by omega) (o.get?_eq s i cO) ?_;refine cd (i_ ak (i_ h1 bS)) ?_;refine K.call (NJ _ _) ?_;rintro _ w ⟨rfl,rfl⟩;refine cd (i_ ak (i_ h1 bS)) ?_;refine K.dp (fun aJ=>?_) (fun aJ=>?_)
   .refine cd (i_ ak (i_ h1 bS)) ?_;refine K.wrap (by omega) ?_;refine cd (i_ ak (i_ h1 bS)) ?_;exact⟨⟨i+1,by omega,rfl,trivial⟩,by simp[intOf];omega⟩
   .refine cd (i_ ak (i_ h1 bS)) ?_;refine K.wrap (by omega) ?_;refine cd (i_ ak (i_ h1 bS)) ?_;exact⟨⟨_,_,rfl,by rw[if_neg gZ];decide⟩,Ext.refl _⟩
  .refine cd (i_ ak (i_ h1 bS)) ?_;refine K.wrap (by omega) ?_;refine cd (i_ ak (i_ h1 bS)) ?_;exact⟨⟨_,_,rfl,by rw[if_neg gZ];decide⟩,Ext.refl _⟩
 refine a7 ?_;refine K.call (akP w) ?_;rintro _ av ⟨⟨b,rfl,aw⟩,he⟩;refine a7 ?_;refine K.loop (fun S w' => ∃i:Nat,i<=25/\S 8 = .int .i64 i/\Ext av w')
  (fun S _=>(25 - intOf (S 8)).toNat) ⟨0,by omega,by refine a7 ?_;rfl,Ext.refl _⟩ ?_
 rintro S w' cq ⟨i,ad,dB,aA⟩;have ak:=cq 0 rfl;have h1:=cq 1 rfl;have cj:=cq 7 rfl;simp only[cu,Nat.reduceAdd,Nat.reduceEqDiff,reduceIte,jh,mr] at ak h1 cj;clear cq;refine cd (i_ ak (i_ h1 (i_ cj dB))) ?_;refine K.cond (fun U=>?_) (fun U=>?_)
 .have cO:i<vf.length:=by simp[vf];omega
  have h0:w'.cell? (Addr.add ⟨b,0,none⟩ (i*1))=some (.string vf[i]):=by
   rw[Nat.mul_one];exact aw.ext aA i _ (by rw[List.getElem?_map,List.getElem?_eq_getElem cO];rfl)
  have bN:vf[i].size<=2:=by
   have:∀x∈vf,x.size<=2:=by decide
   exact this _ (List.getElem_mem _)
  generalize vf[i]=x at h0 bN;refine cd (i_ ak (i_ h1 (i_ cj dB))) ?_;refine K.wrap (by omega) ?_;refine cd (i_ ak (i_ h1 (i_ cj dB))) ?_;refine K.dD i rfl (by omega) ?_;refine cd (i_ ak (i_ h1 (i_ cj dB))) ?_;refine K.ld h0 ?_;refine cd (i_ ak (i_ h1 (i_ cj dB))) ?_;refine K.cond (fun ag=>?_) (fun ag=>?_)
  .refine cd (i_ ak (i_ h1 (i_ cj dB))) ?_;refine K.dD i rfl (by omega) ?_;refine cd (i_ ak (i_ h1 (i_ cj dB))) ?_;refine K.ld h0 ?_;refine cd (i_ ak (i_ h1 (i_ cj dB))) ?_;refine K.wrap (by omega) ?_;refine cd (i_ ak (i_ h1 (i_ cj dB))) ?_;refine K.w4 0 x.size (by simp[fm,fu,cu,h1]) (by simp[fm,fu,cu,h1]) (by omega) ?_;refine cd (i_ ak (i_ h1 (i_ cj dB))) ?_;refine K.dD i rfl (by omega) ?_;refine cd (i_ ak (i_ h1 (i_ cj dB))) ?_;refine K.ld h0 ?_;refine cd (i_ ak (i_ h1 (i_ cj dB))) ?_;intro aU ax;refine K.cond (fun aJ=>?_) (fun aJ=>?_)
   .refine cd (i_ ak (i_ h1 (i_ cj dB))) ?_;refine K.dD i rfl (by omega) ?_;refine cd (i_ ak (i_ h1 (i_ cj dB))) ?_;refine K.ld (ax.cell h0) ?_;refine cd (i_ ak (i_ h1 (i_ cj dB))) ?_;exact⟨⟨_,_,rfl,by rw[if_neg gZ];decide⟩,he.trans (aA.trans ax)⟩
   .refine cd (i_ ak (i_ h1 (i_ cj dB))) ?_;refine K.wrap (by omega) ?_;refine cd (i_ ak (i_ h1 (i_ cj dB))) ?_;exact⟨⟨i+1,by omega,rfl,aA.trans ax⟩,by simp[intOf];omega⟩
  .refine cd (i_ ak (i_ h1 (i_ cj dB))) ?_;intro aU ax;refine K.wrap (by omega) ?_;refine cd (i_ ak (i_ h1 (i_ cj dB))) ?_;exact⟨⟨i+1,by omega,rfl,aA.trans ax⟩,by simp[intOf];omega⟩
 .refine cd (i_ ak (i_ h1 (i_ cj dB))) ?_;exact⟨⟨_,_,rfl,by rw[if_neg gZ];decide⟩,he.trans aA⟩
theorem Bl(s:ByteArray)(w:World)(ay:s.size<=9223372036854775807):bu Tryz.prog F.tj #[.string s] w fun v w'=>v = .bool (o.isName s)/\Ext w w':=by
 refine bL E.tj ?_;refine bG ?_;refine a7 ?_;refine K.cond (fun ak=>?_) (fun ak=>?_)
 .refine a7 ?_;refine⟨?_,Ext.refl w⟩;subst ak;rfl
 have bN:s.size≠0:=fun h=>ak (by
  cases s with | mk d =>
  have:d=#[]:=by simpa[ByteArray.size] using h
  rw[this])
 refine a7 ?_;refine K.cond (fun h1=>?_) (fun h1=>?_)
 .refine a7 ?_;refine⟨?_,Ext.refl w⟩
  have:¬s.size<=16:=by omega
  simp[o.isName,this]
 have p0:s.size<=16:=by omega
 refine a7 ?_;refine K.cond (fun U=>?_) (fun U=>?_)
 .refine a7 ?_;exact⟨by subst U;exact congrArg Value.bool (by decide +kernel),Ext.refl w⟩
 refine a7 ?_;refine K.cond (fun ag=>?_) (fun ag=>?_)
 .refine a7 ?_;exact⟨by subst ag;exact congrArg Value.bool (by decide +kernel),Ext.refl w⟩
 refine a7 ?_;refine K.cond (fun aJ=>?_) (fun aJ=>?_)
 .refine a7 ?_;exact⟨by subst aJ;exact congrArg Value.bool (by decide +kernel),Ext.refl w⟩
 refine a7 ?_;refine K.cond (fun bg=>?_) (fun bg=>?_)
 .refine a7 ?_;exact⟨by subst bg;exact congrArg Value.bool (by decide +kernel),Ext.refl w⟩
 have hm:s∉o.qe:=by simp[o.qe,U,ag,aJ,bg]
 refine a7 ?_;refine K.call (aaq s w (by omega) p0) ?_;rintro _ av ⟨⟨n,k,rfl,lF⟩,he⟩;refine a7 ?_;refine K.cond (fun bS=>?_) (fun bS=>?_)
 .refine a7 ?_;refine⟨?_,he⟩;have aS:o.letter (o.rJ s 0:Nat)=true:=by
   by_cases ar:o.letter (o.rJ s 0:Nat)=true
   .exact ar
   .rw[if_neg ar] at lF;exact absurd bS lF
  rw[if_pos aS] at lF;congr 1;simp[o.isName,aS,bN,p0,hm,lF.1];omega
 .refine a7 ?_;refine⟨?_,he⟩;have aS:o.letter (o.rJ s 0:Nat)=false:=by
   by_cases ar:o.letter (o.rJ s 0:Nat)=true
   .rw[if_pos ar] at lF;exact absurd lF.2 bS
   .simpa using ar
  simp[o.isName,aS]
end Go.Proofs.R
end
section
namespace Go.Proofs.R
open Go Go.RowKit bt
theorem xS{fs:Int}{fH:Nat->ByteArray}{mo:Nat->Int}{i:Nat}(h:fs<=i):o.err fs fH mo i=11:=by rw[o.err,if_pos h]
theorem zV{fs:Int}{fH:Nat->ByteArray}{mo:Nat->Int}{i:Nat}(h:¬fs<=i)(U:o.isName (fH i)=false):o.err fs fH mo i=6:=by rw[o.err,if_neg h,if_pos U]
theorem KA{fs:Int}{fH:Nat->ByteArray}{mo:Nat->Int}{i j:Nat}(h:¬fs<=i)(U:o.isName (fH i)=true)(aR:j<i)(he:fH j=fH i):o.err fs fH mo i=7:=by
 rw[o.err,if_neg h,if_neg (by simp[U]),if_pos ⟨j,aR,he⟩]
theorem Kz{fs:Int}{fH:Nat->ByteArray}{mo:Nat->Int}{i:Nat}(h:¬fs<=i)(U:o.isName (fH i)=true)(aR:∀j,j<i->fH j≠fH i):o.err fs fH mo i=mo i:=by
 rw[o.err,if_neg h,if_neg (by simp[U]),if_neg (fun⟨j,h1,U⟩=>aR j h1 U)]
theorem WC{fs:Int}{fH:Nat->ByteArray}{mo:Nat->Int}{i:Nat}(hm:0<=fs)(h:∀j,j<i->o.err fs fH mo j=0):(i:Int)<=fs:=by
 by_cases ar:(i:Int)<=fs
 .exact ar
 .have:=h fs.toNat (by omega)
  rw[xS (by omega)] at this;cases this
theorem ajS(v:Value)(l:List o.Scalar)(w:World)(aS:o.hI w v l) :
  bu Tryz.prog F.Eo #[v] w fun v w'=>v = .tuple #[.int .i64 (o.scalars l).1,.int .i64 (o.scalars l).2]/\Ext w w':=by
 obtain⟨bm,cap,rfl,hlen⟩:=aS.form;refine bL E.Eo ?_;refine bG ?_;simp -dsimp only[c4,cF,Nat.reduceAdd,Nat.reduceEqDiff,reduceIte,reduceCtorEq,db];refine K.loop (fun S w' => ∃i:Nat,i<=l.length/\S 4 = .int .i64 i/\(∀j,j<i->o.err 2 (o.nameAt (·.name) l) (o.tr l) j=0)/\Ext w w')
  (fun S _=>(l.length - intOf (S 4)).toNat) ⟨0,by omega,by simp -dsimp only[c4,cF,Nat.reduceAdd,Nat.reduceEqDiff,reduceIte,reduceCtorEq,db];rfl,fun _ h=>absurd h (Nat.not_lt_zero _),Ext.refl _⟩ ?_
 rintro S w' cq ⟨i,ad,aJ,dC,he⟩;have ak:=cq 0 rfl;simp only[cu,Nat.reduceAdd,Nat.reduceEqDiff,reduceIte,jh,mr] at ak;clear cq;have kD:=WC (by omega) dC;refine cd (i_ ak aJ) ?_;apply K.cond<;>intro g1;rotate_left
 .refine cd (i_ ak aJ) ?_;rw[o.scalars,o.ot (fun j aR=>dC j (by omega))];exact⟨rfl,he⟩
 have cO:i<l.length:=by omega
 obtain⟨a,rfl⟩:=aS.addr (by omega);have il:=bE.ext o.jd.ext he aS;have o9:=(il.at i cO).cells 0 _ rfl;have aq:=(il.at i cO).cells 1 _ rfl;have dq:o.hR l[i].name:=(il.at i cO).ok;have fG:o.nameAt (fun x:o.Scalar=>x.name) l i=l[i].name:=q7 _ _ _ cO;refine cd (i_ ak aJ) ?_;apply K.cond<;>intro g2
 .refine cd (i_ ak aJ) ?_;rw[o.scalars,o.iF cO dC (by rw[xS (by omega)];decide),xS (by omega)];exact⟨rfl,he⟩
 have hm:¬(2:Int)<=(i:Int):=by omega
 refine cd (i_ ak aJ) ?_;refine K.dD i rfl cO ?_;refine cd (i_ ak aJ) ?_;refine K.ld o9 ?_;refine cd (i_ ak aJ) ?_;refine K.call (Bl _ _ dq) ?_;rintro _ aU ⟨rfl,aA⟩;refine cd (i_ ak aJ) ?_;refine K.dp (fun g3=>?_) (fun g3=>?_);rotate_left
 .refine cd (i_ ak aJ) ?_;rw[<-fG] at g3;rw[o.scalars,o.iF cO dC (by rw[zV hm g3];decide),zV hm g3];exact⟨rfl,he.trans aA⟩
 have pZ:=g3;rw[<-fG] at pZ;replace aA:=he.trans aA;clear he il;refine cd (i_ ak aJ) ?_;refine K.loop (fun bh w' => ∃k:Nat,k<=i/\bh 5 = .int .i64 k/\(∀j,j<k->o.nameAt (fun x:o.Scalar=>x.name) l j≠o.nameAt (fun x:o.Scalar=>x.name) l i)/\Ext w w')
  (fun S _=>(i - intOf (S 5)).toNat) ⟨0,by omega,by simp -dsimp only[c4,cF,Nat.reduceAdd,Nat.reduceEqDiff,reduceIte,reduceCtorEq,db];rfl,fun _ h=>absurd h (Nat.not_lt_zero _),aA⟩ ?_
 rintro kR bb ov ⟨k,hk,bg,cI,ax⟩;have cy:=ak;have cB:=aJ;have ak:=ov 0 rfl;have aJ:=ov 4 rfl;simp only[cu,Nat.reduceAdd,Nat.reduceEqDiff,reduceIte,jh,mr] at ak aJ;clear ov;rw[cy] at ak;rw[cB] at aJ;have il:=bE.ext o.jd.ext ax aS;have o9:=(il.at i cO).cells 0 _ rfl;have aq:=(il.at i cO).cells 1 _ rfl;refine cd (i_ ak (i_ aJ bg)) ?_;apply K.cond<;>intro g4
 .have bp:k<l.length:=by omega
  have kY:=(il.at k bp).cells 0 _ rfl;have lF:o.nameAt (fun x:o.Scalar=>x.name) l k=l[k].name:=q7 _ _ _ bp;refine cd (i_ ak (i_ aJ bg)) ?_;refine K.dD k rfl bp ?_;refine cd (i_ ak (i_ aJ bg)) ?_;refine K.ld kY ?_;refine cd (i_ ak (i_ aJ bg)) ?_;refine K.dD i rfl cO ?_;refine cd (i_ ak (i_ aJ bg)) ?_;refine K.ld o9 ?_;refine cd (i_ ak (i_ aJ bg)) ?_;intro bq aM;apply K.cond<;>intro g5
  .refine cd (i_ ak (i_ aJ bg)) ?_;have aO:=KA (mo:=o.tr l) hm pZ (show k<i by omega) (by rw[lF,fG];exact g5);rw[o.scalars,o.iF cO dC (by rw[aO];decide),aO];exact⟨rfl,ax.trans aM⟩
  .refine cd (i_ ak (i_ aJ bg)) ?_;refine K.wrap (by omega) ?_;refine cd (i_ ak (i_ aJ bg)) ?_;refine⟨⟨k+1,by omega,rfl,fun j aR=>?_,ax.trans aM⟩,by simp[intOf];omega⟩;by_cases h3:j<k
   .exact cI j h3
   .have:j=k:=by omega
    subst this;rw[lF,fG];exact g5
 have gR:=Kz (mo:=o.tr l) hm pZ (fun j aR=>cI j (by omega));have rY:o.tr l i=if 1<=l[i].size/\l[i].size<=4 then 0 else 10:=by simp[o.tr,cO]
 rw[rY] at gR;generalize l[i].size=z at aq gR;refine cd (i_ ak (i_ aJ bg)) ?_;refine K.dD i rfl cO ?_;refine cd (i_ ak (i_ aJ bg)) ?_;refine K.ld aq ?_;refine cd (i_ ak (i_ aJ bg)) ?_;apply K.cond<;>intro g6
 .refine cd (i_ ak (i_ aJ bg)) ?_;rw[if_neg (by omega)] at gR;rw[o.scalars,o.iF cO dC (by rw[gR];decide),gR];exact⟨rfl,ax⟩
 refine cd (i_ ak (i_ aJ bg)) ?_;refine K.dD i rfl cO ?_;refine cd (i_ ak (i_ aJ bg)) ?_;refine K.ld aq ?_;refine cd (i_ ak (i_ aJ bg)) ?_;apply K.cond<;>intro g7
 .refine cd (i_ ak (i_ aJ bg)) ?_;rw[if_neg (by omega)] at gR;rw[o.scalars,o.iF cO dC (by rw[gR];decide),gR];exact⟨rfl,ax⟩
 .refine cd (i_ ak (i_ aJ bg)) ?_;rw[if_pos (by omega)] at gR;refine K.wrap (by omega) ?_;refine cd (i_ ak (i_ aJ bg)) ?_;refine⟨⟨i+1,by omega,rfl,fun j aR=>?_,ax⟩,by simp[intOf,cB];omega⟩;by_cases gY:j<i
  .exact dC j gY
  .have:j=i:=by omega
   subst this;exact gR
end Go.Proofs.R
end
section
namespace Go.Proofs.R
open Go Go.RowKit bt
theorem Yp(bf ad:Int)(w:World):bu Tryz.prog F.yG #[.int .i64 bf,.int .i64 ad] w fun v w'=>v = .bool (o.narrow bf ad)/\w'=w:=by
 refine bL E.yG ?_;refine bG ?_
 (repeat' first
  | (refine K.cond (fun _=>?_) (fun _=>?_)<;>try (exfalso;omega))
  | (refine K.dp (fun _=>?_) (fun _=>?_))
  | (refine K.wrap (by omega) ?_)
  | (refine K.ld (by assumption) ?_)
  | (refine K.gB (by omega) ?_)
  | simp -dsimp only[c4,cF,Nat.reduceAdd,Nat.reduceEqDiff,reduceIte,reduceCtorEq,db])
 all_goals (refine⟨?_,by first | rfl | trivial⟩;congr 1;rw[Bool.eq_iff_iff];simp[o.narrow];omega)
def I0(v:o.Var)(s:List o.Scalar):Int :=
 if (v.scalar≠0/\o.size v.scalar s=0)\/(v.over≠0/\o.size v.over s=0) then 8
 else if v.scalar=0/\(o.narrow v.bf v.ad=false\/v.init<v.bf\/v.init > v.ad) then 10
 else if v.scalar≠0/\(v.init<0\/v.init > o.size v.scalar s) then 10 else 0
theorem alY(l:List o.Var)(s:List o.Scalar)(i:Nat)(h:i<l.length):o.oL l s i=I0 l[i] s:=by
 rw[o.oL,List.getElem?_eq_getElem h];simp only[I0,o.there,o.bounds,decide_eq_false_iff_not];by_cases ak:l[i].scalar=0
 .simp only[ak,if_true];by_cases h1:l[i].over=0
  .simp[h1]
  .simp[h1]
 .simp only[ak,if_false];by_cases h1:l[i].over=0
  .simp[ak,h1]
  .simp[ak,h1]
theorem ajU(x:o.Var)(v:Value)(l:List o.Scalar)(w:World)(aS:o.hI w v l) :
  bu Tryz.prog F.Ep #[.agg x.enc.toArray,v] w fun v w'=>v = .int .i64 (I0 x l)/\Ext w w':=by
 obtain⟨bm,cap,rfl,hlen⟩:=aS.form;refine bL E.Ep ?_;refine bG ?_;simp -dsimp only[c4,cF,Nat.reduceAdd,Nat.reduceEqDiff,reduceIte,reduceCtorEq,db];refine K.new fun av b aC aB aq=>?_;have ph:=bE.ext o.jd.ext aB aS;have c1:av.cell? (Addr.add ⟨b,0,none⟩ 1)=some (.int .i64 x.scalar):=e2 aq rfl;have c2:av.cell? (Addr.add ⟨b,0,none⟩ 2)=some (.int .i64 x.over):=e2 aq rfl;have bQ:av.cell? (Addr.add ⟨b,0,none⟩ 3)=some (.int .i64 x.bf):=e2 aq rfl;have bX:av.cell? (Addr.add ⟨b,0,none⟩ 4)=some (.int .i64 x.ad):=e2 aq rfl;have xG:av.cell? (Addr.add ⟨b,0,none⟩ 5)=some (.int .i64 x.init):=e2 aq rfl;have aD:∀k w',Ext av w'->bu Tryz.prog F.q2 #[.slice bm l.length cap,.int .i64 k] w' fun u b1=>u = .int .i64 (o.size k l)/\Ext w' b1:=fun k w' he =>
  (Bh k _ l w' (bE.ext o.jd.ext he ph)).mono fun v b1 h=>⟨h.1,h.2 ▸ Ext.refl _⟩
 (repeat' first
  | (refine K.cond (fun _=>?_) (fun _=>?_)<;>try (exfalso;omega))
  | (refine K.dp (fun _=>?_) (fun _=>?_))
  | (refine K.ld (by assumption) ?_)
  | (refine K.call (Bh _ _ l _ ph) ?_;rintro _ av ⟨rfl,rfl⟩)
  | (refine K.call (Yp _ _ _) ?_;rintro _ av ⟨rfl,rfl⟩)
  | (refine K.gN _ (aD _) ?_)
  | simp -dsimp only[c4,cF,Nat.reduceAdd,Nat.reduceEqDiff,reduceIte,reduceCtorEq,db]
  | (intro aU aA;replace aA:=aB.trans aA))
 all_goals (refine⟨?_,by assumption⟩;congr 1;unfold I0;simp only[o.narrow,decide_eq_false_iff_not])
 all_goals (repeat' split)
 all_goals first | rfl | (exfalso;omega)
theorem XG(v v2:Value)(l:List o.Var)(s:List o.Scalar)(fs:Int)(w:World)(aS:o.hi w v l)(ay:o.hI w v2 s) :
  bu Tryz.prog F.AO #[v,v2,.int .i64 fs] w fun v w'=>v = .tuple #[.int .i64 (o.vars l s fs).1,.int .i64 (o.vars l s fs).2]/\Ext w w':=by
 obtain⟨bm,cap,rfl,hlen⟩:=aS.form;refine bL E.AO ?_;refine bG ?_;simp -dsimp only[c4,cF,Nat.reduceAdd,Nat.reduceEqDiff,reduceIte,reduceCtorEq,db];refine K.loop (fun S w' => ∃i:Nat,i<=l.length/\S 8 = .int .i64 i/\(∀j,j<i->o.err (max fs 0) (o.nameAt (·.name) l) (o.oL l s) j=0)/\Ext w w')
  (fun S _=>(l.length - intOf (S 8)).toNat) ⟨0,by omega,by simp -dsimp only[c4,cF,Nat.reduceAdd,Nat.reduceEqDiff,reduceIte,reduceCtorEq,db];rfl,fun _ h=>absurd h (Nat.not_lt_zero _),Ext.refl _⟩ ?_
 rintro S w' cq ⟨i,ad,dB,dC,he⟩;have ak:=cq 0 rfl;have h1:=cq 1 rfl;have U:=cq 2 rfl;simp only[cu,Nat.reduceAdd,Nat.reduceEqDiff,reduceIte,jh,mr] at ak h1 U;clear cq;refine cd (i_ ak (i_ h1 (i_ U dB))) ?_;apply K.cond<;>intro g1;rotate_left
 .refine cd (i_ ak (i_ h1 (i_ U dB))) ?_;rw[o.vars,o.ot (fun j aR=>dC j (by omega))];exact⟨rfl,he⟩
 have cO:i<l.length:=by omega
 obtain⟨a,rfl⟩:=aS.addr (by omega);have il:=bE.ext o.pL.ext he aS;have o9:=(il.at i cO).cells 0 _ rfl;have dq:o.hR l[i].name:=(il.at i cO).ok;have fG:o.nameAt (fun x:o.Var=>x.name) l i=l[i].name:=q7 _ _ _ cO;refine cd (i_ ak (i_ h1 (i_ U dB))) ?_;apply K.cond<;>intro g2
 .refine cd (i_ ak (i_ h1 (i_ U dB))) ?_;rw[o.vars,o.iF cO dC (by rw[xS (by omega)];decide),xS (by omega)];exact⟨rfl,he⟩
 have hm:¬(max fs 0:Int)<=(i:Int):=by omega
 refine cd (i_ ak (i_ h1 (i_ U dB))) ?_;refine K.dD i rfl cO ?_;refine cd (i_ ak (i_ h1 (i_ U dB))) ?_;refine K.ld o9 ?_;refine cd (i_ ak (i_ h1 (i_ U dB))) ?_;refine K.call (Bl _ _ dq) ?_;rintro _ aU ⟨rfl,aA⟩;refine cd (i_ ak (i_ h1 (i_ U dB))) ?_;refine K.dp (fun g3=>?_) (fun g3=>?_);rotate_left
 .refine cd (i_ ak (i_ h1 (i_ U dB))) ?_;rw[<-fG] at g3;rw[o.vars,o.iF cO dC (by rw[zV hm g3];decide),zV hm g3];exact⟨rfl,he.trans aA⟩
 have pZ:=g3;rw[<-fG] at pZ;replace aA:=he.trans aA;clear he il;refine cd (i_ ak (i_ h1 (i_ U dB))) ?_;refine K.loop (fun bh w' => ∃k:Nat,k<=i/\bh 9 = .int .i64 k/\(∀j,j<k->o.nameAt (fun x:o.Var=>x.name) l j≠o.nameAt (fun x:o.Var=>x.name) l i)/\Ext w w')
  (fun S _=>(i - intOf (S 9)).toNat) ⟨0,by omega,by simp -dsimp only[c4,cF,Nat.reduceAdd,Nat.reduceEqDiff,reduceIte,reduceCtorEq,db];rfl,fun _ h=>absurd h (Nat.not_lt_zero _),aA⟩ ?_
 rintro kR bb ov ⟨k,hk,iG,cI,ax⟩;have cy:=ak;have b9:=h1;have ck:=U;have WZ:=dB;have ak:=ov 0 rfl;have h1:=ov 1 rfl;have U:=ov 2 rfl;have dB:=ov 8 rfl;simp only[cu,Nat.reduceAdd,Nat.reduceEqDiff,reduceIte,jh,mr] at ak h1 U dB;clear ov;rw[cy] at ak;rw[b9] at h1;rw[ck] at U;rw[WZ] at dB;have il:=bE.ext o.pL.ext ax aS;have o9:=(il.at i cO).cells 0 _ rfl;refine cd (i_ ak (i_ h1 (i_ U (i_ dB iG)))) ?_;apply K.cond<;>intro g4
 .have bp:k<l.length:=by omega
  have kY:=(il.at k bp).cells 0 _ rfl;have lF:o.nameAt (fun x:o.Var=>x.name) l k=l[k].name:=q7 _ _ _ bp;refine cd (i_ ak (i_ h1 (i_ U (i_ dB iG)))) ?_;refine K.dD k rfl bp ?_;refine cd (i_ ak (i_ h1 (i_ U (i_ dB iG)))) ?_;refine K.ld kY ?_;refine cd (i_ ak (i_ h1 (i_ U (i_ dB iG)))) ?_;refine K.dD i rfl cO ?_;refine cd (i_ ak (i_ h1 (i_ U (i_ dB iG)))) ?_;refine K.ld o9 ?_;refine cd (i_ ak (i_ h1 (i_ U (i_ dB iG)))) ?_;intro bq aM;apply K.cond<;>intro g5
  .refine cd (i_ ak (i_ h1 (i_ U (i_ dB iG)))) ?_;have aO:=KA (mo:=o.oL l s) hm pZ (show k<i by omega) (by rw[lF,fG];exact g5);rw[o.vars,o.iF cO dC (by rw[aO];decide),aO];exact⟨rfl,ax.trans aM⟩
  .refine cd (i_ ak (i_ h1 (i_ U (i_ dB iG)))) ?_;refine K.wrap (by omega) ?_;refine cd (i_ ak (i_ h1 (i_ U (i_ dB iG)))) ?_;refine⟨⟨k+1,by omega,rfl,fun j aR=>?_,ax.trans aM⟩,by simp[intOf];omega⟩;by_cases h3:j<k
   .exact cI j h3
   .have:j=k:=by omega
    subst this;rw[lF,fG];exact g5
 have gR:=Kz (mo:=o.oL l s) hm pZ (fun j aR=>cI j (by omega));rw[alY l s i cO] at gR;have yq:=bE.ext o.jd.ext ax ay;have l4:=(il.at i cO).cells;generalize l[i]=x at l4 gR;refine cd (i_ ak (i_ h1 (i_ U (i_ dB iG)))) ?_;refine K.dD i rfl cO ?_;refine cd (i_ ak (i_ h1 (i_ U (i_ dB iG)))) ?_;refine K.j3 l4 rfl ?_;refine cd (i_ ak (i_ h1 (i_ U (i_ dB iG)))) ?_;refine K.call (ajU x _ s _ yq) ?_;rintro _ bq ⟨rfl,aM⟩;replace aM:=ax.trans aM;refine cd (i_ ak (i_ h1 (i_ U (i_ dB iG)))) ?_;apply K.cond<;>intro g6;rotate_left
 .refine cd (i_ ak (i_ h1 (i_ U (i_ dB iG)))) ?_;rw[o.vars,o.iF cO dC (by rw[gR];exact g6),gR];exact⟨rfl,aM⟩
 .refine cd (i_ ak (i_ h1 (i_ U (i_ dB iG)))) ?_;rw[g6] at gR;refine K.wrap (by omega) ?_;refine cd (i_ ak (i_ h1 (i_ U (i_ dB iG)))) ?_;refine⟨⟨i+1,by omega,rfl,fun j aR=>?_,aM⟩,by simp[intOf,WZ];omega⟩;by_cases gY:j<i
  .exact dC j gY
  .have:j=i:=by omega
   subst this;exact gR
end Go.Proofs.R
end
section
namespace Go.Proofs.R
open Go Go.RowKit bt
theorem ajK(v v2:Value)(l:List o.dr)(s:List o.Scalar)(w:World)(aS:o.mK w v l)(ay:o.hI w v2 s) :
  bu Tryz.prog F.En #[v,v2] w fun v w'=>v = .tuple #[.int .i64 (o.aL l s).1,.int .i64 (o.aL l s).2]/\Ext w w':=by
 obtain⟨bm,cap,rfl,hlen⟩:=aS.form;refine bL E.En ?_;refine bG ?_;refine a7 ?_;refine K.loop (fun S w' => ∃i:Nat,i<=l.length/\S 6 = .int .i64 i/\(∀j,j<i->o.err 4 (o.nameAt (·.name) l) (o.oo l s) j=0)/\Ext w w')
  (fun S _=>(l.length - intOf (S 6)).toNat) ⟨0,by omega,by refine a7 ?_;rfl,fun _ h=>absurd h (Nat.not_lt_zero _),Ext.refl _⟩ ?_
 rintro S w' cq ⟨i,ad,bS,dC,he⟩;have ak:=cq 0 rfl;have h1:=cq 1 rfl;simp only[cu,Nat.reduceAdd,Nat.reduceEqDiff,reduceIte,jh,mr] at ak h1;clear cq;have kD:=WC (by omega) dC;simp -dsimp only[c4,cF,Nat.reduceAdd,Nat.reduceEqDiff,reduceIte,reduceCtorEq,db,ak,h1,bS];apply K.cond<;>intro g1;rotate_left
 .simp -dsimp only[c4,cF,Nat.reduceAdd,Nat.reduceEqDiff,reduceIte,reduceCtorEq,db,ak,h1,bS];rw[o.aL,o.ot (fun j aR=>dC j (by omega))];exact⟨rfl,he⟩
 have cO:i<l.length:=by omega
 obtain⟨a,rfl⟩:=aS.addr (by omega);have il:=bE.ext o.pK.ext he aS;have o9:=(il.at i cO).cells 0 _ rfl;have dq:o.hR l[i].name:=(il.at i cO).ok;have fG:o.nameAt (fun x:o.dr=>x.name) l i=l[i].name:=q7 _ _ _ cO;simp -dsimp only[c4,cF,Nat.reduceAdd,Nat.reduceEqDiff,reduceIte,reduceCtorEq,db,ak,h1,bS];apply K.cond<;>intro g2
 .simp -dsimp only[c4,cF,Nat.reduceAdd,Nat.reduceEqDiff,reduceIte,reduceCtorEq,db,ak,h1,bS];rw[o.aL,o.iF cO dC (by rw[xS (by omega)];decide),xS (by omega)];exact⟨rfl,he⟩
 have hm:¬(4:Int)<=(i:Int):=by omega
 simp -dsimp only[c4,cF,Nat.reduceAdd,Nat.reduceEqDiff,reduceIte,reduceCtorEq,db,ak,h1,bS];refine K.dD i rfl cO ?_;simp -dsimp only[c4,cF,Nat.reduceAdd,Nat.reduceEqDiff,reduceIte,reduceCtorEq,db,ak,h1,bS];refine K.ld o9 ?_;simp -dsimp only[c4,cF,Nat.reduceAdd,Nat.reduceEqDiff,reduceIte,reduceCtorEq,db,ak,h1,bS];refine K.call (Bl _ _ dq) ?_;rintro _ aU ⟨rfl,aA⟩;simp -dsimp only[c4,cF,Nat.reduceAdd,Nat.reduceEqDiff,reduceIte,reduceCtorEq,db,ak,h1,bS];refine K.dp (fun g3=>?_) (fun g3=>?_);rotate_left
 .simp -dsimp only[c4,cF,Nat.reduceAdd,Nat.reduceEqDiff,reduceIte,reduceCtorEq,db,ak,h1,bS];rw[<-fG] at g3;rw[o.aL,o.iF cO dC (by rw[zV hm g3];decide),zV hm g3];exact⟨rfl,he.trans aA⟩
 have pZ:=g3;rw[<-fG] at pZ;replace aA:=he.trans aA;clear he il;simp -dsimp only[c4,cF,Nat.reduceAdd,Nat.reduceEqDiff,reduceIte,reduceCtorEq,db,ak,h1,bS];refine K.loop (fun bh w' => ∃k:Nat,k<=i/\bh 7 = .int .i64 k/\(∀j,j<k->o.nameAt (fun x:o.dr=>x.name) l j≠o.nameAt (fun x:o.dr=>x.name) l i)/\Ext w w')
  (fun S _=>(i - intOf (S 7)).toNat) ⟨0,by omega,by refine a7 ?_;rfl,fun _ h=>absurd h (Nat.not_lt_zero _),aA⟩ ?_
 rintro kR bb ov ⟨k,hk,cj,cI,ax⟩;have cy:=ak;have b9:=h1;have WY:=bS;have ak:=ov 0 rfl;have h1:=ov 1 rfl;have bS:=ov 6 rfl;simp only[cu,Nat.reduceAdd,Nat.reduceEqDiff,reduceIte,jh,mr] at ak h1 bS;clear ov;rw[cy] at ak;rw[b9] at h1;rw[WY] at bS;have il:=bE.ext o.pK.ext ax aS;have o9:=(il.at i cO).cells 0 _ rfl;simp -dsimp only[c4,cF,Nat.reduceAdd,Nat.reduceEqDiff,reduceIte,reduceCtorEq,db,ak,h1,bS,cj];apply K.cond<;>intro g4
 .have bp:k<l.length:=by omega
  have kY:=(il.at k bp).cells 0 _ rfl;have lF:o.nameAt (fun x:o.dr=>x.name) l k=l[k].name:=q7 _ _ _ bp;simp -dsimp only[c4,cF,Nat.reduceAdd,Nat.reduceEqDiff,reduceIte,reduceCtorEq,db,ak,h1,bS,cj];refine K.dD k rfl bp ?_;simp -dsimp only[c4,cF,Nat.reduceAdd,Nat.reduceEqDiff,reduceIte,reduceCtorEq,db,ak,h1,bS,cj];refine K.ld kY ?_;simp -dsimp only[c4,cF,Nat.reduceAdd,Nat.reduceEqDiff,reduceIte,reduceCtorEq,db,ak,h1,bS,cj];refine K.dD i rfl cO ?_;simp -dsimp only[c4,cF,Nat.reduceAdd,Nat.reduceEqDiff,reduceIte,reduceCtorEq,db,ak,h1,bS,cj];refine K.ld o9 ?_;simp -dsimp only[c4,cF,Nat.reduceAdd,Nat.reduceEqDiff,reduceIte,reduceCtorEq,db,ak,h1,bS,cj];intro bq aM;apply K.cond<;>intro g5
  .simp -dsimp only[c4,cF,Nat.reduceAdd,Nat.reduceEqDiff,reduceIte,reduceCtorEq,db,ak,h1,bS,cj];have aO:=KA (mo:=o.oo l s) hm pZ (show k<i by omega) (by rw[lF,fG];exact g5);rw[o.aL,o.iF cO dC (by rw[aO];decide),aO];exact⟨rfl,ax.trans aM⟩
  .simp -dsimp only[c4,cF,Nat.reduceAdd,Nat.reduceEqDiff,reduceIte,reduceCtorEq,db,ak,h1,bS,cj];refine K.wrap (by omega) ?_;simp -dsimp only[c4,cF,Nat.reduceAdd,Nat.reduceEqDiff,reduceIte,reduceCtorEq,db,ak,h1,bS,cj];refine⟨⟨k+1,by omega,rfl,fun j aR=>?_,ax.trans aM⟩,by simp[intOf];omega⟩;by_cases h3:j<k
   .exact cI j h3
   .have:j=k:=by omega
    subst this;rw[lF,fG];exact g5
 have gR:=Kz (mo:=o.oo l s) hm pZ (fun j aR=>cI j (by omega));have fg:o.oo l s i=if o.there l[i].scalar s=false then 8 else if l[i].cap<1\/l[i].cap > 4\/(l[i].scalar=0/\o.narrow l[i].bf l[i].ad=false) then 10 else 0:=by simp[o.oo,cO]
 rw[fg] at gR;have yq:=bE.ext o.jd.ext ax ay;have c1:=(il.at i cO).cells 1 _ rfl;have c2:=(il.at i cO).cells 2 _ rfl;have bQ:=(il.at i cO).cells 3 _ rfl;have bX:=(il.at i cO).cells 4 _ rfl;simp only[o.there,o.narrow,decide_eq_false_iff_not] at gR;generalize l[i].scalar=xs at c1 gR;generalize l[i].cap=apS at c2 gR;generalize l[i].bf=OH at bQ gR;generalize l[i].ad=OG at bX gR;clear fg;have aD:∀w',Ext bb w'->bu Tryz.prog F.yG #[.int .i64 OH,.int .i64 OG] w' fun u b1=>u = .bool (o.narrow OH OG)/\Ext w' b1:=fun w' he =>
  (Yp OH OG w').mono fun v b1 h=>⟨h.1,h.2 ▸ Ext.refl _⟩
 simp -dsimp only[c4,cF,Nat.reduceAdd,Nat.reduceEqDiff,reduceIte,reduceCtorEq,db,ak,h1,bS,cj]
 (repeat' first
  | (refine K.cond (fun _=>?_) (fun _=>?_)<;>try (exfalso;omega))
  | (refine K.dp (fun _=>?_) (fun _=>?_))
  | (refine K.dD i rfl cO ?_)
  | (refine K.ld (by assumption) ?_)
  | (refine K.call (Bh _ _ s _ yq) ?_;rintro _ bb ⟨rfl,rfl⟩)
  | (refine K.gN _ aD ?_)
  | simp -dsimp only[c4,cF,Nat.reduceAdd,Nat.reduceEqDiff,reduceIte,reduceCtorEq,db,ak,h1,bS,cj]
  | (intro bq aM;replace aM:=ax.trans aM))
 all_goals first
  | (rw[if_pos (by omega)] at gR
     rw[o.aL,o.iF cO dC (by rw[gR];decide),gR];exact⟨rfl,by assumption⟩)
  | (rw[if_neg (by omega),if_pos (by omega)] at gR
     rw[o.aL,o.iF cO dC (by rw[gR];decide),gR];exact⟨rfl,by assumption⟩)
  | (rw[if_neg (by omega),if_neg (by omega)] at gR
     refine K.wrap (by omega) ?_;simp -dsimp only[c4,cF,Nat.reduceAdd,Nat.reduceEqDiff,reduceIte,reduceCtorEq,db,ak,h1,bS,cj];refine⟨⟨i+1,by omega,rfl,fun j aR=>?_,by assumption⟩,by simp[intOf,WY];omega⟩;by_cases gY:j<i
     .exact dC j gY
     .have:j=i:=by omega
      subst this;exact gR)
end Go.Proofs.R
end
section
namespace o
theorem Z1(m:Model)(i:Nat):tK m 2 i=q6 m i:=by
 have bR:cP 1 2 i m.vars.length=min m.vars.length i:=by unfold cP;rw[if_pos (by decide),if_neg (by decide)];simp
 have aW:cP 2 2 i m.aL.length=0:=by unfold cP;rw[if_neg (by decide)]
 have bJ:cP 3 2 i m.procs.length=0:=by unfold cP;rw[if_neg (by decide)]
 have bZ:hs 2 i m.props.length=0:=by unfold hs;rw[if_neg (by decide)]
 unfold tK;rw[bR,aW,bJ,bZ];simp only[q6,EX,yN,List.take_zero,List.map_nil,List.append_nil];rw[Nat.min_comm,<-List.take_take];simp only[List.take_length]
theorem ZZ(m:Model)(i:Nat):tK m 3 i=mG m i:=by
 have bR:cP 1 3 i m.vars.length=m.vars.length:=by unfold cP;rw[if_pos (by decide),if_pos (by decide)]
 have aW:cP 2 3 i m.aL.length=min m.aL.length i:=by unfold cP;rw[if_pos (by decide),if_neg (by decide)];simp
 have bJ:cP 3 3 i m.procs.length=0:=by unfold cP;rw[if_neg (by decide)]
 have bZ:hs 3 i m.props.length=0:=by unfold hs;rw[if_neg (by decide)]
 unfold tK;rw[bR,aW,bJ,bZ];simp only[mG,q6,EX,yN,yM,List.take_zero,List.map_nil,List.append_nil];rw[Nat.min_comm,<-List.take_take];simp only[List.take_length]
theorem Z0(m:Model)(i:Nat):tK m 4 i=iv m i:=by
 have bR:cP 1 4 i m.vars.length=m.vars.length:=by unfold cP;rw[if_pos (by decide),if_pos (by decide)]
 have aW:cP 2 4 i m.aL.length=m.aL.length:=by unfold cP;rw[if_pos (by decide),if_pos (by decide)]
 have bJ:cP 3 4 i m.procs.length=min m.procs.length i:=by unfold cP;rw[if_pos (by decide),if_neg (by decide)];simp
 have bZ:hs 4 i m.props.length=0:=by unfold hs;rw[if_neg (by decide)]
 unfold tK;rw[bR,aW,bJ,bZ];simp only[iv,mG,q6,EX,yN,yM,wQ,List.take_zero,List.map_nil,List.append_nil];rw[Nat.min_comm,<-List.take_take];simp only[List.take_length]
theorem RP(m:Model)(i:Nat):tK m 5 i=q5 m i:=by
 have bR:cP 1 5 i m.vars.length=m.vars.length:=by unfold cP;rw[if_pos (by decide),if_pos (by decide)]
 have aW:cP 2 5 i m.aL.length=m.aL.length:=by unfold cP;rw[if_pos (by decide),if_pos (by decide)]
 have bJ:cP 3 5 i m.procs.length=m.procs.length:=by unfold cP;rw[if_pos (by decide),if_pos (by decide)]
 have bZ:hs 5 i m.props.length=min m.props.length i:=by unfold hs;rw[if_pos (by decide)];simp
 unfold tK;rw[bR,aW,bJ,bZ];simp only[q5,iv,mG,q6,EX,yN,yM,wQ,M1];rw[Nat.min_comm,<-List.take_take];simp only[List.take_length]
theorem vl(q p i:Int)(len:Nat):cP q p i len<=len:=by unfold cP; (repeat' split)<;>omega
end o
namespace Go.Proofs.R
open Go Go.RowKit bt
def wa(f:o.ru):Value:=.agg #[.int .i64 f.c3,.int .i64 f.part,.int .i64 f.item,.int .i64 f.sub]
theorem ajL(cs:List Value)(m:o.Model)(w:World)(h:o.dY w cs m) :
  bu Tryz.prog F.EC #[.agg cs.toArray] w fun v w'=>v=wa (o.data m)/\Ext w w':=by
 have br:=h;obtain⟨cy,bP,b9,c1,ck,c2,cn,bQ,cB,bX,rfl,ak,h1,U,ag,aJ,eM,ej,ev,ea,ew⟩:=h.form;refine bL E.EC ?_;refine bG ?_;refine aa ?_;intro av bC cR aB aq;refine aa ?_;intro aU cp dR aA aQ;replace aq:=aA.obj aq;have aW:=aB.trans aA;have gl:=cG aq;have z2:=aB.size;refine aa ?_;refine K.call (ajS _ m.scalars aU (ak.ext aW)) ?_;rintro _ bb ⟨rfl,ax⟩;replace aq:=ax.obj aq;replace aQ:=ax.obj aQ;have bJ:=aW.trans ax;clear aW;refine aa ?_;apply K.cond<;>intro g1;rotate_left
 .have bx:=o.Sr g1;refine aa ?_;intro bq eu bw;refine aa ?_;exact⟨by rw[bx];rfl,eu.ext bJ (by omega)⟩
 have cq:(o.scalars m.scalars).2=0:=by simpa using g1
 have ov:=o.Yb cq;have wh:=aq;have ya:=aQ;refine aa ?_;refine K.dk 5 m.vars.length [1,2] (fun _:Unit=>[]) () (fun k _ w'=>Ext bb w'/\∀j,j<k->o.iT m j=0) bz bz ⟨Ext.refl _,fun j h=>absurd h (Nat.not_lt_zero _)⟩ ?_;clear aq aQ;rintro k _ S bq hk ⟨aM,bN⟩;have aq:=aM.obj wh;have aQ:=aM.obj ya;have bZ:=bJ.trans aM;refine aa ?_;apply K.cond<;>intro g2
 .have bp:k<m.vars.length:=by omega
  have ij:=(bE.len h1).2;have Lj:=ij.2;unfold maxLen at Lj;obtain⟨a,rfl⟩:=h1.addr (by omega);have fG:=o.A7 (f:=fun x:o.Var=>x.name) bp;have ei:=((h1.at k bp).cells).ext bZ;have Mv:∀j,j<k->o.nu m j=0:=fun j aR=>o.I5 (bN j aR);refine aa ?_;refine K.tt (k:=.i64) (k+1) (by simp[fu,cu]) (by omega) ?_;refine aa ?_;refine K.gN (.tuple #[.int .i64 (o.vars (m.vars.take (k+1)) m.scalars 12).1,.int .i64 (o.vars (m.vars.take (k+1)) m.scalars 12).2]) (fun w' e=>XG _ _ (m.vars.take (k+1)) m.scalars 12 w' ((h1.head (k+1) (by omega)).ext o.pL.ext (bZ.trans e)) (ak.ext (bZ.trans e))) ?_;refine aa ?_;intro bT aZ;replace aq:=aZ.obj aq;replace aQ:=aZ.obj aQ;replace ei:=ei.ext aZ;have b5:=bZ.trans aZ;rw[o.al3 bp Mv];refine aa ?_;apply K.cond<;>intro g3;rotate_left
  .have kk:o.iT m k=o.nu m k:=by unfold o.iT;rw[if_pos g3]
   have bx:=o.GN cq bp bN (by rw[kk];exact g3);rw[kk] at bx;refine aa ?_;intro bV gh ct;refine aa ?_;exact⟨by rw[bx];rfl,gh.ext b5 (by omega)⟩
  have iI:o.nu m k=0:=by simpa using g3
  have an4:k<12:=by
   apply Classical.byContradiction;intro aE;have h:=iI;unfold o.nu o.err at h;rw[if_pos (by omega)] at h;cases h
  refine aa ?_;intro bV a8;replace aq:=a8.obj aq;replace aQ:=a8.obj aQ;refine aa ?_;refine K.call (B6 _ m 2 k bV (br.ext (b5.trans a8)) (by omega) (by omega) (by
   have dH:o.cP 1 2 k m.vars.length<=k:=by unfold o.cP; (repeat' split)<;>omega
   have dN:o.cP 2 2 k m.aL.length=0:=by unfold o.cP;rw[if_neg (by decide)]
   have eb:o.cP 3 2 k m.procs.length=0:=by unfold o.cP;rw[if_neg (by decide)]
   have hd:o.hs 2 k m.props.length=0:=by unfold o.hs;rw[if_neg (by decide)]
   omega)) ?_
  rintro _ cc ⟨⟨v,rfl,gr⟩,bM⟩;refine⟨bM,?_⟩;rw[o.Z1] at gr;refine aa ?_;refine K.call (Dd v _ m.vars[k].name _ cc gr) ?_;rintro _ nv ⟨rfl,rfl⟩;replace aq:=bM.obj aq;replace aQ:=bM.obj aQ;have Uv:=a8.trans bM;have dz:=b5.trans Uv;refine aa ?_;apply K.cond<;>intro g4
  .have kk:o.iT m k=7:=by unfold o.iT;rw[if_neg (by simpa using iI),fG,if_pos g4]
   have bx:=o.GN cq bp bN (by rw[kk];decide);rw[kk] at bx;refine aa ?_;intro di iJ cL;refine aa ?_;exact⟨by rw[bx];rfl,iJ.ext dz (by omega)⟩
  .refine aa ?_;refine⟨bp,bk,(),trivial,(aM.trans aZ).trans Uv,fun j aR=>?_⟩;by_cases h3:j=k
   .subst h3;unfold o.iT;rw[if_neg (by simpa using iI),fG,if_neg g4]
   .exact bN j (by omega)
 have nb:∀j,j<m.vars.length->o.iT m j=0:=fun j aR=>bN j (by omega);have ans:m.vars.length<=12:=by
  apply Classical.byContradiction;intro aE
  have:=o.S0 (nb 12 (by omega))
  omega
 clear aq aQ;refine aa ?_;refine K.dk 8 m.aL.length [1,2] (fun _:Unit=>[]) () (fun k _ w'=>Ext bb w'/\∀j,j<k->o.jU m j=0) bz bz ⟨aM,fun j h=>absurd h (Nat.not_lt_zero _)⟩ ?_;clear bZ;rintro k _ bh bT hk ⟨aZ,bN⟩;have aq:=aZ.obj wh;have aQ:=aZ.obj ya;have bZ:=bJ.trans aZ;refine aa ?_;apply K.cond<;>intro g2
 .have bp:k<m.aL.length:=by omega
  have ij:=(bE.len U).2;have Lj:=ij.2;unfold maxLen at Lj;obtain⟨a,rfl⟩:=U.addr (by omega);have fG:=o.A7 (f:=fun x:o.dr=>x.name) bp;have ei:=((U.at k bp).cells).ext bZ;have Mv:∀j,j<k->o.mY m j=0:=fun j aR=>o.GC (bN j aR);refine aa ?_;refine K.tt (k:=.i64) (k+1) (by simp[fu,cu]) (by omega) ?_;refine aa ?_;refine K.gN (.tuple #[.int .i64 (o.aL (m.aL.take (k+1)) m.scalars).1,.int .i64 (o.aL (m.aL.take (k+1)) m.scalars).2]) (fun w' e=>ajK _ _ (m.aL.take (k+1)) m.scalars w' ((U.head (k+1) (by omega)).ext o.pK.ext (bZ.trans e)) (ak.ext (bZ.trans e))) ?_;refine aa ?_;intro bV a8;replace aq:=a8.obj aq;replace aQ:=a8.obj aQ;replace ei:=ei.ext a8;have b5:=bZ.trans a8;rw[o.abn bp Mv];refine aa ?_;apply K.cond<;>intro g3;rotate_left
  .have kk:o.jU m k=o.mY m k:=by unfold o.jU;rw[if_pos g3]
   have bx:=o.GL cq nb bp bN (by rw[kk];exact g3);rw[kk] at bx;refine aa ?_;intro bV gh ct;refine aa ?_;exact⟨by rw[bx];rfl,gh.ext b5 (by omega)⟩
  have iI:o.mY m k=0:=by simpa using g3
  have an5:k<4:=by
   apply Classical.byContradiction;intro aE;have h:=iI;unfold o.mY o.err at h;rw[if_pos (by omega)] at h;cases h
  refine aa ?_;intro cc bM;replace aq:=bM.obj aq;replace aQ:=bM.obj aQ;refine aa ?_;refine K.call (B6 _ m 3 k cc (br.ext (b5.trans bM)) (by omega) (by omega) (by
   have dH:=o.vl 1 3 k m.vars.length;have dN:o.cP 2 3 k m.aL.length<=k:=by unfold o.cP; (repeat' split)<;>omega
   have eb:o.cP 3 3 k m.procs.length=0:=by unfold o.cP;rw[if_neg (by decide)]
   have hd:o.hs 3 k m.props.length=0:=by unfold o.hs;rw[if_neg (by decide)]
   omega)) ?_
  rintro _ di ⟨⟨v,rfl,gr⟩,bY⟩;refine⟨bY,?_⟩;rw[o.ZZ] at gr;refine aa ?_;refine K.call (Dd v _ m.aL[k].name _ di gr) ?_;rintro _ nv ⟨rfl,rfl⟩;replace aq:=bY.obj aq;replace aQ:=bY.obj aQ;have uu:=bM.trans bY;have dz:=b5.trans uu;refine aa ?_;apply K.cond<;>intro g4
  .have kk:o.jU m k=7:=by unfold o.jU;rw[if_neg (by simpa using iI),fG,if_pos g4]
   have bx:=o.GL cq nb bp bN (by rw[kk];decide);rw[kk] at bx;refine aa ?_;intro di iJ cL;refine aa ?_;exact⟨by rw[bx];rfl,iJ.ext dz (by omega)⟩
  .refine aa ?_;refine⟨bp,bk,(),trivial,(aZ.trans a8).trans uu,fun j aR=>?_⟩;by_cases h3:j=k
   .subst h3;unfold o.jU;rw[if_neg (by simpa using iI),fG,if_neg g4]
   .exact bN j (by omega)
 have bx:=o.Sp cq nb fun j aR=>bN j (by omega);refine aa ?_;intro bV gh ct;refine aa ?_;exact⟨by rw[bx];rfl,gh.ext bZ (by omega)⟩
end Go.Proofs.R
end
section
namespace o
structure tF(m:Model):Prop where
 v:m.vars.length<=1000000
 c:m.aL.length<=1000000
 p:m.procs.length<=1000000
 i:∀p∈m.procs,p.vars.length<=1000000/\p.cH.length<=1000000
def c1(m:Model)(k:Nat):Int:=h8 ((m.vars.take k).map fun v=>cells v m.scalars)
def c2(m:Model)(k:Nat):Int:=h8 ((m.aL.take k).map pT)
def i1(m:Model)(k:Nat):Int:=h8 ((m.procs.take k).map (ks m))
def i2(m:Model)(k:Nat):Int:=h8 ((m.procs.take k).map fun p=>ks m p*p.cH.length)
def i3(m:Model)(k:Nat):Int:=h8 ((m.procs.take k).map fun p=>ks m p*(1+p.vars.length))
theorem WG{α:Type}{l:List α}{k:Nat}{x:α}(h:x∈l.take k):x∈l:=List.mem_of_mem_take h
theorem zI{m:Model}(h:tF m)(k:Nat):0<=c1 m k/\c1 m k<=4000000:=by
 have:=Fu (fun v=>cells v m.scalars) 4 (by decide) (m.vars.take k) fun v _=>tN v _
 have h1:=h.v;have U:(m.vars.take k).length<=m.vars.length:=by simp;omega
 unfold c1;omega
theorem Gx{m:Model}(h:tF m)(k:Nat):0<=c2 m k/\c2 m k<=5000000:=by
 have:=Fu pT 5 (by decide) (m.aL.take k) fun c _=>by have:=J1 c;omega
 have h1:=h.c;have U:(m.aL.take k).length<=m.aL.length:=by simp;omega
 unfold c2;omega
theorem Vx{m:Model}(h:tF m)(k:Nat):0<=i1 m k/\i1 m k<=4000000:=by
 have:=Fu (ks m) 4 (by decide) (m.procs.take k) fun p _=>E1 m p
 have h1:=h.p;have U:(m.procs.take k).length<=m.procs.length:=by simp;omega
 unfold i1;omega
theorem A6{a b:Int}(bj:0<=a/\a<=4)(aC:0<=b/\b<=1000001):0<=a*b/\a*b<=4000004:=by
 have:a=0\/a=1\/a=2\/a=3\/a=4:=by omega
 rcases this with rfl | rfl | rfl | rfl | rfl<;>omega
theorem Vz{m:Model}(h:tF m)(k:Nat):0<=i2 m k/\i2 m k<=4000004000000:=by
 have:=Fu (fun p=>ks m p*p.cH.length) 4000004 (by decide) (m.procs.take k) fun p aN=>A6 (E1 m p) (by have:=(h.i p (WG aN)).2;omega)
 have h1:=h.p;have U:(m.procs.take k).length<=m.procs.length:=by simp;omega
 unfold i2;omega
theorem VB{m:Model}(h:tF m)(k:Nat):0<=i3 m k/\i3 m k<=4000004000000:=by
 have:=Fu (fun p=>ks m p*(1+p.vars.length)) 4000004 (by decide) (m.procs.take k) fun p aN=>A6 (E1 m p) (by have:=(h.i p (WG aN)).1;omega)
 have h1:=h.p;have U:(m.procs.take k).length<=m.procs.length:=by simp;omega
 unfold i3;omega
theorem R2{m:Model}{k:Nat}(h:k<m.vars.length):c1 m (k+1)=c1 m k+cells m.vars[k] m.scalars:=Fv _ _ h
theorem R3{m:Model}{k:Nat}(h:k<m.aL.length):c2 m (k+1)=c2 m k+pT m.aL[k]:=Fv _ _ h
theorem Vy{m:Model}{k:Nat}(h:k<m.procs.length):i1 m (k+1)=i1 m k+ks m m.procs[k]:=Fv _ _ h
theorem VA{m:Model}{k:Nat}(h:k<m.procs.length):i2 m (k+1)=i2 m k+ks m m.procs[k]*m.procs[k].cH.length:=Fv _ _ h
theorem VC{m:Model}{k:Nat}(h:k<m.procs.length):i3 m (k+1)=i3 m k+ks m m.procs[k]*(1+m.procs[k].vars.length):=Fv _ _ h
theorem W9(m:Model){a b c:Nat}(bj:m.vars.length<=a)(aC:m.aL.length<=b)(aw:m.procs.length<=c):pieces m=(i1 m c,i2 m c,c1 m a+c2 m b+i3 m c):=by
 unfold pieces i1 i2 i3 c1 c2;rw[List.take_of_length_le bj,List.take_of_length_le aC,List.take_of_length_le aw]
end o
namespace Go.Proofs.R
open Go Go.RowKit bt
theorem ai1(cs:List Value)(m:o.Model)(w:World)(h:o.dY w cs m)(aK:o.tF m) :
  bu Tryz.prog F.xI #[.agg cs.toArray] w fun v w'=>v = .tuple #[.int .i64 (o.pieces m).1,.int .i64 (o.pieces m).2.1,.int .i64 (o.pieces m).2.2]/\Ext w w':=by
 obtain⟨cy,bP,b9,c1,ck,c2,cn,bQ,cB,bX,rfl,ak,h1,U,ag,aJ,eM,ej,ev,ea,ew⟩:=h.form;refine bL E.xI ?_;refine bG ?_;refine aa ?_;intro av bC cR aB aq;have sX:=aq;clear aq;refine aa ?_;refine K.dk 18 m.vars.length [1,5,6,16,17] (fun s:Int=>[(7,.int .i64 s)]) 0 (fun k s w'=>Ext av w'/\s=o.c1 m k) bz bz ⟨Ext.refl _,by simp[o.c1,o.h8]⟩ ?_;rintro k _ S aU hk ⟨aA,rfl⟩;have aq:=aA.obj sX;have c6:∀{w'},Ext aU w'->Ext w w':=fun e=>(aB.trans aA).trans e;refine aa ?_;apply K.cond<;>intro g1
 .have bp:k<m.vars.length:=by omega
  obtain⟨a,rfl⟩:=h1.addr (by omega);have ei:=((h1.at k bp).cells).ext (c6 (Ext.refl _));refine aa ?_;intro bb b4 fp ax bA;replace aq:=ax.obj aq;refine aa ?_;refine K.call (GB m.vars[k] _ m.scalars bb (ak.ext (c6 ax))) ?_;rintro _ bq ⟨rfl,aM⟩;have dH:=o.zI aK k;have dN:=o.tN m.vars[k] m.scalars;refine aa ?_;exact⟨bp,bk,_,bz,(aA.trans ax).trans aM,(o.R2 bp).symm⟩
 have l5:m.vars.length<=k:=by omega
 refine aa ?_;refine K.dk 32 m.aL.length [1,5,6,30,31] (fun s:Int=>[(7,.int .i64 s)]) (o.c1 m k) (fun j s w'=>Ext av w'/\s=o.c1 m k+o.c2 m j) bz bz ⟨aA,by simp[o.c2,o.h8]⟩ ?_;clear aq c6;rintro j _ bh bb aR ⟨ax,rfl⟩;have aq:=ax.obj sX;have fj:∀{w'},Ext bb w'->Ext w w':=fun e=>(aB.trans ax).trans e;refine aa ?_;apply K.cond<;>intro g2
 .have eL:j<m.aL.length:=by omega
  obtain⟨a,rfl⟩:=U.addr (by omega);have ei:=((U.at j eL).cells).ext (fj (Ext.refl _));refine aa ?_;intro bq b4 fp aM bA;have dH:=o.zI aK k;have dN:=o.Gx aK j;have eb:=o.J1 m.aL[j];unfold o.pT at eb;refine aa ?_;exact⟨eL,bk,_,bz,ax.trans aM,by rw[o.R3 eL];unfold o.pT;omega⟩
 have LS:m.aL.length<=j:=by omega
 refine aa ?_;refine K.dk 47 m.procs.length [1,45,46] (fun s:Int×Int×Int=>[(5,.int .i64 s.1),(6,.int .i64 s.2.1),(7,.int .i64 s.2.2)]) (0,0,o.c1 m k+o.c2 m j)
  (fun i s w'=>Ext av w'/\s=(o.i1 m i,o.i2 m i,o.c1 m k+o.c2 m j+o.i3 m i)) bz bz ⟨ax,by simp[o.i1,o.i2,o.i3,o.h8]⟩ ?_
 clear aq fj;rintro i _ fx bq ad ⟨aM,rfl⟩;have aq:=aM.obj sX;have en:∀{w'},Ext bq w'->Ext w w':=fun e=>(aB.trans aM).trans e;refine aa ?_;apply K.cond<;>intro g3
 .have cO:i<m.procs.length:=by omega
  obtain⟨a,rfl⟩:=ag.addr (by omega);obtain⟨_,cE,dU,aN,eT,dZ⟩:=ag.at i cO;obtain⟨e3,fy,rfl,gi⟩:=eT.form;obtain⟨oE,kz,rfl,lc⟩:=dZ.form;replace aN:=aN.ext (en (Ext.refl _));have LH:=aK.i _ (List.getElem_mem cO);refine aa ?_;intro bT b4 fp aZ bA;replace aq:=aZ.obj aq;refine aa ?_;refine K.call (GB ⟨⟨#[]⟩,0,m.procs[i].over,0,0,0⟩ _ m.scalars bT (ak.ext (en aZ))) ?_;rintro _ bV ⟨rfl,a8⟩;have afS:o.cells ⟨⟨#[]⟩,0,m.procs[i].over,0,0,0⟩ m.scalars=o.ks m m.procs[i]:=rfl;rw[afS];replace bA:=a8.obj bA;have dH:=o.zI aK k;have dN:=o.Gx aK j;have eb:=o.Vx aK i;have hd:=o.Vz aK i;have qh:=o.VB aK i;have si:=o.E1 m m.procs[i];have Nw:=o.A6 si (b:=m.procs[i].cH.length) (by omega);have Be:=o.A6 si (b:=1+m.procs[i].vars.length) (by omega);refine aa ?_;exact⟨cO,bk,(_,_,_),(by first | exact⟨rfl,rfl,rfl,trivial⟩ | exact⟨rfl,rfl,trivial⟩ | (simp -dsimp only[c4,vh,vg,uQ,uP,ui,uh,Nat.reduceAdd,Nat.reduceEqDiff,reduceIte,and_self];exact⟨rfl,rfl,rfl,trivial⟩) | (simp -dsimp only[c4,vh,vg,uQ,uP,ui,uh,Nat.reduceAdd,Nat.reduceEqDiff,reduceIte,and_self];exact⟨rfl,rfl,trivial⟩)),(aM.trans aZ).trans a8,by rw[o.Vy cO,o.VA cO,o.VC cO];exact Prod.ext rfl (Prod.ext rfl (Int.add_assoc _ _ _))⟩
 have rU:m.procs.length<=i:=by omega
 refine aa ?_;exact⟨by rw[o.W9 m l5 LS rU],en (Ext.refl _)⟩
theorem agP(cs:List Value)(m:o.Model)(p:o.dy)(cE dU:Value)(w:World)(h:o.dY w cs m) :
  bu Tryz.prog F.Ey #[.agg cs.toArray,.agg (p.enc cE dU).toArray] w fun v w'=>v = .int .i64 (o.ks m p)/\Ext w w':=by
 obtain⟨cy,bP,b9,c1,ck,c2,cn,bQ,cB,bX,rfl,ak,_⟩:=h.form;refine bL E.Ey ?_;refine bG ?_;refine aa ?_;intro av bC cR aB aq;refine aa ?_;intro aU cp dR aA aQ;refine aa ?_;refine K.cond (fun g=>?_) (fun g=>?_)
 .refine aa ?_;exact⟨by rw[o.ks,if_pos g],aB.trans aA⟩
 refine aa ?_;refine K.call (Bh p.over _ m.scalars aU (ak.ext (aB.trans aA))) ?_;rintro _ _ ⟨rfl,rfl⟩;refine aa ?_;exact⟨by rw[o.ks,if_neg g],aB.trans aA⟩
theorem ajP(cs:List Value)(m:o.Model)(w:World)(h:o.dY w cs m)(aK:o.tF m) :
  bu Tryz.prog F.EB #[.agg cs.toArray] w fun v w'=>v = .tuple #[.int .i64 (o.pieces m).1,.int .i64 (o.pieces m).2.1,.int .i64 (o.pieces m).2.2]/\Ext w w':=by
 have br:=h;obtain⟨cy,bP,b9,c1,ck,c2,cn,bQ,cB,bX,rfl,ak,h1,U,ag,aJ,eM,ej,ev,ea,ew⟩:=h.form;refine bL E.EB ?_;refine bG ?_;refine aa ?_;intro av bC cR aB aq;have sX:=aq;clear aq;refine aa ?_;refine K.dk 8 m.vars.length [1,5,6] (fun s:Int=>[(7,.int .i64 s)]) 0 (fun k s w'=>Ext av w'/\s=o.c1 m k) bz bz ⟨Ext.refl _,by simp[o.c1,o.h8]⟩ ?_;rintro k _ S aU hk ⟨aA,rfl⟩;have aq:=aA.obj sX;have c6:∀{w'},Ext aU w'->Ext w w':=fun e=>(aB.trans aA).trans e;refine aa ?_;apply K.cond<;>intro g1
 .have bp:k<m.vars.length:=by omega
  obtain⟨a,rfl⟩:=h1.addr (by omega);have ei:=((h1.at k bp).cells).ext (c6 (Ext.refl _));have dH:=o.zI aK k;have dN:=o.tN m.vars[k] m.scalars;refine aa ?_;refine K.gN (.int .i64 (o.cells m.vars[k] m.scalars)) (fun w' e=>NN m.vars[k] _ m.scalars w' (ak.ext (c6 e))) ?_;refine aa ?_;intro bq aM;refine aa ?_;exact⟨bp,bk,_,bz,aA.trans aM,(o.R2 bp).symm⟩
 have l5:m.vars.length<=k:=by omega
 refine aa ?_;refine K.dk 9 m.aL.length [1,5,6] (fun s:Int=>[(7,.int .i64 s)]) (o.c1 m k) (fun j s w'=>Ext av w'/\s=o.c1 m k+o.c2 m j) bz bz ⟨aA,by simp[o.c2,o.h8]⟩ ?_;clear aq c6;rintro j _ bh bb aR ⟨ax,rfl⟩;have aq:=ax.obj sX;have fj:∀{w'},Ext bb w'->Ext w w':=fun e=>(aB.trans ax).trans e;refine aa ?_;apply K.cond<;>intro g2
 .have eL:j<m.aL.length:=by omega
  obtain⟨a,rfl⟩:=U.addr (by omega);have ei:=((U.at j eL).cells).ext (fj (Ext.refl _));have dH:=o.zI aK k;have dN:=o.Gx aK j;have eb:=o.J1 m.aL[j];unfold o.pT at eb;refine aa ?_;exact⟨eL,bk,_,bz,ax,by rw[o.R3 eL];unfold o.pT;omega⟩
 have LS:m.aL.length<=j:=by omega
 refine aa ?_;refine K.dk 10 m.procs.length [1] (fun s:Int×Int×Int=>[(5,.int .i64 s.1),(6,.int .i64 s.2.1),(7,.int .i64 s.2.2)]) (0,0,o.c1 m k+o.c2 m j)
  (fun i s w'=>Ext av w'/\s=(o.i1 m i,o.i2 m i,o.c1 m k+o.c2 m j+o.i3 m i)) bz bz ⟨ax,by simp[o.i1,o.i2,o.i3,o.h8]⟩ ?_
 clear aq fj;rintro i _ fx bq ad ⟨aM,rfl⟩;have aq:=aM.obj sX;have en:∀{w'},Ext bq w'->Ext w w':=fun e=>(aB.trans aM).trans e;refine aa ?_;apply K.cond<;>intro g3
 .have cO:i<m.procs.length:=by omega
  obtain⟨a,rfl⟩:=ag.addr (by omega);obtain⟨_,cE,dU,aN,eT,dZ⟩:=ag.at i cO;obtain⟨e3,fy,rfl,gi⟩:=eT.form;obtain⟨oE,kz,rfl,lc⟩:=dZ.form;replace aN:=aN.ext (en (Ext.refl _));have LH:=aK.i _ (List.getElem_mem cO);refine aa ?_;refine K.gN (.int .i64 (o.ks m m.procs[i])) (fun w' e=>agP _ m m.procs[i] _ _ w' (br.ext (en e))) ?_;refine aa ?_;intro bV a8;replace aq:=a8.obj aq;replace aN:=aN.ext a8;have dH:=o.zI aK k;have dN:=o.Gx aK j;have eb:=o.Vx aK i;have hd:=o.Vz aK i;have qh:=o.VB aK i;have si:=o.E1 m m.procs[i];have Nw:=o.A6 si (b:=m.procs[i].cH.length) (by omega);have Be:=o.A6 si (b:=1+m.procs[i].vars.length) (by omega);refine aa ?_;exact⟨cO,bk,(_,_,_),(by first | exact⟨rfl,rfl,rfl,trivial⟩ | exact⟨rfl,rfl,trivial⟩ | (simp -dsimp only[c4,vh,vg,uQ,uP,ui,uh,Nat.reduceAdd,Nat.reduceEqDiff,reduceIte,and_self];exact⟨rfl,rfl,rfl,trivial⟩) | (simp -dsimp only[c4,vh,vg,uQ,uP,ui,uh,Nat.reduceAdd,Nat.reduceEqDiff,reduceIte,and_self];exact⟨rfl,rfl,trivial⟩)),aM.trans a8,by rw[o.Vy cO,o.VA cO,o.VC cO];exact Prod.ext rfl (Prod.ext rfl (Int.add_assoc _ _ _))⟩
 have rU:m.procs.length<=i:=by omega
 refine aa ?_;exact⟨by rw[o.W9 m l5 LS rU],en (Ext.refl _)⟩
end Go.Proofs.R
end
section
namespace o
structure amy(m:Model):Prop where
 s:m.scalars.length<=10
 v:m.vars.length<=30
 c:m.aL.length<=20
 p:m.procs.length<=20
 q:m.props.length<=20
 i:∀p∈m.procs,p.vars.length<=20/\p.cH.length<=30/\∀c∈p.cH,c.b6.length<=20/\c.guard.length<=60
end o
end