/- Parts. -/
import Derived.Test.YtfdohkdifdemeaaGreatDoorQduh
set_option linter.all false
set_option maxRecDepth 100000
set_option maxHeartbeats 16000000
section
namespace Go.Proofs.R
open Go Go.RowKit bt
theorem q6{α:Type}(f:α->ByteArray)(l:List α)(i:Nat)(h:i<l.length):o.nameAt f l i=f l[i]:=by simp[o.nameAt,h]
theorem akF(i:Nat)(b:Nat)(v:Value)(l:List o.Scalar)(w:World)(aS:o.hI w v l)(aC:w.cell? ⟨b,0,none⟩=some v)(ad:i<l.length) :
  bu Tryz.prog F.bW #[.int .i64 i,.pointer (some ⟨b,0,none⟩)] w fun v w'=>v = .string (o.nameAt (·.name) l i)/\Ext w w':=by
 obtain⟨bl,cap,rfl,hlen⟩:=aS.form;refine bL E.bW ?_;refine bG ?_;refine a1 ?_;refine K.ld aC ?_;refine a1 ?_;obtain⟨a,rfl⟩:=aS.addr (by omega);have aw:=(aS.at i ad).cells 0 _ rfl;refine K.dp i rfl ad ?_;refine a1 ?_;refine K.ld aw ?_;refine a1 ?_;rw[q6 _ _ _ ad];exact⟨rfl,Ext.refl w⟩
theorem akG(i:Nat)(b:Nat)(v:Value)(l:List o.Scalar)(w:World)(aS:o.hI w v l)(aC:w.cell? ⟨b,0,none⟩=some v)(ad:i<l.length) :
  bu Tryz.prog F.jt #[.int .i64 i,.pointer (some ⟨b,0,none⟩)] w fun v w'=>v = .int .i64 (o.tj l i)/\Ext w w':=by
 obtain⟨bl,cap,rfl,hlen⟩:=aS.form;refine bL E.jt ?_;refine bG ?_;refine a1 ?_;refine K.ld aC ?_;refine a1 ?_;obtain⟨a,rfl⟩:=aS.addr (by omega);have aw:=(aS.at i ad).cells 1 _ rfl;have ba:o.tj l i=if 1<=l[i].size/\l[i].size<=4 then 0 else 10:=by simp[o.tj,ad]
 rw[ba];generalize l[i].size=z at aw;refine K.dp i rfl ad ?_;refine a1 ?_;refine K.ld aw ?_;refine a1 ?_;refine K.cond (fun h1=>?_) (fun h1=>?_)
 .refine a1 ?_;rw[if_neg (by omega)];exact⟨rfl,Ext.refl w⟩
 refine a1 ?_;refine K.ld aC ?_;refine a1 ?_;refine K.dp i rfl ad ?_;refine a1 ?_;refine K.ld aw ?_;refine a1 ?_;refine K.cond (fun h1=>?_) (fun h1=>?_)
 .refine a1 ?_;rw[if_neg (by omega)];exact⟨rfl,Ext.refl w⟩
 .refine a1 ?_;rw[if_pos (by omega)];exact⟨rfl,Ext.refl w⟩
theorem akH(v:Value)(l:List o.Scalar)(w:World)(bc:hv w)(aS:o.hI w v l) :
  bu Tryz.prog F.Cn #[v] w fun v w'=>v = .tuple #[.int .i64 (o.scalars l).1,.int .i64 (o.scalars l).2]/\Ext w w':=by
 obtain⟨bl,cap,rfl,hlen⟩:=aS.form;refine bL E.Cn ?_;refine bG ?_;refine a1 ?_;refine K.new fun av b aC aB ao=>?_;have pd:=bF.ext o.jb.ext aB aS;have cR:av.cell? ⟨b,0,none⟩=some (.slice bl l.length cap):=zE ao rfl;refine a1 ?_;refine K.ld cR ?_;refine a1 ?_;refine K.call (M0 l.length 2 (by omega) (o.nameAt (·.name) l) (o.tj l) F.bW F.jt [_] [_] (by kernel_rfl) (by kernel_rfl) av (bc.ext aB)
  (fun i ad=>by rw[q6 _ _ _ (by omega)];obtain⟨a,rfl⟩:=aS.addr (by omega);exact(aS.at i (by omega)).ok)
  (fun i w' ad he=>akF i b _ l w' (bF.ext o.jb.ext he pd) (he.cell cR) (by omega))
  (fun i w' ad he=>akG i b _ l w' (bF.ext o.jb.ext he pd) (he.cell cR) (by omega))) ?_
 rintro _ aU ⟨rfl,aA⟩;refine a1 ?_;exact⟨rfl,aB.trans aA⟩
theorem RU(x:o.Var)(v:Value)(l:List o.Scalar)(w:World)(aS:o.hI w v l) :
  bu Tryz.prog F.cr #[.agg x.enc.toArray,v] w fun v w'=>v = .tuple #[.int .i64 (o.bounds x l).1,.int .i64 (o.bounds x l).2]/\Ext w w':=by
 obtain⟨bl,cap,rfl,hlen⟩:=aS.form;refine bL E.cr ?_;refine bG ?_;refine a1 ?_;refine K.new fun av b aC aB ao=>?_;have c1:av.cell? (Addr.add ⟨b,0,none⟩ 1)=some (.int .i64 x.scalar):=e8 ao rfl;have bP:av.cell? (Addr.add ⟨b,0,none⟩ 3)=some (.int .i64 x.bf):=e8 ao rfl;have bX:av.cell? (Addr.add ⟨b,0,none⟩ 4)=some (.int .i64 x.ad):=e8 ao rfl;refine a1 ?_;refine K.ld c1 ?_;refine a1 ?_;refine K.cond (fun h1=>?_) (fun h1=>?_)
 .refine a1 ?_;refine K.ld bP ?_;refine a1 ?_;refine K.ld bX ?_;refine a1 ?_;intro aU aA;simp only[o.bounds,h1,if_true];exact⟨trivial,aB.trans aA⟩
 .refine a1 ?_;refine K.ld c1 ?_;refine a1 ?_;refine K.call (N1 x.scalar _ l av (bF.ext o.jb.ext aB aS)) ?_;rintro _ _ ⟨rfl,rfl⟩;refine a1 ?_;simp only[o.bounds,h1,if_false];exact⟨trivial,aB⟩
theorem Gt(x:o.Var)(v:Value)(l:List o.Scalar)(w:World)(aS:o.hI w v l) :
  bu Tryz.prog F.w #[.agg x.enc.toArray,v] w fun v w'=>v = .int .i64 (o.cells x l)/\Ext w w':=by
 obtain⟨bl,cap,rfl,hlen⟩:=aS.form;refine bL E.w ?_;refine bG ?_;refine a1 ?_;refine K.new fun av b aC aB ao=>?_;have c2:av.cell? (Addr.add ⟨b,0,none⟩ 2)=some (.int .i64 x.over):=e8 ao rfl;refine a1 ?_;refine K.ld c2 ?_;refine a1 ?_;refine K.cond (fun h1=>?_) (fun h1=>?_)
 .refine a1 ?_;simp only[o.cells,h1,if_true];exact⟨trivial,aB⟩
 .refine a1 ?_;refine K.ld c2 ?_;refine a1 ?_;refine K.call (N1 x.over _ l av (bF.ext o.jb.ext aB aS)) ?_;rintro _ _ ⟨rfl,rfl⟩;refine a1 ?_;simp only[o.cells,h1,if_false];exact⟨trivial,aB⟩
theorem amf(i:Nat)(b:Nat)(v:Value)(l:List o.Var)(w:World)(aS:o.hh w v l)(aC:w.cell? ⟨b,0,none⟩=some v)(ad:i<l.length) :
  bu Tryz.prog F.jO #[.int .i64 i,.pointer (some ⟨b,0,none⟩)] w fun v w'=>v = .string (o.nameAt (·.name) l i)/\Ext w w':=by
 obtain⟨bl,cap,rfl,hlen⟩:=aS.form;refine bL E.jO ?_;refine bG ?_;refine a1 ?_;refine K.ld aC ?_;refine a1 ?_;obtain⟨a,rfl⟩:=aS.addr (by omega);have aw:=(aS.at i ad).cells 0 _ rfl;refine K.dp i rfl ad ?_;refine a1 ?_;refine K.ld aw ?_;refine a1 ?_;rw[q6 _ _ _ ad];exact⟨rfl,Ext.refl w⟩
theorem amg(i:Nat)(b cr:Nat)(v v2:Value)(l:List o.Var)(s:List o.Scalar)(w:World)(aS:o.hh w v l)(ay:o.hI w v2 s)(aC:w.cell? ⟨b,0,none⟩=some v)(dQ:w.cell? ⟨cr,0,none⟩=some v2)
  (ad:i<l.length):bu Tryz.prog F.bC #[.int .i64 i,.pointer (some ⟨b,0,none⟩),.pointer (some ⟨cr,0,none⟩)] w fun v w'=>v = .int .i64 (o.oL l s i)/\Ext w w':=by
 obtain⟨bl,cap,rfl,hlen⟩:=aS.form;obtain⟨yJ,zD,rfl,HD⟩:=ay.form;refine bL E.bC ?_;refine bG ?_;refine a1 ?_;refine K.ld aC ?_;refine a1 ?_;obtain⟨a,rfl⟩:=aS.addr (by omega);have aw:=(aS.at i ad).cells;have ba:o.oL l s i=if o.there l[i].scalar s=false\/o.there l[i].over s=false then 8
  else if (l[i].scalar=0/\o.narrow l[i].bf l[i].ad=false)\/l[i].init<(o.bounds l[i] s).1\/l[i].init > (o.bounds l[i] s).2 then 10 else 0:=by simp[o.oL,ad]
 rw[ba];clear ba;generalize l[i]=x at aw;refine K.dp i rfl ad ?_;refine a1 ?_;refine K.jX aw rfl ?_;refine a1 ?_;refine K.new fun av q aG aB ao=>?_;refine a1 ?_;refine K.h6 ao rfl rfl (by simp[o.Var.enc,Value.oneCell']) fun aU hw aP=>?_;have aA:Ext w aU:=hw.ext aB aG;clear hw ao aB av;have c1:aU.cell? (Addr.add ⟨q,0,none⟩ 1)=some (.int .i64 x.scalar):=e8 aP rfl;have c2:aU.cell? (Addr.add ⟨q,0,none⟩ 2)=some (.int .i64 x.over):=e8 aP rfl;have xC:aU.cell? (Addr.add ⟨q,0,none⟩ 5)=some (.int .i64 x.init):=e8 aP rfl;have d2:=aA.cell dQ;have eC:=bF.ext o.jb.ext aA ay;refine a1 ?_;refine K.ld c1 ?_;refine a1 ?_;refine K.ld d2 ?_;refine a1 ?_;refine K.call (Ol x.scalar _ s aU eC) ?_;rintro _ _ ⟨rfl,rfl⟩;refine a1 ?_;refine K.du (fun h1=>?_) (fun h1=>?_);rotate_left
 .refine a1 ?_;simp only[h1,true_or,if_true];exact⟨trivial,aA⟩
 refine a1 ?_;refine K.ld c2 ?_;refine a1 ?_;refine K.ld d2 ?_;refine a1 ?_;refine K.call (Ol x.over _ s _ eC) ?_;rintro _ _ ⟨rfl,rfl⟩;refine a1 ?_;refine K.du (fun U=>?_) (fun U=>?_);rotate_left
 .refine a1 ?_;simp only[U,or_true,if_true];exact⟨trivial,aA⟩
 refine a1 ?_;refine K.jX (hl aP) rfl ?_;refine a1 ?_;refine K.ld d2 ?_;refine a1 ?_;refine K.call (RU x _ s _ eC) ?_;rintro _ bb ⟨rfl,ax⟩;rename_i apQ;have bU:=ax.cell c1;have b3:=ax.cell xC;have he:=aA.trans ax;refine a1 ?_;refine K.ld bU ?_;have eL:¬(o.there x.scalar s=false\/o.there x.over s=false):=by simp[h1,U]
 refine a1 ?_;refine K.cond (fun ag=>?_) (fun ag=>?_)
 .refine a1 ?_;have sN:o.bounds x s=(x.bf,x.ad):=by simp[o.bounds,ag]
  rw[sN];refine K.call (WJ x.bf x.ad bb) ?_;rintro _ _ ⟨rfl,rfl⟩;refine a1 ?_;refine K.du (fun aJ=>?_) (fun aJ=>?_);rotate_left
  .refine a1 ?_;rw[if_neg eL,if_pos (.inl ⟨ag,aJ⟩)];exact⟨rfl,he⟩
  refine a1 ?_;refine K.ld b3 ?_;refine a1 ?_;refine K.cond (fun bg=>?_) (fun bg=>?_)
  .refine a1 ?_;rw[if_neg eL,if_pos (.inr (.inl bg))];exact⟨rfl,he⟩
  refine a1 ?_;refine K.ld b3 ?_;refine a1 ?_;refine K.cond (fun bO=>?_) (fun bO=>?_)
  .refine a1 ?_;rw[if_neg eL,if_pos (.inr (.inr bO))];exact⟨rfl,he⟩
  .refine a1 ?_;rw[if_neg eL,if_neg (by rw[aJ];simp;omega)];exact⟨rfl,he⟩
 .refine a1 ?_;refine K.ld b3 ?_;refine a1 ?_;refine K.cond (fun bg=>?_) (fun bg=>?_)
  .refine a1 ?_;rw[if_neg eL,if_pos (.inr (.inl bg))];exact⟨rfl,he⟩
  refine a1 ?_;refine K.ld b3 ?_;refine a1 ?_;refine K.cond (fun bO=>?_) (fun bO=>?_)
  .refine a1 ?_;rw[if_neg eL,if_pos (.inr (.inr bO))];exact⟨rfl,he⟩
  .refine a1 ?_;rw[if_neg eL,if_neg (by simp[ag];omega)];exact⟨rfl,he⟩
theorem YN(v v2:Value)(l:List o.Var)(s:List o.Scalar)(fr:Int)(w:World)(bc:hv w)(aS:o.hh w v l)(ay:o.hI w v2 s) :
  bu Tryz.prog F.b4 #[v,v2,.int .i64 fr] w fun v w'=>v = .tuple #[.int .i64 (o.vars l s fr).1,.int .i64 (o.vars l s fr).2]/\Ext w w':=by
 obtain⟨bl,cap,rfl,hlen⟩:=aS.form;obtain⟨yJ,zD,rfl,HD⟩:=ay.form;refine bL E.b4 ?_;refine bG ?_;refine a1 ?_;refine K.new fun av b aC aB ao=>?_;refine a1 ?_;refine K.new fun aU cr dQ aA aP=>?_;have he:=aB.trans aA;have pd:=bF.ext o.pD.ext he aS;have fY:=bF.ext o.jb.ext he ay;have d1:aU.cell? ⟨b,0,none⟩=some (.slice bl l.length cap):=zE (aA.obj ao) rfl;have d2:aU.cell? ⟨cr,0,none⟩=some (.slice yJ s.length zD):=zE aP rfl;refine a1 ?_;refine K.ld d1 ?_;refine a1 ?_;refine K.call (M0 l.length (max fr 0) (by omega) (o.nameAt (·.name) l) (o.oL l s) F.jO F.bC [_] [_,_] (by kernel_rfl) (by kernel_rfl) aU (bc.ext he)
  (fun i ad=>by rw[q6 _ _ _ (by omega)];obtain⟨a,rfl⟩:=aS.addr (by omega);exact(aS.at i (by omega)).ok)
  (fun i w' ad he=>amf i b _ l w' (bF.ext o.pD.ext he pd) (he.cell d1) (by omega))
  (fun i w' ad he=>amg i b cr _ _ l s w' (bF.ext o.pD.ext he pd) (bF.ext o.jb.ext he fY) (he.cell d1) (he.cell d2) (by omega))) ?_
 rintro _ bb ⟨rfl,ax⟩;refine a1 ?_;exact⟨rfl,he.trans ax⟩
theorem abe(i:Nat)(b:Nat)(v:Value)(l:List o.dv)(w:World)(aS:o.mC w v l)(aC:w.cell? ⟨b,0,none⟩=some v)(ad:i<l.length) :
  bu Tryz.prog F.cM #[.int .i64 i,.pointer (some ⟨b,0,none⟩)] w fun v w'=>v = .string (o.nameAt (·.name) l i)/\Ext w w':=by
 obtain⟨bl,cap,rfl,hlen⟩:=aS.form;refine bL E.cM ?_;refine bG ?_;refine a1 ?_;refine K.ld aC ?_;refine a1 ?_;obtain⟨a,rfl⟩:=aS.addr (by omega);have aw:=(aS.at i ad).cells 0 _ rfl;refine K.dp i rfl ad ?_;refine a1 ?_;refine K.ld aw ?_;refine a1 ?_;rw[q6 _ _ _ ad];exact⟨rfl,Ext.refl w⟩
theorem abf(i:Nat)(b cr:Nat)(v v2:Value)(l:List o.dv)(s:List o.Scalar)(w:World)(aS:o.mC w v l)(ay:o.hI w v2 s)(aC:w.cell? ⟨b,0,none⟩=some v)(dQ:w.cell? ⟨cr,0,none⟩=some v2)
  (ad:i<l.length):bu Tryz.prog F.dR #[.int .i64 i,.pointer (some ⟨b,0,none⟩),.pointer (some ⟨cr,0,none⟩)] w fun v w'=>v = .int .i64 (o.og l s i)/\Ext w w':=by
 obtain⟨bl,cap,rfl,hlen⟩:=aS.form;obtain⟨yJ,zD,rfl,HD⟩:=ay.form;refine bL E.dR ?_;refine bG ?_;refine a1 ?_;refine K.ld aC ?_;refine a1 ?_;obtain⟨a,rfl⟩:=aS.addr (by omega);have aw:=(aS.at i ad).cells;have ba:o.og l s i=if o.there l[i].scalar s=false then 8
  else if l[i].cap<1\/l[i].cap > 4\/(l[i].scalar=0/\o.narrow l[i].bf l[i].ad=false) then 10 else 0:=by simp[o.og,ad]
 rw[ba];clear ba;generalize l[i]=x at aw;refine K.dp i rfl ad ?_;refine a1 ?_;refine K.jX aw rfl ?_;refine a1 ?_;refine K.new fun av q aG aB ao=>?_;refine a1 ?_;refine K.h6 ao rfl rfl (by simp[o.dv.enc,Value.oneCell']) fun aU hw aP=>?_;have aA:Ext w aU:=hw.ext aB aG;clear hw ao aB av;have c1:aU.cell? (Addr.add ⟨q,0,none⟩ 1)=some (.int .i64 x.scalar):=e8 aP rfl;have c2:aU.cell? (Addr.add ⟨q,0,none⟩ 2)=some (.int .i64 x.cap):=e8 aP rfl;have bP:aU.cell? (Addr.add ⟨q,0,none⟩ 3)=some (.int .i64 x.bf):=e8 aP rfl;have bX:aU.cell? (Addr.add ⟨q,0,none⟩ 4)=some (.int .i64 x.ad):=e8 aP rfl;have d2:=aA.cell dQ;have eC:=bF.ext o.jb.ext aA ay;refine a1 ?_;refine K.ld c1 ?_;refine a1 ?_;refine K.ld d2 ?_;refine a1 ?_;refine K.call (Ol x.scalar _ s aU eC) ?_;rintro _ _ ⟨rfl,rfl⟩;refine a1 ?_;refine K.du (fun h1=>?_) (fun h1=>?_);rotate_left
 .refine a1 ?_;simp only[h1,if_true];exact⟨trivial,aA⟩
 have eL:¬(o.there x.scalar s=false):=by simp[h1]
 refine a1 ?_;refine K.ld c2 ?_;refine a1 ?_;refine K.cond (fun U=>?_) (fun U=>?_)
 .refine a1 ?_;rw[if_neg eL,if_pos (.inl U)];exact⟨rfl,aA⟩
 refine a1 ?_;refine K.ld c2 ?_;refine a1 ?_;refine K.cond (fun ag=>?_) (fun ag=>?_)
 .refine a1 ?_;rw[if_neg eL,if_pos (.inr (.inl ag))];exact⟨rfl,aA⟩
 refine a1 ?_;refine K.ld c1 ?_;refine a1 ?_;refine K.cond (fun aJ=>?_) (fun aJ=>?_)
 .refine a1 ?_;refine K.ld bP ?_;refine a1 ?_;refine K.ld bX ?_;refine a1 ?_;refine K.call (WJ x.bf x.ad _) ?_;rintro _ _ ⟨rfl,rfl⟩;refine a1 ?_;refine K.du (fun bg=>?_) (fun bg=>?_)
  .refine a1 ?_;rw[if_neg eL,if_neg (by rw[bg];simp;omega)];exact⟨rfl,aA⟩
  .refine a1 ?_;rw[if_neg eL,if_pos (.inr (.inr ⟨aJ,bg⟩))];exact⟨rfl,aA⟩
 .refine a1 ?_;rw[if_neg eL,if_neg (by simp[aJ];omega)];exact⟨rfl,aA⟩
theorem abh(v v2:Value)(l:List o.dv)(s:List o.Scalar)(w:World)(bc:hv w)(aS:o.mC w v l)(ay:o.hI w v2 s) :
  bu Tryz.prog F.Co #[v,v2] w fun v w'=>v = .tuple #[.int .i64 (o.aM l s).1,.int .i64 (o.aM l s).2]/\Ext w w':=by
 obtain⟨bl,cap,rfl,hlen⟩:=aS.form;obtain⟨yJ,zD,rfl,HD⟩:=ay.form;refine bL E.Co ?_;refine bG ?_;refine a1 ?_;refine K.new fun av b aC aB ao=>?_;refine a1 ?_;refine K.new fun aU cr dQ aA aP=>?_;have he:=aB.trans aA;have pd:=bF.ext o.pC.ext he aS;have fY:=bF.ext o.jb.ext he ay;have d1:aU.cell? ⟨b,0,none⟩=some (.slice bl l.length cap):=zE (aA.obj ao) rfl;have d2:aU.cell? ⟨cr,0,none⟩=some (.slice yJ s.length zD):=zE aP rfl;refine a1 ?_;refine K.ld d1 ?_;refine a1 ?_;refine K.call (M0 l.length 4 (by omega) (o.nameAt (·.name) l) (o.og l s) F.cM F.dR [_] [_,_] (by kernel_rfl) (by kernel_rfl) aU (bc.ext he)
  (fun i ad=>by rw[q6 _ _ _ (by omega)];obtain⟨a,rfl⟩:=aS.addr (by omega);exact(aS.at i (by omega)).ok)
  (fun i w' ad he=>abe i b _ l w' (bF.ext o.pC.ext he pd) (he.cell d1) (by omega))
  (fun i w' ad he=>abf i b cr _ _ l s w' (bF.ext o.pC.ext he pd) (bF.ext o.jb.ext he fY) (he.cell d1) (he.cell d2) (by omega))) ?_
 rintro _ bb ⟨rfl,ax⟩;refine a1 ?_;exact⟨rfl,he.trans ax⟩
end Go.Proofs.R
end
section
end
section
namespace Go.Proofs.R
open Go Go.RowKit bt
theorem Bd(k:Int)(v:Value)(l:List o.Scalar)(w:World)(aS:o.hI w v l) :
  bu Tryz.prog F.q1 #[v,.int .i64 k] w fun v w'=>v = .int .i64 (o.size k l)/\w'=w:=by
 obtain⟨bl,cap,rfl,hlen⟩:=aS.form;refine bL E.q1 ?_;refine bG ?_;refine a1 ?_;refine K.cond (fun h1=>?_) (fun h1=>?_)
 .refine a1 ?_;rw[ID (.inl h1)];exact⟨rfl,trivial⟩
 refine a1 ?_;refine K.cond (fun U=>?_) (fun U=>?_)
 .refine a1 ?_;rw[ID (.inr U)];exact⟨rfl,trivial⟩
 obtain⟨a,rfl⟩:=aS.addr (by omega);have aw:=(aS.at (k.toNat - 1) (by omega)).cells 1 _ rfl;have hk:(k - 1).toNat*2=(k.toNat - 1)*2:=by omega
 rw[Yb (by omega) (by omega)];rw[<-hk] at aw;generalize l[k.toNat - 1].size=z at aw
 (repeat' first
  | (refine K.cond (fun _=>?_) (fun _=>?_)<;>try (exfalso;omega))
  | (refine K.du (fun _=>?_) (fun _=>?_))
  | (refine K.wrap (by omega) ?_)
  | (refine K.ld (by assumption) ?_)
  | (refine K.gz (by omega) ?_)
  | simp -dsimp only[c4,cF,Nat.reduceAdd,Nat.reduceEqDiff,reduceIte,reduceCtorEq,db])
 .rw[if_neg (by omega)];exact⟨rfl,trivial⟩
 .rw[if_neg (by omega)];exact⟨rfl,trivial⟩
 .rw[if_pos (by omega)];exact⟨rfl,trivial⟩
theorem NI(x:o.Var)(v:Value)(l:List o.Scalar)(w:World)(aS:o.hI w v l) :
  bu Tryz.prog F.yw #[.agg x.enc.toArray,v] w fun v w'=>v = .tuple #[.int .i64 (o.bounds x l).1,.int .i64 (o.bounds x l).2]/\Ext w w':=by
 obtain⟨bl,cap,rfl,hlen⟩:=aS.form;refine bL E.yw ?_;refine bG ?_;refine a1 ?_;refine K.new fun av b aC aB ao=>?_;have c1:av.cell? (Addr.add ⟨b,0,none⟩ 1)=some (.int .i64 x.scalar):=e8 ao rfl;have bP:av.cell? (Addr.add ⟨b,0,none⟩ 3)=some (.int .i64 x.bf):=e8 ao rfl;have bX:av.cell? (Addr.add ⟨b,0,none⟩ 4)=some (.int .i64 x.ad):=e8 ao rfl;refine a1 ?_;refine K.ld c1 ?_;refine a1 ?_;refine K.cond (fun h1=>?_) (fun h1=>?_)
 .refine a1 ?_;refine K.ld bP ?_;refine a1 ?_;refine K.ld bX ?_;refine a1 ?_;intro aU aA;simp only[o.bounds,h1,if_true];exact⟨trivial,aB.trans aA⟩
 .refine a1 ?_;refine K.ld c1 ?_;refine a1 ?_;refine K.call (Bd x.scalar _ l av (bF.ext o.jb.ext aB aS)) ?_;rintro _ _ ⟨rfl,rfl⟩;refine a1 ?_;simp only[o.bounds,h1,if_false];exact⟨trivial,aB⟩
theorem NJ(x:o.Var)(v:Value)(l:List o.Scalar)(w:World)(aS:o.hI w v l) :
  bu Tryz.prog F.yx #[.agg x.enc.toArray,v] w fun v w'=>v = .int .i64 (o.cells x l)/\Ext w w':=by
 obtain⟨bl,cap,rfl,hlen⟩:=aS.form;refine bL E.yx ?_;refine bG ?_;refine a1 ?_;refine K.new fun av b aC aB ao=>?_;have c2:av.cell? (Addr.add ⟨b,0,none⟩ 2)=some (.int .i64 x.over):=e8 ao rfl;refine a1 ?_;refine K.ld c2 ?_;refine a1 ?_;refine K.cond (fun h1=>?_) (fun h1=>?_)
 .refine a1 ?_;simp only[o.cells,h1,if_true];exact⟨trivial,aB⟩
 .refine a1 ?_;refine K.ld c2 ?_;refine a1 ?_;refine K.call (Bd x.over _ l av (bF.ext o.jb.ext aB aS)) ?_;rintro _ _ ⟨rfl,rfl⟩;refine a1 ?_;simp only[o.cells,h1,if_false];exact⟨trivial,aB⟩
end Go.Proofs.R
end
section
namespace Go.Proofs.R
open Go Go.RowKit bt
theorem XJ(n:Int)(w:World):bu Tryz.prog F.AG #[.int .u8 n] w fun v w'=>v = .bool (o.letter n)/\w'=w:=by
 refine bL E.AG ?_;refine bG ?_
 (repeat' first
  | (refine K.cond (fun _=>?_) (fun _=>?_)<;>try (exfalso;omega))
  | (refine K.du (fun _=>?_) (fun _=>?_))
  | (refine K.wrap (by omega) ?_)
  | (refine K.ld (by assumption) ?_)
  | (refine K.gz (by omega) ?_)
  | simp -dsimp only[c4,cF,Nat.reduceAdd,Nat.reduceEqDiff,reduceIte,reduceCtorEq,db])
 all_goals (refine⟨?_,by first | rfl | trivial⟩;congr 1;rw[Bool.eq_iff_iff];simp[o.letter];omega)
theorem NF(n:Int)(w:World):bu Tryz.prog F.yu #[.int .u8 n] w fun v w'=>v = .bool (o.digit n)/\w'=w:=by
 refine bL E.yu ?_;refine bG ?_
 (repeat' first
  | (refine K.cond (fun _=>?_) (fun _=>?_)<;>try (exfalso;omega))
  | (refine K.du (fun _=>?_) (fun _=>?_))
  | (refine K.wrap (by omega) ?_)
  | (refine K.ld (by assumption) ?_)
  | (refine K.gz (by omega) ?_)
  | simp -dsimp only[c4,cF,Nat.reduceAdd,Nat.reduceEqDiff,reduceIte,reduceCtorEq,db])
 all_goals (refine⟨?_,by first | rfl | trivial⟩;congr 1;rw[Bool.eq_iff_iff];simp[o.digit];omega)
def u3:List ByteArray:=[⟨#[58,61]⟩,⟨#[61,61]⟩,⟨#[33,61]⟩,⟨#[60,61]⟩,⟨#[45,62]⟩,⟨#[38,38]⟩,⟨#[124,124]⟩,⟨#[61,62]⟩,⟨#[40]⟩,⟨#[41]⟩,⟨#[91]⟩,⟨#[93]⟩,⟨#[123]⟩,⟨#[125]⟩,⟨#[59]⟩,⟨#[44]⟩,⟨#[58]⟩,⟨#[46]⟩,⟨#[60]⟩,⟨#[43]⟩,⟨#[45]⟩,⟨#[42]⟩,⟨#[33]⟩,⟨#[63]⟩,⟨#[64]⟩]
theorem akY(w:World):bu Tryz.prog F.D7 #[] w fun v w'=>(∃b,v = .slice (some ⟨b,0,none⟩) 25 25/\fg w' ⟨b,0,none⟩ (u3.map Value.string))/\Ext w w':=by
 refine bL E.D7 ?_;refine bG ?_;refine a1 ?_;refine K.lk (cs:=u3.map Value.string) (by simp[List.range,List.range.loop,eQ,lay,ft,o2,cu,Value.cells,u3]) fun av bC cR aB ao=>?_;refine a1 ?_;exact⟨⟨bC,rfl,hl ao⟩,aB⟩
theorem aan(s:ByteArray)(w:World)(h:0<s.size)(ay:s.size<=16) :
  bu Tryz.prog F.D6 #[.string s,.int .i64 0] w fun v w'=>(∃n k:Int,v = .tuple #[.int .i64 n,.int .i64 k]/\if o.letter (o.rG s 0:Nat)=true then n=o.run o.part s/\k=1 else k≠1)/\Ext w w':=by
 refine bL E.D6 ?_;refine bG ?_;refine a1 ?_;refine K.lB (s.get! 0) (by decide) (o.get?_eq s 0 h) ?_;refine a1 ?_;refine K.call (XJ _ w) ?_;rintro _ w ⟨rfl,rfl⟩;refine a1 ?_;refine K.du (fun h1=>?_) (fun h1=>?_)
 .have pR:o.letter (o.rG s 0:Nat)=true:=h1;refine a1 ?_;refine K.loop (fun S w' => ∃i:Nat,i<=s.size/\S 6 = .int .i64 i/\(∀j (aR:j<s.size),j<i->o.part s[j].toNat=true)/\w'=w)
   (fun S _=>(s.size - intOf (S 6)).toNat) ⟨0,by omega,by refine a1 ?_;rfl,fun _ _ h=>absurd h (Nat.not_lt_zero _),rfl⟩ ?_
  rintro S w cg ⟨i,ad,bO,dF,rfl⟩;have ak:=cg 0 rfl;have h1:=cg 1 rfl;simp only[cu,Nat.reduceAdd,Nat.reduceEqDiff,reduceIte,jg,me] at ak h1;clear cg;refine ch (zI ak (zI h1 bO)) ?_;refine K.cond (fun U=>?_) (fun U=>?_)
  .have cO:i<s.size:=by omega
   refine ch (zI ak (zI h1 bO)) ?_;refine K.lB (s.get! i) (by omega) (o.get?_eq s i cO) ?_;rw[o.get_eq s i cO];refine ch (zI ak (zI h1 bO)) ?_;refine K.call (XJ _ _) ?_;rintro _ w ⟨rfl,rfl⟩;refine ch (zI ak (zI h1 bO)) ?_;refine K.du (fun ag=>?_) (fun ag=>?_)
   .refine ch (zI ak (zI h1 bO)) ?_;refine K.wrap (by omega) ?_;refine ch (zI ak (zI h1 bO)) ?_;refine⟨⟨i+1,by omega,rfl,fun j aR gX=>?_,trivial⟩,by simp[intOf];omega⟩;by_cases kU:j<i
    .exact dF j aR kU
    .have:j=i:=by omega
     subst this;simp[o.part,ag]
   refine ch (zI ak (zI h1 bO)) ?_;refine K.lB (s.get! i) (by omega) (o.get?_eq s i cO) ?_;rw[o.get_eq s i cO];refine ch (zI ak (zI h1 bO)) ?_;refine K.call (NF _ _) ?_;rintro _ w ⟨rfl,rfl⟩;refine ch (zI ak (zI h1 bO)) ?_;refine K.du (fun aJ=>?_) (fun aJ=>?_)
   .refine ch (zI ak (zI h1 bO)) ?_;refine K.wrap (by omega) ?_;refine ch (zI ak (zI h1 bO)) ?_;refine⟨⟨i+1,by omega,rfl,fun j aR gX=>?_,trivial⟩,by simp[intOf];omega⟩;by_cases kU:j<i
    .exact dF j aR kU
    .have:j=i:=by omega
     subst this;simp[o.part,aJ]
   refine ch (zI ak (zI h1 bO)) ?_;refine K.lB (s.get! i) (by omega) (o.get?_eq s i cO) ?_;rw[o.get_eq s i cO];refine ch (zI ak (zI h1 bO)) ?_;refine K.cond (fun bg=>?_) (fun bg=>?_)
   .refine ch (zI ak (zI h1 bO)) ?_;refine K.wrap (by omega) ?_;refine ch (zI ak (zI h1 bO)) ?_;refine⟨⟨i+1,by omega,rfl,fun j aR gX=>?_,trivial⟩,by simp[intOf];omega⟩;by_cases kU:j<i
    .exact dF j aR kU
    .have:j=i:=by omega
     subst this;simp[o.part];omega
   .refine ch (zI ak (zI h1 bO)) ?_;refine K.wrap (by omega) ?_;refine ch (zI ak (zI h1 bO)) ?_;refine⟨⟨_,_,rfl,?_⟩,Ext.refl _⟩;rw[if_pos pR];rw[o.X0 o.part s i cO (fun j aR=>dF j (by omega) aR) (by simp only[o.part,ag,aJ,Bool.false_or,decide_eq_false_iff_not];omega)];exact⟨by omega,rfl⟩
  .refine ch (zI ak (zI h1 bO)) ?_;refine K.wrap (by omega) ?_;refine ch (zI ak (zI h1 bO)) ?_;refine⟨⟨_,_,rfl,?_⟩,Ext.refl _⟩;rw[if_pos pR];rw[o.XT o.part s (fun j aR=>dF j aR (by omega))];exact⟨by omega,rfl⟩
 have pR:o.letter (o.rG s 0:Nat)=false:=h1;have hz:¬o.letter (o.rG s 0:Nat)=true:=by simp[pR]
 refine a1 ?_;refine K.lB (s.get! 0) (by decide) (o.get?_eq s 0 h) ?_;refine a1 ?_;refine K.call (NF _ w) ?_;rintro _ w ⟨rfl,rfl⟩;refine a1 ?_;refine K.du (fun U=>?_) (fun U=>?_)
 .refine a1 ?_;refine K.loop (fun S w' => ∃i:Nat,i<=s.size/\S 6 = .int .i64 i/\w'=w)
   (fun S _=>(s.size - intOf (S 6)).toNat) ⟨0,by omega,by refine a1 ?_;rfl,rfl⟩ ?_
  rintro S w cg ⟨i,ad,bO,rfl⟩;have ak:=cg 0 rfl;have h1:=cg 1 rfl;simp only[cu,Nat.reduceAdd,Nat.reduceEqDiff,reduceIte,jg,me] at ak h1;clear cg;refine ch (zI ak (zI h1 bO)) ?_;refine K.cond (fun U=>?_) (fun U=>?_)
  .have cO:i<s.size:=by omega
   refine ch (zI ak (zI h1 bO)) ?_;refine K.lB (s.get! i) (by omega) (o.get?_eq s i cO) ?_;refine ch (zI ak (zI h1 bO)) ?_;refine K.call (NF _ _) ?_;rintro _ w ⟨rfl,rfl⟩;refine ch (zI ak (zI h1 bO)) ?_;refine K.du (fun aJ=>?_) (fun aJ=>?_)
   .refine ch (zI ak (zI h1 bO)) ?_;refine K.wrap (by omega) ?_;refine ch (zI ak (zI h1 bO)) ?_;exact⟨⟨i+1,by omega,rfl,trivial⟩,by simp[intOf];omega⟩
   .refine ch (zI ak (zI h1 bO)) ?_;refine K.wrap (by omega) ?_;refine ch (zI ak (zI h1 bO)) ?_;exact⟨⟨_,_,rfl,by rw[if_neg hz];decide⟩,Ext.refl _⟩
  .refine ch (zI ak (zI h1 bO)) ?_;refine K.wrap (by omega) ?_;refine ch (zI ak (zI h1 bO)) ?_;exact⟨⟨_,_,rfl,by rw[if_neg hz];decide⟩,Ext.refl _⟩
 refine a1 ?_;refine K.call (akY w) ?_;rintro _ av ⟨⟨b,rfl,aw⟩,he⟩;refine a1 ?_;refine K.loop (fun S w' => ∃i:Nat,i<=25/\S 8 = .int .i64 i/\Ext av w')
  (fun S _=>(25 - intOf (S 8)).toNat) ⟨0,by omega,by refine a1 ?_;rfl,Ext.refl _⟩ ?_
 rintro S w' cg ⟨i,ad,dE,aA⟩;have ak:=cg 0 rfl;have h1:=cg 1 rfl;have cj:=cg 7 rfl;simp only[cu,Nat.reduceAdd,Nat.reduceEqDiff,reduceIte,jg,me] at ak h1 cj;clear cg;refine ch (zI ak (zI h1 (zI cj dE))) ?_;refine K.cond (fun U=>?_) (fun U=>?_)
 .have cO:i<u3.length:=by simp[u3];omega
  have h0:w'.cell? (Addr.add ⟨b,0,none⟩ (i*1))=some (.string u3[i]):=by
   rw[Nat.mul_one];exact aw.ext aA i _ (by rw[List.getElem?_map,List.getElem?_eq_getElem cO];rfl)
  have bQ:u3[i].size<=2:=by
   have:∀x∈u3,x.size<=2:=by decide
   exact this _ (List.getElem_mem _)
  generalize u3[i]=x at h0 bQ;refine ch (zI ak (zI h1 (zI cj dE))) ?_;refine K.wrap (by omega) ?_;refine ch (zI ak (zI h1 (zI cj dE))) ?_;refine K.dp i rfl (by omega) ?_;refine ch (zI ak (zI h1 (zI cj dE))) ?_;refine K.ld h0 ?_;refine ch (zI ak (zI h1 (zI cj dE))) ?_;refine K.cond (fun ag=>?_) (fun ag=>?_)
  .refine ch (zI ak (zI h1 (zI cj dE))) ?_;refine K.dp i rfl (by omega) ?_;refine ch (zI ak (zI h1 (zI cj dE))) ?_;refine K.ld h0 ?_;refine ch (zI ak (zI h1 (zI cj dE))) ?_;refine K.wrap (by omega) ?_;refine ch (zI ak (zI h1 (zI cj dE))) ?_;refine K.wW 0 x.size (by simp[fl,ft,cu,h1]) (by simp[fl,ft,cu,h1]) (by omega) ?_;refine ch (zI ak (zI h1 (zI cj dE))) ?_;refine K.dp i rfl (by omega) ?_;refine ch (zI ak (zI h1 (zI cj dE))) ?_;refine K.ld h0 ?_;refine ch (zI ak (zI h1 (zI cj dE))) ?_;intro aU ax;refine K.cond (fun aJ=>?_) (fun aJ=>?_)
   .refine ch (zI ak (zI h1 (zI cj dE))) ?_;refine K.dp i rfl (by omega) ?_;refine ch (zI ak (zI h1 (zI cj dE))) ?_;refine K.ld (ax.cell h0) ?_;refine ch (zI ak (zI h1 (zI cj dE))) ?_;exact⟨⟨_,_,rfl,by rw[if_neg hz];decide⟩,he.trans (aA.trans ax)⟩
   .refine ch (zI ak (zI h1 (zI cj dE))) ?_;refine K.wrap (by omega) ?_;refine ch (zI ak (zI h1 (zI cj dE))) ?_;exact⟨⟨i+1,by omega,rfl,aA.trans ax⟩,by simp[intOf];omega⟩
  .refine ch (zI ak (zI h1 (zI cj dE))) ?_;intro aU ax;refine K.wrap (by omega) ?_;refine ch (zI ak (zI h1 (zI cj dE))) ?_;exact⟨⟨i+1,by omega,rfl,aA.trans ax⟩,by simp[intOf];omega⟩
 .refine ch (zI ak (zI h1 (zI cj dE))) ?_;exact⟨⟨_,_,rfl,by rw[if_neg hz];decide⟩,he.trans aA⟩
theorem Bh(s:ByteArray)(w:World)(ay:s.size<=9223372036854775807):bu Tryz.prog F.tc #[.string s] w fun v w'=>v = .bool (o.isName s)/\Ext w w':=by
 refine bL E.tc ?_;refine bG ?_;refine a1 ?_;refine K.cond (fun ak=>?_) (fun ak=>?_)
 .refine a1 ?_;refine⟨?_,Ext.refl w⟩;subst ak;rfl
 have bQ:s.size≠0:=fun h=>ak (by
  cases s with | mk d =>
  have:d=#[]:=by simpa[ByteArray.size] using h
  rw[this])
 refine a1 ?_;refine K.cond (fun h1=>?_) (fun h1=>?_)
 .refine a1 ?_;refine⟨?_,Ext.refl w⟩
  have:¬s.size<=16:=by omega
  simp[o.isName,this]
 have pR:s.size<=16:=by omega
 refine a1 ?_;refine K.cond (fun U=>?_) (fun U=>?_)
 .refine a1 ?_;exact⟨by subst U;exact congrArg Value.bool (by decide +kernel),Ext.refl w⟩
 refine a1 ?_;refine K.cond (fun ag=>?_) (fun ag=>?_)
 .refine a1 ?_;exact⟨by subst ag;exact congrArg Value.bool (by decide +kernel),Ext.refl w⟩
 refine a1 ?_;refine K.cond (fun aJ=>?_) (fun aJ=>?_)
 .refine a1 ?_;exact⟨by subst aJ;exact congrArg Value.bool (by decide +kernel),Ext.refl w⟩
 refine a1 ?_;refine K.cond (fun bg=>?_) (fun bg=>?_)
 .refine a1 ?_;exact⟨by subst bg;exact congrArg Value.bool (by decide +kernel),Ext.refl w⟩
 have hm:s∉o.p9:=by simp[o.p9,U,ag,aJ,bg]
 refine a1 ?_;refine K.call (aan s w (by omega) pR) ?_;rintro _ av ⟨⟨n,k,rfl,lu⟩,he⟩;refine a1 ?_;refine K.cond (fun bO=>?_) (fun bO=>?_)
 .refine a1 ?_;refine⟨?_,he⟩;have aS:o.letter (o.rG s 0:Nat)=true:=by
   by_cases au:o.letter (o.rG s 0:Nat)=true
   .exact au
   .rw[if_neg au] at lu;exact absurd bO lu
  rw[if_pos aS] at lu;congr 1;simp[o.isName,aS,bQ,pR,hm,lu.1];omega
 .refine a1 ?_;refine⟨?_,he⟩;have aS:o.letter (o.rG s 0:Nat)=false:=by
   by_cases au:o.letter (o.rG s 0:Nat)=true
   .rw[if_pos au] at lu;exact absurd lu.2 bO
   .simpa using au
  simp[o.isName,aS]
end Go.Proofs.R
end
section
namespace Go.Proofs.R
open Go Go.RowKit bt
theorem xO{fr:Int}{fJ:Nat->ByteArray}{mo:Nat->Int}{i:Nat}(h:fr<=i):o.err fr fJ mo i=11:=by rw[o.err,if_pos h]
theorem zT{fr:Int}{fJ:Nat->ByteArray}{mo:Nat->Int}{i:Nat}(h:¬fr<=i)(U:o.isName (fJ i)=false):o.err fr fJ mo i=6:=by rw[o.err,if_neg h,if_pos U]
theorem Kw{fr:Int}{fJ:Nat->ByteArray}{mo:Nat->Int}{i j:Nat}(h:¬fr<=i)(U:o.isName (fJ i)=true)(aR:j<i)(he:fJ j=fJ i):o.err fr fJ mo i=7:=by
 rw[o.err,if_neg h,if_neg (by simp[U]),if_pos ⟨j,aR,he⟩]
theorem Kv{fr:Int}{fJ:Nat->ByteArray}{mo:Nat->Int}{i:Nat}(h:¬fr<=i)(U:o.isName (fJ i)=true)(aR:∀j,j<i->fJ j≠fJ i):o.err fr fJ mo i=mo i:=by
 rw[o.err,if_neg h,if_neg (by simp[U]),if_neg (fun⟨j,h1,U⟩=>aR j h1 U)]
theorem Wz{fr:Int}{fJ:Nat->ByteArray}{mo:Nat->Int}{i:Nat}(hm:0<=fr)(h:∀j,j<i->o.err fr fJ mo j=0):(i:Int)<=fr:=by
 by_cases au:(i:Int)<=fr
 .exact au
 .have:=h fr.toNat (by omega)
  rw[xO (by omega)] at this;cases this
theorem ajZ(v:Value)(l:List o.Scalar)(w:World)(aS:o.hI w v l) :
  bu Tryz.prog F.Ef #[v] w fun v w'=>v = .tuple #[.int .i64 (o.scalars l).1,.int .i64 (o.scalars l).2]/\Ext w w':=by
 obtain⟨bl,cap,rfl,hlen⟩:=aS.form;refine bL E.Ef ?_;refine bG ?_;simp -dsimp only[c4,cF,Nat.reduceAdd,Nat.reduceEqDiff,reduceIte,reduceCtorEq,db];refine K.loop (fun S w' => ∃i:Nat,i<=l.length/\S 4 = .int .i64 i/\(∀j,j<i->o.err 2 (o.nameAt (·.name) l) (o.tj l) j=0)/\Ext w w')
  (fun S _=>(l.length - intOf (S 4)).toNat) ⟨0,by omega,by simp -dsimp only[c4,cF,Nat.reduceAdd,Nat.reduceEqDiff,reduceIte,reduceCtorEq,db];rfl,fun _ h=>absurd h (Nat.not_lt_zero _),Ext.refl _⟩ ?_
 rintro S w' cg ⟨i,ad,aJ,dF,he⟩;have ak:=cg 0 rfl;simp only[cu,Nat.reduceAdd,Nat.reduceEqDiff,reduceIte,jg,me] at ak;clear cg;have ky:=Wz (by omega) dF;refine ch (zI ak aJ) ?_;apply K.cond<;>intro g1;rotate_left
 .refine ch (zI ak aJ) ?_;rw[o.scalars,o.oj (fun j aR=>dF j (by omega))];exact⟨rfl,he⟩
 have cO:i<l.length:=by omega
 obtain⟨a,rfl⟩:=aS.addr (by omega);have ih:=bF.ext o.jb.ext he aS;have o4:=(ih.at i cO).cells 0 _ rfl;have ao:=(ih.at i cO).cells 1 _ rfl;have dt:o.hR l[i].name:=(ih.at i cO).ok;have fI:o.nameAt (fun x:o.Scalar=>x.name) l i=l[i].name:=q6 _ _ _ cO;refine ch (zI ak aJ) ?_;apply K.cond<;>intro g2
 .refine ch (zI ak aJ) ?_;rw[o.scalars,o.iB cO dF (by rw[xO (by omega)];decide),xO (by omega)];exact⟨rfl,he⟩
 have hm:¬(2:Int)<=(i:Int):=by omega
 refine ch (zI ak aJ) ?_;refine K.dp i rfl cO ?_;refine ch (zI ak aJ) ?_;refine K.ld o4 ?_;refine ch (zI ak aJ) ?_;refine K.call (Bh _ _ dt) ?_;rintro _ aU ⟨rfl,aA⟩;refine ch (zI ak aJ) ?_;refine K.du (fun g3=>?_) (fun g3=>?_);rotate_left
 .refine ch (zI ak aJ) ?_;rw[<-fI] at g3;rw[o.scalars,o.iB cO dF (by rw[zT hm g3];decide),zT hm g3];exact⟨rfl,he.trans aA⟩
 have pQ:=g3;rw[<-fI] at pQ;replace aA:=he.trans aA;clear he ih;refine ch (zI ak aJ) ?_;refine K.loop (fun bh w' => ∃k:Nat,k<=i/\bh 5 = .int .i64 k/\(∀j,j<k->o.nameAt (fun x:o.Scalar=>x.name) l j≠o.nameAt (fun x:o.Scalar=>x.name) l i)/\Ext w w')
  (fun S _=>(i - intOf (S 5)).toNat) ⟨0,by omega,by simp -dsimp only[c4,cF,Nat.reduceAdd,Nat.reduceEqDiff,reduceIte,reduceCtorEq,db];rfl,fun _ h=>absurd h (Nat.not_lt_zero _),aA⟩ ?_
 rintro kt bb oo ⟨k,hk,bg,c5,ax⟩;have cz:=ak;have cA:=aJ;have ak:=oo 0 rfl;have aJ:=oo 4 rfl;simp only[cu,Nat.reduceAdd,Nat.reduceEqDiff,reduceIte,jg,me] at ak aJ;clear oo;rw[cz] at ak;rw[cA] at aJ;have ih:=bF.ext o.jb.ext ax aS;have o4:=(ih.at i cO).cells 0 _ rfl;have ao:=(ih.at i cO).cells 1 _ rfl;refine ch (zI ak (zI aJ bg)) ?_;apply K.cond<;>intro g4
 .have br:k<l.length:=by omega
  have kS:=(ih.at k br).cells 0 _ rfl;have lu:o.nameAt (fun x:o.Scalar=>x.name) l k=l[k].name:=q6 _ _ _ br;refine ch (zI ak (zI aJ bg)) ?_;refine K.dp k rfl br ?_;refine ch (zI ak (zI aJ bg)) ?_;refine K.ld kS ?_;refine ch (zI ak (zI aJ bg)) ?_;refine K.dp i rfl cO ?_;refine ch (zI ak (zI aJ bg)) ?_;refine K.ld o4 ?_;refine ch (zI ak (zI aJ bg)) ?_;intro bp aN;apply K.cond<;>intro g5
  .refine ch (zI ak (zI aJ bg)) ?_;have aL:=Kw (mo:=o.tj l) hm pQ (show k<i by omega) (by rw[lu,fI];exact g5);rw[o.scalars,o.iB cO dF (by rw[aL];decide),aL];exact⟨rfl,ax.trans aN⟩
  .refine ch (zI ak (zI aJ bg)) ?_;refine K.wrap (by omega) ?_;refine ch (zI ak (zI aJ bg)) ?_;refine⟨⟨k+1,by omega,rfl,fun j aR=>?_,ax.trans aN⟩,by simp[intOf];omega⟩;by_cases h2:j<k
   .exact c5 j h2
   .have:j=k:=by omega
    subst this;rw[lu,fI];exact g5
 have gQ:=Kv (mo:=o.tj l) hm pQ (fun j aR=>c5 j (by omega));have uz:o.tj l i=if 1<=l[i].size/\l[i].size<=4 then 0 else 10:=by simp[o.tj,cO]
 rw[uz] at gQ;generalize l[i].size=z at ao gQ;refine ch (zI ak (zI aJ bg)) ?_;refine K.dp i rfl cO ?_;refine ch (zI ak (zI aJ bg)) ?_;refine K.ld ao ?_;refine ch (zI ak (zI aJ bg)) ?_;apply K.cond<;>intro g6
 .refine ch (zI ak (zI aJ bg)) ?_;rw[if_neg (by omega)] at gQ;rw[o.scalars,o.iB cO dF (by rw[gQ];decide),gQ];exact⟨rfl,ax⟩
 refine ch (zI ak (zI aJ bg)) ?_;refine K.dp i rfl cO ?_;refine ch (zI ak (zI aJ bg)) ?_;refine K.ld ao ?_;refine ch (zI ak (zI aJ bg)) ?_;apply K.cond<;>intro g7
 .refine ch (zI ak (zI aJ bg)) ?_;rw[if_neg (by omega)] at gQ;rw[o.scalars,o.iB cO dF (by rw[gQ];decide),gQ];exact⟨rfl,ax⟩
 .refine ch (zI ak (zI aJ bg)) ?_;rw[if_pos (by omega)] at gQ;refine K.wrap (by omega) ?_;refine ch (zI ak (zI aJ bg)) ?_;refine⟨⟨i+1,by omega,rfl,fun j aR=>?_,ax⟩,by simp[intOf,cA];omega⟩;by_cases gX:j<i
  .exact dF j gX
  .have:j=i:=by omega
   subst this;exact gQ
end Go.Proofs.R
end
section
namespace Go.Proofs.R
open Go Go.RowKit bt
theorem Yj(bf ad:Int)(w:World):bu Tryz.prog F.yy #[.int .i64 bf,.int .i64 ad] w fun v w'=>v = .bool (o.narrow bf ad)/\w'=w:=by
 refine bL E.yy ?_;refine bG ?_
 (repeat' first
  | (refine K.cond (fun _=>?_) (fun _=>?_)<;>try (exfalso;omega))
  | (refine K.du (fun _=>?_) (fun _=>?_))
  | (refine K.wrap (by omega) ?_)
  | (refine K.ld (by assumption) ?_)
  | (refine K.gz (by omega) ?_)
  | simp -dsimp only[c4,cF,Nat.reduceAdd,Nat.reduceEqDiff,reduceIte,reduceCtorEq,db])
 all_goals (refine⟨?_,by first | rfl | trivial⟩;congr 1;rw[Bool.eq_iff_iff];simp[o.narrow];omega)
def IU(v:o.Var)(s:List o.Scalar):Int :=
 if (v.scalar≠0/\o.size v.scalar s=0)\/(v.over≠0/\o.size v.over s=0) then 8
 else if v.scalar=0/\(o.narrow v.bf v.ad=false\/v.init<v.bf\/v.init > v.ad) then 10
 else if v.scalar≠0/\(v.init<0\/v.init > o.size v.scalar s) then 10 else 0
theorem amd(l:List o.Var)(s:List o.Scalar)(i:Nat)(h:i<l.length):o.oL l s i=IU l[i] s:=by
 rw[o.oL,List.getElem?_eq_getElem h];simp only[IU,o.there,o.bounds,decide_eq_false_iff_not];by_cases ak:l[i].scalar=0
 .simp only[ak,if_true];by_cases h1:l[i].over=0
  .simp[h1]
  .simp[h1]
 .simp only[ak,if_false];by_cases h1:l[i].over=0
  .simp[ak,h1]
  .simp[ak,h1]
theorem aj1(x:o.Var)(v:Value)(l:List o.Scalar)(w:World)(aS:o.hI w v l) :
  bu Tryz.prog F.Eg #[.agg x.enc.toArray,v] w fun v w'=>v = .int .i64 (IU x l)/\Ext w w':=by
 obtain⟨bl,cap,rfl,hlen⟩:=aS.form;refine bL E.Eg ?_;refine bG ?_;simp -dsimp only[c4,cF,Nat.reduceAdd,Nat.reduceEqDiff,reduceIte,reduceCtorEq,db];refine K.new fun av b aC aB ao=>?_;have pd:=bF.ext o.jb.ext aB aS;have c1:av.cell? (Addr.add ⟨b,0,none⟩ 1)=some (.int .i64 x.scalar):=e8 ao rfl;have c2:av.cell? (Addr.add ⟨b,0,none⟩ 2)=some (.int .i64 x.over):=e8 ao rfl;have bP:av.cell? (Addr.add ⟨b,0,none⟩ 3)=some (.int .i64 x.bf):=e8 ao rfl;have bX:av.cell? (Addr.add ⟨b,0,none⟩ 4)=some (.int .i64 x.ad):=e8 ao rfl;have xC:av.cell? (Addr.add ⟨b,0,none⟩ 5)=some (.int .i64 x.init):=e8 ao rfl;have aG:∀k w',Ext av w'->bu Tryz.prog F.q1 #[.slice bl l.length cap,.int .i64 k] w' fun u b2=>u = .int .i64 (o.size k l)/\Ext w' b2:=fun k w' he =>
  (Bd k _ l w' (bF.ext o.jb.ext he pd)).mono fun v b2 h=>⟨h.1,h.2 ▸ Ext.refl _⟩
 (repeat' first
  | (refine K.cond (fun _=>?_) (fun _=>?_)<;>try (exfalso;omega))
  | (refine K.du (fun _=>?_) (fun _=>?_))
  | (refine K.ld (by assumption) ?_)
  | (refine K.call (Bd _ _ l _ pd) ?_;rintro _ av ⟨rfl,rfl⟩)
  | (refine K.call (Yj _ _ _) ?_;rintro _ av ⟨rfl,rfl⟩)
  | (refine K.gB _ (aG _) ?_)
  | simp -dsimp only[c4,cF,Nat.reduceAdd,Nat.reduceEqDiff,reduceIte,reduceCtorEq,db]
  | (intro aU aA;replace aA:=aB.trans aA))
 all_goals (refine⟨?_,by assumption⟩;congr 1;unfold IU;simp only[o.narrow,decide_eq_false_iff_not])
 all_goals (repeat' split)
 all_goals first | rfl | (exfalso;omega)
theorem XC(v v2:Value)(l:List o.Var)(s:List o.Scalar)(fr:Int)(w:World)(aS:o.hh w v l)(ay:o.hI w v2 s) :
  bu Tryz.prog F.AK #[v,v2,.int .i64 fr] w fun v w'=>v = .tuple #[.int .i64 (o.vars l s fr).1,.int .i64 (o.vars l s fr).2]/\Ext w w':=by
 obtain⟨bl,cap,rfl,hlen⟩:=aS.form;refine bL E.AK ?_;refine bG ?_;simp -dsimp only[c4,cF,Nat.reduceAdd,Nat.reduceEqDiff,reduceIte,reduceCtorEq,db];refine K.loop (fun S w' => ∃i:Nat,i<=l.length/\S 8 = .int .i64 i/\(∀j,j<i->o.err (max fr 0) (o.nameAt (·.name) l) (o.oL l s) j=0)/\Ext w w')
  (fun S _=>(l.length - intOf (S 8)).toNat) ⟨0,by omega,by simp -dsimp only[c4,cF,Nat.reduceAdd,Nat.reduceEqDiff,reduceIte,reduceCtorEq,db];rfl,fun _ h=>absurd h (Nat.not_lt_zero _),Ext.refl _⟩ ?_
 rintro S w' cg ⟨i,ad,dE,dF,he⟩;have ak:=cg 0 rfl;have h1:=cg 1 rfl;have U:=cg 2 rfl;simp only[cu,Nat.reduceAdd,Nat.reduceEqDiff,reduceIte,jg,me] at ak h1 U;clear cg;refine ch (zI ak (zI h1 (zI U dE))) ?_;apply K.cond<;>intro g1;rotate_left
 .refine ch (zI ak (zI h1 (zI U dE))) ?_;rw[o.vars,o.oj (fun j aR=>dF j (by omega))];exact⟨rfl,he⟩
 have cO:i<l.length:=by omega
 obtain⟨a,rfl⟩:=aS.addr (by omega);have ih:=bF.ext o.pD.ext he aS;have o4:=(ih.at i cO).cells 0 _ rfl;have dt:o.hR l[i].name:=(ih.at i cO).ok;have fI:o.nameAt (fun x:o.Var=>x.name) l i=l[i].name:=q6 _ _ _ cO;refine ch (zI ak (zI h1 (zI U dE))) ?_;apply K.cond<;>intro g2
 .refine ch (zI ak (zI h1 (zI U dE))) ?_;rw[o.vars,o.iB cO dF (by rw[xO (by omega)];decide),xO (by omega)];exact⟨rfl,he⟩
 have hm:¬(max fr 0:Int)<=(i:Int):=by omega
 refine ch (zI ak (zI h1 (zI U dE))) ?_;refine K.dp i rfl cO ?_;refine ch (zI ak (zI h1 (zI U dE))) ?_;refine K.ld o4 ?_;refine ch (zI ak (zI h1 (zI U dE))) ?_;refine K.call (Bh _ _ dt) ?_;rintro _ aU ⟨rfl,aA⟩;refine ch (zI ak (zI h1 (zI U dE))) ?_;refine K.du (fun g3=>?_) (fun g3=>?_);rotate_left
 .refine ch (zI ak (zI h1 (zI U dE))) ?_;rw[<-fI] at g3;rw[o.vars,o.iB cO dF (by rw[zT hm g3];decide),zT hm g3];exact⟨rfl,he.trans aA⟩
 have pQ:=g3;rw[<-fI] at pQ;replace aA:=he.trans aA;clear he ih;refine ch (zI ak (zI h1 (zI U dE))) ?_;refine K.loop (fun bh w' => ∃k:Nat,k<=i/\bh 9 = .int .i64 k/\(∀j,j<k->o.nameAt (fun x:o.Var=>x.name) l j≠o.nameAt (fun x:o.Var=>x.name) l i)/\Ext w w')
  (fun S _=>(i - intOf (S 9)).toNat) ⟨0,by omega,by simp -dsimp only[c4,cF,Nat.reduceAdd,Nat.reduceEqDiff,reduceIte,reduceCtorEq,db];rfl,fun _ h=>absurd h (Nat.not_lt_zero _),aA⟩ ?_
 rintro kt bb oo ⟨k,hk,iC,c5,ax⟩;have cz:=ak;have b9:=h1;have cn:=U;have WX:=dE;have ak:=oo 0 rfl;have h1:=oo 1 rfl;have U:=oo 2 rfl;have dE:=oo 8 rfl;simp only[cu,Nat.reduceAdd,Nat.reduceEqDiff,reduceIte,jg,me] at ak h1 U dE;clear oo;rw[cz] at ak;rw[b9] at h1;rw[cn] at U;rw[WX] at dE;have ih:=bF.ext o.pD.ext ax aS;have o4:=(ih.at i cO).cells 0 _ rfl;refine ch (zI ak (zI h1 (zI U (zI dE iC)))) ?_;apply K.cond<;>intro g4
 .have br:k<l.length:=by omega
  have kS:=(ih.at k br).cells 0 _ rfl;have lu:o.nameAt (fun x:o.Var=>x.name) l k=l[k].name:=q6 _ _ _ br;refine ch (zI ak (zI h1 (zI U (zI dE iC)))) ?_;refine K.dp k rfl br ?_;refine ch (zI ak (zI h1 (zI U (zI dE iC)))) ?_;refine K.ld kS ?_;refine ch (zI ak (zI h1 (zI U (zI dE iC)))) ?_;refine K.dp i rfl cO ?_;refine ch (zI ak (zI h1 (zI U (zI dE iC)))) ?_;refine K.ld o4 ?_;refine ch (zI ak (zI h1 (zI U (zI dE iC)))) ?_;intro bp aN;apply K.cond<;>intro g5
  .refine ch (zI ak (zI h1 (zI U (zI dE iC)))) ?_;have aL:=Kw (mo:=o.oL l s) hm pQ (show k<i by omega) (by rw[lu,fI];exact g5);rw[o.vars,o.iB cO dF (by rw[aL];decide),aL];exact⟨rfl,ax.trans aN⟩
  .refine ch (zI ak (zI h1 (zI U (zI dE iC)))) ?_;refine K.wrap (by omega) ?_;refine ch (zI ak (zI h1 (zI U (zI dE iC)))) ?_;refine⟨⟨k+1,by omega,rfl,fun j aR=>?_,ax.trans aN⟩,by simp[intOf];omega⟩;by_cases h2:j<k
   .exact c5 j h2
   .have:j=k:=by omega
    subst this;rw[lu,fI];exact g5
 have gQ:=Kv (mo:=o.oL l s) hm pQ (fun j aR=>c5 j (by omega));rw[amd l s i cO] at gQ;have yk:=bF.ext o.jb.ext ax ay;have lS:=(ih.at i cO).cells;generalize l[i]=x at lS gQ;refine ch (zI ak (zI h1 (zI U (zI dE iC)))) ?_;refine K.dp i rfl cO ?_;refine ch (zI ak (zI h1 (zI U (zI dE iC)))) ?_;refine K.jX lS rfl ?_;refine ch (zI ak (zI h1 (zI U (zI dE iC)))) ?_;refine K.call (aj1 x _ s _ yk) ?_;rintro _ bp ⟨rfl,aN⟩;replace aN:=ax.trans aN;refine ch (zI ak (zI h1 (zI U (zI dE iC)))) ?_;apply K.cond<;>intro g6;rotate_left
 .refine ch (zI ak (zI h1 (zI U (zI dE iC)))) ?_;rw[o.vars,o.iB cO dF (by rw[gQ];exact g6),gQ];exact⟨rfl,aN⟩
 .refine ch (zI ak (zI h1 (zI U (zI dE iC)))) ?_;rw[g6] at gQ;refine K.wrap (by omega) ?_;refine ch (zI ak (zI h1 (zI U (zI dE iC)))) ?_;refine⟨⟨i+1,by omega,rfl,fun j aR=>?_,aN⟩,by simp[intOf,WX];omega⟩;by_cases gX:j<i
  .exact dF j gX
  .have:j=i:=by omega
   subst this;exact gQ
end Go.Proofs.R
end
section
namespace Go.Proofs.R
open Go Go.RowKit bt
theorem ajS(v v2:Value)(l:List o.dv)(s:List o.Scalar)(w:World)(aS:o.mC w v l)(ay:o.hI w v2 s) :
  bu Tryz.prog F.Ee #[v,v2] w fun v w'=>v = .tuple #[.int .i64 (o.aM l s).1,.int .i64 (o.aM l s).2]/\Ext w w':=by
 obtain⟨bl,cap,rfl,hlen⟩:=aS.form;refine bL E.Ee ?_;refine bG ?_;refine a1 ?_;refine K.loop (fun S w' => ∃i:Nat,i<=l.length/\S 6 = .int .i64 i/\(∀j,j<i->o.err 4 (o.nameAt (·.name) l) (o.og l s) j=0)/\Ext w w')
  (fun S _=>(l.length - intOf (S 6)).toNat) ⟨0,by omega,by refine a1 ?_;rfl,fun _ h=>absurd h (Nat.not_lt_zero _),Ext.refl _⟩ ?_
 rintro S w' cg ⟨i,ad,bO,dF,he⟩;have ak:=cg 0 rfl;have h1:=cg 1 rfl;simp only[cu,Nat.reduceAdd,Nat.reduceEqDiff,reduceIte,jg,me] at ak h1;clear cg;have ky:=Wz (by omega) dF;simp -dsimp only[c4,cF,Nat.reduceAdd,Nat.reduceEqDiff,reduceIte,reduceCtorEq,db,ak,h1,bO];apply K.cond<;>intro g1;rotate_left
 .simp -dsimp only[c4,cF,Nat.reduceAdd,Nat.reduceEqDiff,reduceIte,reduceCtorEq,db,ak,h1,bO];rw[o.aM,o.oj (fun j aR=>dF j (by omega))];exact⟨rfl,he⟩
 have cO:i<l.length:=by omega
 obtain⟨a,rfl⟩:=aS.addr (by omega);have ih:=bF.ext o.pC.ext he aS;have o4:=(ih.at i cO).cells 0 _ rfl;have dt:o.hR l[i].name:=(ih.at i cO).ok;have fI:o.nameAt (fun x:o.dv=>x.name) l i=l[i].name:=q6 _ _ _ cO;simp -dsimp only[c4,cF,Nat.reduceAdd,Nat.reduceEqDiff,reduceIte,reduceCtorEq,db,ak,h1,bO];apply K.cond<;>intro g2
 .simp -dsimp only[c4,cF,Nat.reduceAdd,Nat.reduceEqDiff,reduceIte,reduceCtorEq,db,ak,h1,bO];rw[o.aM,o.iB cO dF (by rw[xO (by omega)];decide),xO (by omega)];exact⟨rfl,he⟩
 have hm:¬(4:Int)<=(i:Int):=by omega
 simp -dsimp only[c4,cF,Nat.reduceAdd,Nat.reduceEqDiff,reduceIte,reduceCtorEq,db,ak,h1,bO];refine K.dp i rfl cO ?_;simp -dsimp only[c4,cF,Nat.reduceAdd,Nat.reduceEqDiff,reduceIte,reduceCtorEq,db,ak,h1,bO];refine K.ld o4 ?_;simp -dsimp only[c4,cF,Nat.reduceAdd,Nat.reduceEqDiff,reduceIte,reduceCtorEq,db,ak,h1,bO];refine K.call (Bh _ _ dt) ?_;rintro _ aU ⟨rfl,aA⟩;simp -dsimp only[c4,cF,Nat.reduceAdd,Nat.reduceEqDiff,reduceIte,reduceCtorEq,db,ak,h1,bO];refine K.du (fun g3=>?_) (fun g3=>?_);rotate_left
 .simp -dsimp only[c4,cF,Nat.reduceAdd,Nat.reduceEqDiff,reduceIte,reduceCtorEq,db,ak,h1,bO];rw[<-fI] at g3;rw[o.aM,o.iB cO dF (by rw[zT hm g3];decide),zT hm g3];exact⟨rfl,he.trans aA⟩
 have pQ:=g3;rw[<-fI] at pQ;replace aA:=he.trans aA;clear he ih;simp -dsimp only[c4,cF,Nat.reduceAdd,Nat.reduceEqDiff,reduceIte,reduceCtorEq,db,ak,h1,bO];refine K.loop (fun bh w' => ∃k:Nat,k<=i/\bh 7 = .int .i64 k/\(∀j,j<k->o.nameAt (fun x:o.dv=>x.name) l j≠o.nameAt (fun x:o.dv=>x.name) l i)/\Ext w w')
  (fun S _=>(i - intOf (S 7)).toNat) ⟨0,by omega,by refine a1 ?_;rfl,fun _ h=>absurd h (Nat.not_lt_zero _),aA⟩ ?_
 rintro kt bb oo ⟨k,hk,cj,c5,ax⟩;have cz:=ak;have b9:=h1;have WW:=bO;have ak:=oo 0 rfl;have h1:=oo 1 rfl;have bO:=oo 6 rfl;simp only[cu,Nat.reduceAdd,Nat.reduceEqDiff,reduceIte,jg,me] at ak h1 bO;clear oo;rw[cz] at ak;rw[b9] at h1;rw[WW] at bO;have ih:=bF.ext o.pC.ext ax aS;have o4:=(ih.at i cO).cells 0 _ rfl;simp -dsimp only[c4,cF,Nat.reduceAdd,Nat.reduceEqDiff,reduceIte,reduceCtorEq,db,ak,h1,bO,cj];apply K.cond<;>intro g4
 .have br:k<l.length:=by omega
  have kS:=(ih.at k br).cells 0 _ rfl;have lu:o.nameAt (fun x:o.dv=>x.name) l k=l[k].name:=q6 _ _ _ br;simp -dsimp only[c4,cF,Nat.reduceAdd,Nat.reduceEqDiff,reduceIte,reduceCtorEq,db,ak,h1,bO,cj];refine K.dp k rfl br ?_;simp -dsimp only[c4,cF,Nat.reduceAdd,Nat.reduceEqDiff,reduceIte,reduceCtorEq,db,ak,h1,bO,cj];refine K.ld kS ?_;simp -dsimp only[c4,cF,Nat.reduceAdd,Nat.reduceEqDiff,reduceIte,reduceCtorEq,db,ak,h1,bO,cj];refine K.dp i rfl cO ?_;simp -dsimp only[c4,cF,Nat.reduceAdd,Nat.reduceEqDiff,reduceIte,reduceCtorEq,db,ak,h1,bO,cj];refine K.ld o4 ?_;simp -dsimp only[c4,cF,Nat.reduceAdd,Nat.reduceEqDiff,reduceIte,reduceCtorEq,db,ak,h1,bO,cj];intro bp aN;apply K.cond<;>intro g5
  .simp -dsimp only[c4,cF,Nat.reduceAdd,Nat.reduceEqDiff,reduceIte,reduceCtorEq,db,ak,h1,bO,cj];have aL:=Kw (mo:=o.og l s) hm pQ (show k<i by omega) (by rw[lu,fI];exact g5);rw[o.aM,o.iB cO dF (by rw[aL];decide),aL];exact⟨rfl,ax.trans aN⟩
  .simp -dsimp only[c4,cF,Nat.reduceAdd,Nat.reduceEqDiff,reduceIte,reduceCtorEq,db,ak,h1,bO,cj];refine K.wrap (by omega) ?_;simp -dsimp only[c4,cF,Nat.reduceAdd,Nat.reduceEqDiff,reduceIte,reduceCtorEq,db,ak,h1,bO,cj];refine⟨⟨k+1,by omega,rfl,fun j aR=>?_,ax.trans aN⟩,by simp[intOf];omega⟩;by_cases h2:j<k
   .exact c5 j h2
   .have:j=k:=by omega
    subst this;rw[lu,fI];exact g5
 have gQ:=Kv (mo:=o.og l s) hm pQ (fun j aR=>c5 j (by omega));have fh:o.og l s i=if o.there l[i].scalar s=false then 8 else if l[i].cap<1\/l[i].cap > 4\/(l[i].scalar=0/\o.narrow l[i].bf l[i].ad=false) then 10 else 0:=by simp[o.og,cO]
 rw[fh] at gQ;have yk:=bF.ext o.jb.ext ax ay;have c1:=(ih.at i cO).cells 1 _ rfl;have c2:=(ih.at i cO).cells 2 _ rfl;have bP:=(ih.at i cO).cells 3 _ rfl;have bX:=(ih.at i cO).cells 4 _ rfl;simp only[o.there,o.narrow,decide_eq_false_iff_not] at gQ;generalize l[i].scalar=xs at c1 gQ;generalize l[i].cap=apZ at c2 gQ;generalize l[i].bf=OE at bP gQ;generalize l[i].ad=OD at bX gQ;clear fh;have aG:∀w',Ext bb w'->bu Tryz.prog F.yy #[.int .i64 OE,.int .i64 OD] w' fun u b2=>u = .bool (o.narrow OE OD)/\Ext w' b2:=fun w' he =>
  (Yj OE OD w').mono fun v b2 h=>⟨h.1,h.2 ▸ Ext.refl _⟩
 simp -dsimp only[c4,cF,Nat.reduceAdd,Nat.reduceEqDiff,reduceIte,reduceCtorEq,db,ak,h1,bO,cj]
 (repeat' first
  | (refine K.cond (fun _=>?_) (fun _=>?_)<;>try (exfalso;omega))
  | (refine K.du (fun _=>?_) (fun _=>?_))
  | (refine K.dp i rfl cO ?_)
  | (refine K.ld (by assumption) ?_)
  | (refine K.call (Bd _ _ s _ yk) ?_;rintro _ bb ⟨rfl,rfl⟩)
  | (refine K.gB _ aG ?_)
  | simp -dsimp only[c4,cF,Nat.reduceAdd,Nat.reduceEqDiff,reduceIte,reduceCtorEq,db,ak,h1,bO,cj]
  | (intro bp aN;replace aN:=ax.trans aN))
 all_goals first
  | (rw[if_pos (by omega)] at gQ
     rw[o.aM,o.iB cO dF (by rw[gQ];decide),gQ];exact⟨rfl,by assumption⟩)
  | (rw[if_neg (by omega),if_pos (by omega)] at gQ
     rw[o.aM,o.iB cO dF (by rw[gQ];decide),gQ];exact⟨rfl,by assumption⟩)
  | (rw[if_neg (by omega),if_neg (by omega)] at gQ
     refine K.wrap (by omega) ?_;simp -dsimp only[c4,cF,Nat.reduceAdd,Nat.reduceEqDiff,reduceIte,reduceCtorEq,db,ak,h1,bO,cj];refine⟨⟨i+1,by omega,rfl,fun j aR=>?_,by assumption⟩,by simp[intOf,WW];omega⟩;by_cases gX:j<i
     .exact dF j gX
     .have:j=i:=by omega
      subst this;exact gQ)
end Go.Proofs.R
end
section
namespace o
theorem ZY(m:Model)(i:Nat):tE m 2 i=q5 m i:=by
 have bU:cP 1 2 i m.vars.length=min m.vars.length i:=by unfold cP;rw[if_pos (by decide),if_neg (by decide)];simp
 have a6:cP 2 2 i m.aM.length=0:=by unfold cP;rw[if_neg (by decide)]
 have bK:cP 3 2 i m.procs.length=0:=by unfold cP;rw[if_neg (by decide)]
 have b0:hs 2 i m.props.length=0:=by unfold hs;rw[if_neg (by decide)]
 unfold tE;rw[bU,a6,bK,b0];simp only[q5,EO,yH,List.take_zero,List.map_nil,List.append_nil];rw[Nat.min_comm,<-List.take_take];simp only[List.take_length]
theorem ZW(m:Model)(i:Nat):tE m 3 i=mw m i:=by
 have bU:cP 1 3 i m.vars.length=m.vars.length:=by unfold cP;rw[if_pos (by decide),if_pos (by decide)]
 have a6:cP 2 3 i m.aM.length=min m.aM.length i:=by unfold cP;rw[if_pos (by decide),if_neg (by decide)];simp
 have bK:cP 3 3 i m.procs.length=0:=by unfold cP;rw[if_neg (by decide)]
 have b0:hs 3 i m.props.length=0:=by unfold hs;rw[if_neg (by decide)]
 unfold tE;rw[bU,a6,bK,b0];simp only[mw,q5,EO,yH,yG,List.take_zero,List.map_nil,List.append_nil];rw[Nat.min_comm,<-List.take_take];simp only[List.take_length]
theorem ZX(m:Model)(i:Nat):tE m 4 i=im m i:=by
 have bU:cP 1 4 i m.vars.length=m.vars.length:=by unfold cP;rw[if_pos (by decide),if_pos (by decide)]
 have a6:cP 2 4 i m.aM.length=m.aM.length:=by unfold cP;rw[if_pos (by decide),if_pos (by decide)]
 have bK:cP 3 4 i m.procs.length=min m.procs.length i:=by unfold cP;rw[if_pos (by decide),if_neg (by decide)];simp
 have b0:hs 4 i m.props.length=0:=by unfold hs;rw[if_neg (by decide)]
 unfold tE;rw[bU,a6,bK,b0];simp only[im,mw,q5,EO,yH,yG,wJ,List.take_zero,List.map_nil,List.append_nil];rw[Nat.min_comm,<-List.take_take];simp only[List.take_length]
theorem RK(m:Model)(i:Nat):tE m 5 i=q4 m i:=by
 have bU:cP 1 5 i m.vars.length=m.vars.length:=by unfold cP;rw[if_pos (by decide),if_pos (by decide)]
 have a6:cP 2 5 i m.aM.length=m.aM.length:=by unfold cP;rw[if_pos (by decide),if_pos (by decide)]
 have bK:cP 3 5 i m.procs.length=m.procs.length:=by unfold cP;rw[if_pos (by decide),if_pos (by decide)]
 have b0:hs 5 i m.props.length=min m.props.length i:=by unfold hs;rw[if_pos (by decide)];simp
 unfold tE;rw[bU,a6,bK,b0];simp only[q4,im,mw,q5,EO,yH,yG,wJ,MZ];rw[Nat.min_comm,<-List.take_take];simp only[List.take_length]
theorem va(q p i:Int)(len:Nat):cP q p i len<=len:=by unfold cP; (repeat' split)<;>omega
end o
namespace Go.Proofs.R
open Go Go.RowKit bt
def vU(f:o.rq):Value:=.agg #[.int .i64 f.cX,.int .i64 f.part,.int .i64 f.item,.int .i64 f.sub]
theorem ajT(cs:List Value)(m:o.Model)(w:World)(h:o.ec w cs m) :
  bu Tryz.prog F.Es #[.agg cs.toArray] w fun v w'=>v=vU (o.data m)/\Ext w w':=by
 have bq:=h;obtain⟨cz,bS,b9,c1,cn,c2,cp,bP,cA,bX,rfl,ak,h1,U,ag,aJ,eI,ej,eo,dX,ep⟩:=h.form;refine bL E.Es ?_;refine bG ?_;refine aa ?_;intro av bC cR aB ao;refine aa ?_;intro aU cr dQ aA aP;replace ao:=aA.obj ao;have a6:=aB.trans aA;have gh:=cH ao;have z2:=aB.size;refine aa ?_;refine K.call (ajZ _ m.scalars aU (ak.ext a6)) ?_;rintro _ bb ⟨rfl,ax⟩;replace ao:=ax.obj ao;replace aP:=ax.obj aP;have bK:=a6.trans ax;clear a6;refine aa ?_;apply K.cond<;>intro g1;rotate_left
 .have bw:=o.Sk g1;refine aa ?_;intro bp ey bA;refine aa ?_;exact⟨by rw[bw];rfl,ey.ext bK (by omega)⟩
 have cg:(o.scalars m.scalars).2=0:=by simpa using g1
 have oo:=o.X5 cg;have vZ:=ao;have x5:=aP;refine aa ?_;refine K.dj 5 m.vars.length [1,2] (fun _:Unit=>[]) () (fun k _ w'=>Ext bb w'/\∀j,j<k->o.iN m j=0) bx bx ⟨Ext.refl _,fun j h=>absurd h (Nat.not_lt_zero _)⟩ ?_;clear ao aP;rintro k _ S bp hk ⟨aN,bQ⟩;have ao:=aN.obj vZ;have aP:=aN.obj x5;have b0:=bK.trans aN;refine aa ?_;apply K.cond<;>intro g2
 .have br:k<m.vars.length:=by omega
  have hZ:=(bF.len h1).2;have Ld:=hZ.2;unfold maxLen at Ld;obtain⟨a,rfl⟩:=h1.addr (by omega);have fI:=o.A0 (f:=fun x:o.Var=>x.name) br;have en:=((h1.at k br).cells).ext b0;have Ms:∀j,j<k->o.nm m j=0:=fun j aR=>o.I0 (bQ j aR);refine aa ?_;refine K.tm (k:=.i64) (k+1) (by simp[ft,cu]) (by omega) ?_;refine aa ?_;refine K.gB (.tuple #[.int .i64 (o.vars (m.vars.take (k+1)) m.scalars 12).1,.int .i64 (o.vars (m.vars.take (k+1)) m.scalars 12).2]) (fun w' e=>XC _ _ (m.vars.take (k+1)) m.scalars 12 w' ((h1.head (k+1) (by omega)).ext o.pD.ext (b0.trans e)) (ak.ext (b0.trans e))) ?_;refine aa ?_;intro bR aW;replace ao:=aW.obj ao;replace aP:=aW.obj aP;replace en:=en.ext aW;have b3:=b0.trans aW;rw[o.ami br Ms];refine aa ?_;apply K.cond<;>intro g3;rotate_left
  .have kf:o.iN m k=o.nm m k:=by unfold o.iN;rw[if_pos g3]
   have bw:=o.GF cg br bQ (by rw[kf];exact g3);rw[kf] at bw;refine aa ?_;intro bY fZ ct;refine aa ?_;exact⟨by rw[bw];rfl,fZ.ext b3 (by omega)⟩
  have iF:o.nm m k=0:=by simpa using g3
  have aol:k<12:=by
   apply Classical.byContradiction;intro aD;have h:=iF;unfold o.nm o.err at h;rw[if_pos (by omega)] at h;cases h
  refine aa ?_;intro bY a8;replace ao:=a8.obj ao;replace aP:=a8.obj aP;refine aa ?_;refine K.call (BZ _ m 2 k bY (bq.ext (b3.trans a8)) (by omega) (by omega) (by
   have dH:o.cP 1 2 k m.vars.length<=k:=by unfold o.cP; (repeat' split)<;>omega
   have dM:o.cP 2 2 k m.aM.length=0:=by unfold o.cP;rw[if_neg (by decide)]
   have eh:o.cP 3 2 k m.procs.length=0:=by unfold o.cP;rw[if_neg (by decide)]
   have hc:o.hs 2 k m.props.length=0:=by unfold o.hs;rw[if_neg (by decide)]
   omega)) ?_
  rintro _ cd ⟨⟨v,rfl,gj⟩,bJ⟩;refine⟨bJ,?_⟩;rw[o.ZY] at gj;refine aa ?_;refine K.call (C2 v _ m.vars[k].name _ cd gj) ?_;rintro _ np ⟨rfl,rfl⟩;replace ao:=bJ.obj ao;replace aP:=bJ.obj aP;have Uq:=a8.trans bJ;have dw:=b3.trans Uq;refine aa ?_;apply K.cond<;>intro g4
  .have kf:o.iN m k=7:=by unfold o.iN;rw[if_neg (by simpa using iF),fI,if_pos g4]
   have bw:=o.GF cg br bQ (by rw[kf];decide);rw[kf] at bw;refine aa ?_;intro dg iG cK;refine aa ?_;exact⟨by rw[bw];rfl,iG.ext dw (by omega)⟩
  .refine aa ?_;refine⟨br,bk,(),trivial,(aN.trans aW).trans Uq,fun j aR=>?_⟩;by_cases h2:j=k
   .subst h2;unfold o.iN;rw[if_neg (by simpa using iF),fI,if_neg g4]
   .exact bQ j (by omega)
 have mV:∀j,j<m.vars.length->o.iN m j=0:=fun j aR=>bQ j (by omega);have anI:m.vars.length<=12:=by
  apply Classical.byContradiction;intro aD
  have:=o.SQ (mV 12 (by omega))
  omega
 clear ao aP;refine aa ?_;refine K.dj 8 m.aM.length [1,2] (fun _:Unit=>[]) () (fun k _ w'=>Ext bb w'/\∀j,j<k->o.jQ m j=0) bx bx ⟨aN,fun j h=>absurd h (Nat.not_lt_zero _)⟩ ?_;clear b0;rintro k _ bh bR hk ⟨aW,bQ⟩;have ao:=aW.obj vZ;have aP:=aW.obj x5;have b0:=bK.trans aW;refine aa ?_;apply K.cond<;>intro g2
 .have br:k<m.aM.length:=by omega
  have hZ:=(bF.len U).2;have Ld:=hZ.2;unfold maxLen at Ld;obtain⟨a,rfl⟩:=U.addr (by omega);have fI:=o.A0 (f:=fun x:o.dv=>x.name) br;have en:=((U.at k br).cells).ext b0;have Ms:∀j,j<k->o.mT m j=0:=fun j aR=>o.Gu (bQ j aR);refine aa ?_;refine K.tm (k:=.i64) (k+1) (by simp[ft,cu]) (by omega) ?_;refine aa ?_;refine K.gB (.tuple #[.int .i64 (o.aM (m.aM.take (k+1)) m.scalars).1,.int .i64 (o.aM (m.aM.take (k+1)) m.scalars).2]) (fun w' e=>ajS _ _ (m.aM.take (k+1)) m.scalars w' ((U.head (k+1) (by omega)).ext o.pC.ext (b0.trans e)) (ak.ext (b0.trans e))) ?_;refine aa ?_;intro bY a8;replace ao:=a8.obj ao;replace aP:=a8.obj aP;replace en:=en.ext a8;have b3:=b0.trans a8;rw[o.abi br Ms];refine aa ?_;apply K.cond<;>intro g3;rotate_left
  .have kf:o.jQ m k=o.mT m k:=by unfold o.jQ;rw[if_pos g3]
   have bw:=o.GC cg mV br bQ (by rw[kf];exact g3);rw[kf] at bw;refine aa ?_;intro bY fZ ct;refine aa ?_;exact⟨by rw[bw];rfl,fZ.ext b3 (by omega)⟩
  have iF:o.mT m k=0:=by simpa using g3
  have aom:k<4:=by
   apply Classical.byContradiction;intro aD;have h:=iF;unfold o.mT o.err at h;rw[if_pos (by omega)] at h;cases h
  refine aa ?_;intro cd bJ;replace ao:=bJ.obj ao;replace aP:=bJ.obj aP;refine aa ?_;refine K.call (BZ _ m 3 k cd (bq.ext (b3.trans bJ)) (by omega) (by omega) (by
   have dH:=o.va 1 3 k m.vars.length;have dM:o.cP 2 3 k m.aM.length<=k:=by unfold o.cP; (repeat' split)<;>omega
   have eh:o.cP 3 3 k m.procs.length=0:=by unfold o.cP;rw[if_neg (by decide)]
   have hc:o.hs 3 k m.props.length=0:=by unfold o.hs;rw[if_neg (by decide)]
   omega)) ?_
  rintro _ dg ⟨⟨v,rfl,gj⟩,bV⟩;refine⟨bV,?_⟩;rw[o.ZW] at gj;refine aa ?_;refine K.call (C2 v _ m.aM[k].name _ dg gj) ?_;rintro _ np ⟨rfl,rfl⟩;replace ao:=bV.obj ao;replace aP:=bV.obj aP;have uk:=bJ.trans bV;have dw:=b3.trans uk;refine aa ?_;apply K.cond<;>intro g4
  .have kf:o.jQ m k=7:=by unfold o.jQ;rw[if_neg (by simpa using iF),fI,if_pos g4]
   have bw:=o.GC cg mV br bQ (by rw[kf];decide);rw[kf] at bw;refine aa ?_;intro dg iG cK;refine aa ?_;exact⟨by rw[bw];rfl,iG.ext dw (by omega)⟩
  .refine aa ?_;refine⟨br,bk,(),trivial,(aW.trans a8).trans uk,fun j aR=>?_⟩;by_cases h2:j=k
   .subst h2;unfold o.jQ;rw[if_neg (by simpa using iF),fI,if_neg g4]
   .exact bQ j (by omega)
 have bw:=o.Si cg mV fun j aR=>bQ j (by omega);refine aa ?_;intro bY fZ ct;refine aa ?_;exact⟨by rw[bw];rfl,fZ.ext b0 (by omega)⟩
end Go.Proofs.R
end
section
namespace o
structure tx(m:Model):Prop where
 v:m.vars.length<=1000000
 c:m.aM.length<=1000000
 p:m.procs.length<=1000000
 i:∀p∈m.procs,p.vars.length<=1000000/\p.cI.length<=1000000
def c1(m:Model)(k:Nat):Int:=h7 ((m.vars.take k).map fun v=>cells v m.scalars)
def c2(m:Model)(k:Nat):Int:=h7 ((m.aM.take k).map pL)
def i1(m:Model)(k:Nat):Int:=h7 ((m.procs.take k).map (kn m))
def i2(m:Model)(k:Nat):Int:=h7 ((m.procs.take k).map fun p=>kn m p*p.cI.length)
def i3(m:Model)(k:Nat):Int:=h7 ((m.procs.take k).map fun p=>kn m p*(1+p.vars.length))
theorem WD{α:Type}{l:List α}{k:Nat}{x:α}(h:x∈l.take k):x∈l:=List.mem_of_mem_take h
theorem zC{m:Model}(h:tx m)(k:Nat):0<=c1 m k/\c1 m k<=4000000:=by
 have:=Fj (fun v=>cells v m.scalars) 4 (by decide) (m.vars.take k) fun v _=>tJ v _
 have h1:=h.v;have U:(m.vars.take k).length<=m.vars.length:=by simp;omega
 unfold c1;omega
theorem Gm{m:Model}(h:tx m)(k:Nat):0<=c2 m k/\c2 m k<=5000000:=by
 have:=Fj pL 5 (by decide) (m.aM.take k) fun c _=>by have:=JX c;omega
 have h1:=h.c;have U:(m.aM.take k).length<=m.aM.length:=by simp;omega
 unfold c2;omega
theorem Vs{m:Model}(h:tx m)(k:Nat):0<=i1 m k/\i1 m k<=4000000:=by
 have:=Fj (kn m) 4 (by decide) (m.procs.take k) fun p _=>ET m p
 have h1:=h.p;have U:(m.procs.take k).length<=m.procs.length:=by simp;omega
 unfold i1;omega
theorem AZ{a b:Int}(bo:0<=a/\a<=4)(aC:0<=b/\b<=1000001):0<=a*b/\a*b<=4000004:=by
 have:a=0\/a=1\/a=2\/a=3\/a=4:=by omega
 rcases this with rfl | rfl | rfl | rfl | rfl<;>omega
theorem Vu{m:Model}(h:tx m)(k:Nat):0<=i2 m k/\i2 m k<=4000004000000:=by
 have:=Fj (fun p=>kn m p*p.cI.length) 4000004 (by decide) (m.procs.take k) fun p aO=>AZ (ET m p) (by have:=(h.i p (WD aO)).2;omega)
 have h1:=h.p;have U:(m.procs.take k).length<=m.procs.length:=by simp;omega
 unfold i2;omega
theorem Vw{m:Model}(h:tx m)(k:Nat):0<=i3 m k/\i3 m k<=4000004000000:=by
 have:=Fj (fun p=>kn m p*(1+p.vars.length)) 4000004 (by decide) (m.procs.take k) fun p aO=>AZ (ET m p) (by have:=(h.i p (WD aO)).1;omega)
 have h1:=h.p;have U:(m.procs.take k).length<=m.procs.length:=by simp;omega
 unfold i3;omega
theorem RW{m:Model}{k:Nat}(h:k<m.vars.length):c1 m (k+1)=c1 m k+cells m.vars[k] m.scalars:=Fk _ _ h
theorem RX{m:Model}{k:Nat}(h:k<m.aM.length):c2 m (k+1)=c2 m k+pL m.aM[k]:=Fk _ _ h
theorem Vt{m:Model}{k:Nat}(h:k<m.procs.length):i1 m (k+1)=i1 m k+kn m m.procs[k]:=Fk _ _ h
theorem Vv{m:Model}{k:Nat}(h:k<m.procs.length):i2 m (k+1)=i2 m k+kn m m.procs[k]*m.procs[k].cI.length:=Fk _ _ h
theorem Vx{m:Model}{k:Nat}(h:k<m.procs.length):i3 m (k+1)=i3 m k+kn m m.procs[k]*(1+m.procs[k].vars.length):=Fk _ _ h
theorem W8(m:Model){a b c:Nat}(bo:m.vars.length<=a)(aC:m.aM.length<=b)(aw:m.procs.length<=c):pieces m=(i1 m c,i2 m c,c1 m a+c2 m b+i3 m c):=by
 unfold pieces i1 i2 i3 c1 c2;rw[List.take_of_length_le bo,List.take_of_length_le aC,List.take_of_length_le aw]
end o
namespace Go.Proofs.R
open Go Go.RowKit bt
theorem ai7(cs:List Value)(m:o.Model)(w:World)(h:o.ec w cs m)(aK:o.tx m) :
  bu Tryz.prog F.tI #[.agg cs.toArray] w fun v w'=>v = .tuple #[.int .i64 (o.pieces m).1,.int .i64 (o.pieces m).2.1,.int .i64 (o.pieces m).2.2]/\Ext w w':=by
 obtain⟨cz,bS,b9,c1,cn,c2,cp,bP,cA,bX,rfl,ak,h1,U,ag,aJ,eI,ej,eo,dX,ep⟩:=h.form;refine bL E.tI ?_;refine bG ?_;refine aa ?_;intro av bC cR aB ao;have sS:=ao;clear ao;refine aa ?_;refine K.dj 18 m.vars.length [1,5,6,16,17] (fun s:Int=>[(7,.int .i64 s)]) 0 (fun k s w'=>Ext av w'/\s=o.c1 m k) bx bx ⟨Ext.refl _,by simp[o.c1,o.h7]⟩ ?_;rintro k _ S aU hk ⟨aA,rfl⟩;have ao:=aA.obj sS;have c9:∀{w'},Ext aU w'->Ext w w':=fun e=>(aB.trans aA).trans e;refine aa ?_;apply K.cond<;>intro g1
 .have br:k<m.vars.length:=by omega
  obtain⟨a,rfl⟩:=h1.addr (by omega);have en:=((h1.at k br).cells).ext (c9 (Ext.refl _));refine aa ?_;intro bb b5 fo ax bz;replace ao:=ax.obj ao;refine aa ?_;refine K.call (Gt m.vars[k] _ m.scalars bb (ak.ext (c9 ax))) ?_;rintro _ bp ⟨rfl,aN⟩;have dH:=o.zC aK k;have dM:=o.tJ m.vars[k] m.scalars;refine aa ?_;exact⟨br,bk,_,bx,(aA.trans ax).trans aN,(o.RW br).symm⟩
 have lT:m.vars.length<=k:=by omega
 refine aa ?_;refine K.dj 32 m.aM.length [1,5,6,30,31] (fun s:Int=>[(7,.int .i64 s)]) (o.c1 m k) (fun j s w'=>Ext av w'/\s=o.c1 m k+o.c2 m j) bx bx ⟨aA,by simp[o.c2,o.h7]⟩ ?_;clear ao c9;rintro j _ bh bb aR ⟨ax,rfl⟩;have ao:=ax.obj sS;have fj:∀{w'},Ext bb w'->Ext w w':=fun e=>(aB.trans ax).trans e;refine aa ?_;apply K.cond<;>intro g2
 .have eP:j<m.aM.length:=by omega
  obtain⟨a,rfl⟩:=U.addr (by omega);have en:=((U.at j eP).cells).ext (fj (Ext.refl _));refine aa ?_;intro bp b5 fo aN bz;have dH:=o.zC aK k;have dM:=o.Gm aK j;have eh:=o.JX m.aM[j];unfold o.pL at eh;refine aa ?_;exact⟨eP,bk,_,bx,ax.trans aN,by rw[o.RX eP];unfold o.pL;omega⟩
 have LQ:m.aM.length<=j:=by omega
 refine aa ?_;refine K.dj 47 m.procs.length [1,45,46] (fun s:Int×Int×Int=>[(5,.int .i64 s.1),(6,.int .i64 s.2.1),(7,.int .i64 s.2.2)]) (0,0,o.c1 m k+o.c2 m j)
  (fun i s w'=>Ext av w'/\s=(o.i1 m i,o.i2 m i,o.c1 m k+o.c2 m j+o.i3 m i)) bx bx ⟨ax,by simp[o.i1,o.i2,o.i3,o.h7]⟩ ?_
 clear ao fj;rintro i _ fu bp ad ⟨aN,rfl⟩;have ao:=aN.obj sS;have et:∀{w'},Ext bp w'->Ext w w':=fun e=>(aB.trans aN).trans e;refine aa ?_;apply K.cond<;>intro g3
 .have cO:i<m.procs.length:=by omega
  obtain⟨a,rfl⟩:=ag.addr (by omega);obtain⟨_,cE,dT,aO,eR,dL⟩:=ag.at i cO;obtain⟨e1,fv,rfl,ga⟩:=eR.form;obtain⟨oE,oe,rfl,lc⟩:=dL.form;replace aO:=aO.ext (et (Ext.refl _));have LF:=aK.i _ (List.getElem_mem cO);refine aa ?_;intro bR b5 fo aW bz;replace ao:=aW.obj ao;refine aa ?_;refine K.call (Gt ⟨⟨#[]⟩,0,m.procs[i].over,0,0,0⟩ _ m.scalars bR (ak.ext (et aW))) ?_;rintro _ bY ⟨rfl,a8⟩;have afO:o.cells ⟨⟨#[]⟩,0,m.procs[i].over,0,0,0⟩ m.scalars=o.kn m m.procs[i]:=rfl;rw[afO];replace bz:=a8.obj bz;have dH:=o.zC aK k;have dM:=o.Gm aK j;have eh:=o.Vs aK i;have hc:=o.Vu aK i;have qd:=o.Vw aK i;have sa:=o.ET m m.procs[i];have Nr:=o.AZ sa (b:=m.procs[i].cI.length) (by omega);have A8:=o.AZ sa (b:=1+m.procs[i].vars.length) (by omega);refine aa ?_;exact⟨cO,bk,(_,_,_),(by first | exact⟨rfl,rfl,rfl,trivial⟩ | exact⟨rfl,rfl,trivial⟩ | (simp -dsimp only[c4,u5,u4,uI,uH,ud,uc,Nat.reduceAdd,Nat.reduceEqDiff,reduceIte,and_self];exact⟨rfl,rfl,rfl,trivial⟩) | (simp -dsimp only[c4,u5,u4,uI,uH,ud,uc,Nat.reduceAdd,Nat.reduceEqDiff,reduceIte,and_self];exact⟨rfl,rfl,trivial⟩)),(aN.trans aW).trans a8,by rw[o.Vt cO,o.Vv cO,o.Vx cO];exact Prod.ext rfl (Prod.ext rfl (Int.add_assoc _ _ _))⟩
 have ov:m.procs.length<=i:=by omega
 refine aa ?_;exact⟨by rw[o.W8 m lT LQ ov],et (Ext.refl _)⟩
theorem agO(cs:List Value)(m:o.Model)(p:o.dz)(cE dT:Value)(w:World)(h:o.ec w cs m) :
  bu Tryz.prog F.Eo #[.agg cs.toArray,.agg (p.enc cE dT).toArray] w fun v w'=>v = .int .i64 (o.kn m p)/\Ext w w':=by
 obtain⟨cz,bS,b9,c1,cn,c2,cp,bP,cA,bX,rfl,ak,_⟩:=h.form;refine bL E.Eo ?_;refine bG ?_;refine aa ?_;intro av bC cR aB ao;refine aa ?_;intro aU cr dQ aA aP;refine aa ?_;refine K.cond (fun g=>?_) (fun g=>?_)
 .refine aa ?_;exact⟨by rw[o.kn,if_pos g],aB.trans aA⟩
 refine aa ?_;refine K.call (Bd p.over _ m.scalars aU (ak.ext (aB.trans aA))) ?_;rintro _ _ ⟨rfl,rfl⟩;refine aa ?_;exact⟨by rw[o.kn,if_neg g],aB.trans aA⟩
theorem ajW(cs:List Value)(m:o.Model)(w:World)(h:o.ec w cs m)(aK:o.tx m) :
  bu Tryz.prog F.Er #[.agg cs.toArray] w fun v w'=>v = .tuple #[.int .i64 (o.pieces m).1,.int .i64 (o.pieces m).2.1,.int .i64 (o.pieces m).2.2]/\Ext w w':=by
 have bq:=h;obtain⟨cz,bS,b9,c1,cn,c2,cp,bP,cA,bX,rfl,ak,h1,U,ag,aJ,eI,ej,eo,dX,ep⟩:=h.form;refine bL E.Er ?_;refine bG ?_;refine aa ?_;intro av bC cR aB ao;have sS:=ao;clear ao;refine aa ?_;refine K.dj 8 m.vars.length [1,5,6] (fun s:Int=>[(7,.int .i64 s)]) 0 (fun k s w'=>Ext av w'/\s=o.c1 m k) bx bx ⟨Ext.refl _,by simp[o.c1,o.h7]⟩ ?_;rintro k _ S aU hk ⟨aA,rfl⟩;have ao:=aA.obj sS;have c9:∀{w'},Ext aU w'->Ext w w':=fun e=>(aB.trans aA).trans e;refine aa ?_;apply K.cond<;>intro g1
 .have br:k<m.vars.length:=by omega
  obtain⟨a,rfl⟩:=h1.addr (by omega);have en:=((h1.at k br).cells).ext (c9 (Ext.refl _));have dH:=o.zC aK k;have dM:=o.tJ m.vars[k] m.scalars;refine aa ?_;refine K.gB (.int .i64 (o.cells m.vars[k] m.scalars)) (fun w' e=>NJ m.vars[k] _ m.scalars w' (ak.ext (c9 e))) ?_;refine aa ?_;intro bp aN;refine aa ?_;exact⟨br,bk,_,bx,aA.trans aN,(o.RW br).symm⟩
 have lT:m.vars.length<=k:=by omega
 refine aa ?_;refine K.dj 9 m.aM.length [1,5,6] (fun s:Int=>[(7,.int .i64 s)]) (o.c1 m k) (fun j s w'=>Ext av w'/\s=o.c1 m k+o.c2 m j) bx bx ⟨aA,by simp[o.c2,o.h7]⟩ ?_;clear ao c9;rintro j _ bh bb aR ⟨ax,rfl⟩;have ao:=ax.obj sS;have fj:∀{w'},Ext bb w'->Ext w w':=fun e=>(aB.trans ax).trans e;refine aa ?_;apply K.cond<;>intro g2
 .have eP:j<m.aM.length:=by omega
  obtain⟨a,rfl⟩:=U.addr (by omega);have en:=((U.at j eP).cells).ext (fj (Ext.refl _));have dH:=o.zC aK k;have dM:=o.Gm aK j;have eh:=o.JX m.aM[j];unfold o.pL at eh;refine aa ?_;exact⟨eP,bk,_,bx,ax,by rw[o.RX eP];unfold o.pL;omega⟩
 have LQ:m.aM.length<=j:=by omega
 refine aa ?_;refine K.dj 10 m.procs.length [1] (fun s:Int×Int×Int=>[(5,.int .i64 s.1),(6,.int .i64 s.2.1),(7,.int .i64 s.2.2)]) (0,0,o.c1 m k+o.c2 m j)
  (fun i s w'=>Ext av w'/\s=(o.i1 m i,o.i2 m i,o.c1 m k+o.c2 m j+o.i3 m i)) bx bx ⟨ax,by simp[o.i1,o.i2,o.i3,o.h7]⟩ ?_
 clear ao fj;rintro i _ fu bp ad ⟨aN,rfl⟩;have ao:=aN.obj sS;have et:∀{w'},Ext bp w'->Ext w w':=fun e=>(aB.trans aN).trans e;refine aa ?_;apply K.cond<;>intro g3
 .have cO:i<m.procs.length:=by omega
  obtain⟨a,rfl⟩:=ag.addr (by omega);obtain⟨_,cE,dT,aO,eR,dL⟩:=ag.at i cO;obtain⟨e1,fv,rfl,ga⟩:=eR.form;obtain⟨oE,oe,rfl,lc⟩:=dL.form;replace aO:=aO.ext (et (Ext.refl _));have LF:=aK.i _ (List.getElem_mem cO);refine aa ?_;refine K.gB (.int .i64 (o.kn m m.procs[i])) (fun w' e=>agO _ m m.procs[i] _ _ w' (bq.ext (et e))) ?_;refine aa ?_;intro bY a8;replace ao:=a8.obj ao;replace aO:=aO.ext a8;have dH:=o.zC aK k;have dM:=o.Gm aK j;have eh:=o.Vs aK i;have hc:=o.Vu aK i;have qd:=o.Vw aK i;have sa:=o.ET m m.procs[i];have Nr:=o.AZ sa (b:=m.procs[i].cI.length) (by omega);have A8:=o.AZ sa (b:=1+m.procs[i].vars.length) (by omega);refine aa ?_;exact⟨cO,bk,(_,_,_),(by first | exact⟨rfl,rfl,rfl,trivial⟩ | exact⟨rfl,rfl,trivial⟩ | (simp -dsimp only[c4,u5,u4,uI,uH,ud,uc,Nat.reduceAdd,Nat.reduceEqDiff,reduceIte,and_self];exact⟨rfl,rfl,rfl,trivial⟩) | (simp -dsimp only[c4,u5,u4,uI,uH,ud,uc,Nat.reduceAdd,Nat.reduceEqDiff,reduceIte,and_self];exact⟨rfl,rfl,trivial⟩)),aN.trans a8,by rw[o.Vt cO,o.Vv cO,o.Vx cO];exact Prod.ext rfl (Prod.ext rfl (Int.add_assoc _ _ _))⟩
 have ov:m.procs.length<=i:=by omega
 refine aa ?_;exact⟨by rw[o.W8 m lT LQ ov],et (Ext.refl _)⟩
end Go.Proofs.R
end
section
namespace o
structure amN(m:Model):Prop where
 s:m.scalars.length<=10
 v:m.vars.length<=30
 c:m.aM.length<=20
 p:m.procs.length<=20
 q:m.props.length<=20
 i:∀p∈m.procs,p.vars.length<=20/\p.cI.length<=30/\∀c∈p.cI,c.cb.length<=20/\c.guard.length<=60
end o
end