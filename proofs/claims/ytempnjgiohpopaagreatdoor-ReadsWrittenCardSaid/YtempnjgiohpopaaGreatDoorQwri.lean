/- Texts joined: DeclD DeclA DeclR DeclS DeclU DeclV DeclW ModI ModB ModC ProcC ProcD. -/
import Derived.Test.YtempnjgiohpopaaGreatDoorQwrd
import Derived.Test.YtempnjgiohpopaaGreatDoorQwrh
set_option linter.all false
set_option maxRecDepth 100000
set_option maxHeartbeats 16000000
section
set_option linter.unusedSimpArgs false
namespace Go.Proofs.R
open Go Go.RowKit bt
theorem pK{α:Type}(f:α→ByteArray)(l:List α)(i:Nat)(h:i<l.length):o.nameAt f l i=f l[i]:=by simp[o.nameAt,h]
theorem afg(i:Nat)(b:Nat)(v:Value)(l:List o.Scalar)(w:World)(aQ:o.fY w v l)(aD:w.cell? ⟨b,0,none⟩=some v)(ad:i<l.length) :
  bq Tryz.prog F.xY #[.int .i64 i,.pointer (some ⟨b,0,none⟩)] w fun v w'=>v = .string (o.nameAt (·.name) l i)∧Ext w w':=by
 obtain⟨bh,cap,rfl,hlen⟩:=aQ.form;refine bI E.xY ?_;refine bF ?_;refine aS ?_;refine K.ld aD ?_;refine aS ?_;obtain⟨a,rfl⟩:=aQ.addr (by omega);have av:=(aQ.at i ad).cells 0 _ rfl;refine K.dr i rfl ad ?_;refine aS ?_;refine K.ld av ?_;refine aS ?_;rw[pK _ _ _ ad];exact⟨rfl,Ext.refl w⟩
theorem afh(i:Nat)(b:Nat)(v:Value)(l:List o.Scalar)(w:World)(aQ:o.fY w v l)(aD:w.cell? ⟨b,0,none⟩=some v)(ad:i<l.length) :
  bq Tryz.prog F.xZ #[.int .i64 i,.pointer (some ⟨b,0,none⟩)] w fun v w'=>v = .int .i64 (o.rI l i)∧Ext w w':=by
 obtain⟨bh,cap,rfl,hlen⟩:=aQ.form;refine bI E.xZ ?_;refine bF ?_;refine aS ?_;refine K.ld aD ?_;refine aS ?_;obtain⟨a,rfl⟩:=aQ.addr (by omega);have av:=(aQ.at i ad).cells 1 _ rfl;have bk:o.rI l i=if 1≤l[i].size∧l[i].size≤4 then 0 else 10:=by simp[o.rI,ad]
 rw[bk];generalize l[i].size=z at av;refine K.dr i rfl ad ?_;refine aS ?_;refine K.ld av ?_;refine aS ?_;refine K.cond (fun h1=>?_) (fun h1=>?_)
 ·refine aS ?_;rw[if_neg (by omega)];exact⟨rfl,Ext.refl w⟩
 refine aS ?_;refine K.ld aD ?_;refine aS ?_;refine K.dr i rfl ad ?_;refine aS ?_;refine K.ld av ?_;refine aS ?_;refine K.cond (fun h1=>?_) (fun h1=>?_)
 ·refine aS ?_;rw[if_neg (by omega)];exact⟨rfl,Ext.refl w⟩
 ·refine aS ?_;rw[if_pos (by omega)];exact⟨rfl,Ext.refl w⟩
theorem afi(v:Value)(l:List o.Scalar)(w:World)(a8:h9 w)(aQ:o.fY w v l) :
  bq Tryz.prog F.AF #[v] w fun v w'=>v = .tuple #[.int .i64 (o.scalars l).1,.int .i64 (o.scalars l).2]∧Ext w w':=by
 obtain⟨bh,cap,rfl,hlen⟩:=aQ.form;refine bI E.AF ?_;refine bF ?_;refine aS ?_;refine K.new fun w1 b aD az al=>?_;have nP:=bB.ext o.ia.ext az aQ;have cK:w1.cell? ⟨b,0,none⟩=some (.slice bh l.length cap):=yc al rfl;refine aS ?_;refine K.ld cK ?_;refine aS ?_;refine K.call (J1 l.length 2 (by omega) (o.nameAt (·.name) l) (o.rI l) F.xY F.xZ [_] [_] (by kernel_rfl) (by kernel_rfl) w1 (a8.ext az)
  (fun i ad=>by rw[pK _ _ _ (by omega)];obtain⟨a,rfl⟩:=aQ.addr (by omega);exact(aQ.at i (by omega)).ok)
  (fun i w' ad he=>afg i b _ l w' (bB.ext o.ia.ext he nP) (he.cell cK) (by omega))
  (fun i w' ad he=>afh i b _ l w' (bB.ext o.ia.ext he nP) (he.cell cK) (by omega))) ?_
 rintro _ aR ⟨rfl,aA⟩;refine aS ?_;exact⟨rfl,az.trans aA⟩
theorem OK(x:o.Var)(v:Value)(l:List o.Scalar)(w:World)(aQ:o.fY w v l) :
  bq Tryz.prog F.x2 #[.agg x.enc.toArray,v] w fun v w'=>v = .tuple #[.int .i64 (o.bounds x l).1,.int .i64 (o.bounds x l).2]∧Ext w w':=by
 obtain⟨bh,cap,rfl,hlen⟩:=aQ.form;refine bI E.x2 ?_;refine bF ?_;refine aS ?_;refine K.new fun w1 b aD az al=>?_;have c1:w1.cell? (Addr.add ⟨b,0,none⟩ 1)=some (.int .i64 x.scalar):=fi al rfl;have bK:w1.cell? (Addr.add ⟨b,0,none⟩ 3)=some (.int .i64 x.aZ):=fi al rfl;have bQ:w1.cell? (Addr.add ⟨b,0,none⟩ 4)=some (.int .i64 x.ad):=fi al rfl;refine aS ?_;refine K.ld c1 ?_;refine aS ?_;refine K.cond (fun h1=>?_) (fun h1=>?_)
 ·refine aS ?_;refine K.ld bK ?_;refine aS ?_;refine K.ld bQ ?_;refine aS ?_;intro aR aA;simp only[o.bounds,h1,if_true];exact⟨trivial,az.trans aA⟩
 ·refine aS ?_;refine K.ld c1 ?_;refine aS ?_;refine K.call (KM x.scalar _ l w1 (bB.ext o.ia.ext az aQ)) ?_;rintro _ _ ⟨rfl,rfl⟩;refine aS ?_;simp only[o.bounds,h1,if_false];exact⟨trivial,az⟩
theorem Eo(x:o.Var)(v:Value)(l:List o.Scalar)(w:World)(aQ:o.fY w v l) :
  bq Tryz.prog F.r #[.agg x.enc.toArray,v] w fun v w'=>v = .int .i64 (o.cells x l)∧Ext w w':=by
 obtain⟨bh,cap,rfl,hlen⟩:=aQ.form;refine bI E.r ?_;refine bF ?_;refine aS ?_;refine K.new fun w1 b aD az al=>?_;have c2:w1.cell? (Addr.add ⟨b,0,none⟩ 2)=some (.int .i64 x.over):=fi al rfl;refine aS ?_;refine K.ld c2 ?_;refine aS ?_;refine K.cond (fun h1=>?_) (fun h1=>?_)
 ·refine aS ?_;simp only[o.cells,h1,if_true];exact⟨trivial,az⟩
 ·refine aS ?_;refine K.ld c2 ?_;refine aS ?_;refine K.call (KM x.over _ l w1 (bB.ext o.ia.ext az aQ)) ?_;rintro _ _ ⟨rfl,rfl⟩;refine aS ?_;simp only[o.cells,h1,if_false];exact⟨trivial,az⟩
theorem agi(i:Nat)(b:Nat)(v:Value)(l:List o.Var)(w:World)(aQ:o.gF w v l)(aD:w.cell? ⟨b,0,none⟩=some v)(ad:i<l.length) :
  bq Tryz.prog F.x0 #[.int .i64 i,.pointer (some ⟨b,0,none⟩)] w fun v w'=>v = .string (o.nameAt (·.name) l i)∧Ext w w':=by
 obtain⟨bh,cap,rfl,hlen⟩:=aQ.form;refine bI E.x0 ?_;refine bF ?_;refine aS ?_;refine K.ld aD ?_;refine aS ?_;obtain⟨a,rfl⟩:=aQ.addr (by omega);have av:=(aQ.at i ad).cells 0 _ rfl;refine K.dr i rfl ad ?_;refine aS ?_;refine K.ld av ?_;refine aS ?_;rw[pK _ _ _ ad];exact⟨rfl,Ext.refl w⟩
theorem agj(i:Nat)(b b4:Nat)(v v2:Value)(l:List o.Var)(s:List o.Scalar)(w:World)(aQ:o.gF w v l)(ay:o.fY w v2 s)(aD:w.cell? ⟨b,0,none⟩=some v)(dw:w.cell? ⟨b4,0,none⟩=some v2)
  (ad:i<l.length):bq Tryz.prog F.cM #[.int .i64 i,.pointer (some ⟨b,0,none⟩),.pointer (some ⟨b4,0,none⟩)] w fun v w'=>v = .int .i64 (o.nk l s i)∧Ext w w':=by
 obtain⟨bh,cap,rfl,hlen⟩:=aQ.form;obtain⟨w7,yb,rfl,Fl⟩:=ay.form;refine bI E.cM ?_;refine bF ?_;refine aS ?_;refine K.ld aD ?_;refine aS ?_;obtain⟨a,rfl⟩:=aQ.addr (by omega);have av:=(aQ.at i ad).cells;have bk:o.nk l s i=if o.there l[i].scalar s=false∨o.there l[i].over s=false then 8
  else if (l[i].scalar=0∧o.narrow l[i].aZ l[i].ad=false)∨l[i].init<(o.bounds l[i] s).1∨l[i].init > (o.bounds l[i] s).2 then 10 else 0:=by simp[o.nk,ad]
 rw[bk];clear bk;generalize l[i]=x at av;refine K.dr i rfl ad ?_;refine aS ?_;refine K.iZ av rfl ?_;refine aS ?_;refine K.new fun w1 q aF az al=>?_;refine aS ?_;refine K.kW al rfl rfl (by simp[o.Var.enc,Value.oneCell']) fun aR hw aI=>?_;have aA:Ext w aR:=hw.ext az aF;clear hw al az w1;have c1:aR.cell? (Addr.add ⟨q,0,none⟩ 1)=some (.int .i64 x.scalar):=fi aI rfl;have c2:aR.cell? (Addr.add ⟨q,0,none⟩ 2)=some (.int .i64 x.over):=fi aI rfl;have ny:aR.cell? (Addr.add ⟨q,0,none⟩ 5)=some (.int .i64 x.init):=fi aI rfl;have d2:=aA.cell dw;have dS:=bB.ext o.ia.ext aA ay;refine aS ?_;refine K.ld c1 ?_;refine aS ?_;refine K.ld d2 ?_;refine aS ?_;refine K.call (K2 x.scalar _ s aR dS) ?_;rintro _ _ ⟨rfl,rfl⟩;refine aS ?_;refine K.cX (fun h1=>?_) (fun h1=>?_);rotate_left
 ·refine aS ?_;simp only[h1,true_or,if_true];exact⟨trivial,aA⟩
 refine aS ?_;refine K.ld c2 ?_;refine aS ?_;refine K.ld d2 ?_;refine aS ?_;refine K.call (K2 x.over _ s _ dS) ?_;rintro _ _ ⟨rfl,rfl⟩;refine aS ?_;refine K.cX (fun U=>?_) (fun U=>?_);rotate_left
 ·refine aS ?_;simp only[U,or_true,if_true];exact⟨trivial,aA⟩
 refine aS ?_;refine K.iZ (fZ aI) rfl ?_;refine aS ?_;refine K.ld d2 ?_;refine aS ?_;refine K.call (OK x _ s _ dS) ?_;rintro _ ba ⟨rfl,au⟩;rename_i ajx;have bT:=au.cell c1;have ca:=au.cell ny;have he:=aA.trans au;refine aS ?_;refine K.ld bT ?_;have eC:¬(o.there x.scalar s=false∨o.there x.over s=false):=by simp[h1,U]
 refine aS ?_;refine K.cond (fun ai=>?_) (fun ai=>?_)
 ·refine aS ?_;have rb:o.bounds x s=(x.aZ,x.ad):=by simp[o.bounds,ai]
  rw[rb];refine K.call (SP x.aZ x.ad ba) ?_;rintro _ _ ⟨rfl,rfl⟩;refine aS ?_;refine K.cX (fun aL=>?_) (fun aL=>?_);rotate_left
  ·refine aS ?_;rw[if_neg eC,if_pos (.inl ⟨ai,aL⟩)];exact⟨rfl,he⟩
  refine aS ?_;refine K.ld ca ?_;refine aS ?_;refine K.cond (fun bn=>?_) (fun bn=>?_)
  ·refine aS ?_;rw[if_neg eC,if_pos (.inr (.inl bn))];exact⟨rfl,he⟩
  refine aS ?_;refine K.ld ca ?_;refine aS ?_;refine K.cond (fun bL=>?_) (fun bL=>?_)
  ·refine aS ?_;rw[if_neg eC,if_pos (.inr (.inr bL))];exact⟨rfl,he⟩
  ·refine aS ?_;rw[if_neg eC,if_neg (by rw[aL];simp;omega)];exact⟨rfl,he⟩
 ·refine aS ?_;refine K.ld ca ?_;refine aS ?_;refine K.cond (fun bn=>?_) (fun bn=>?_)
  ·refine aS ?_;rw[if_neg eC,if_pos (.inr (.inl bn))];exact⟨rfl,he⟩
  refine aS ?_;refine K.ld ca ?_;refine aS ?_;refine K.cond (fun bL=>?_) (fun bL=>?_)
  ·refine aS ?_;rw[if_neg eC,if_pos (.inr (.inr bL))];exact⟨rfl,he⟩
  ·refine aS ?_;rw[if_neg eC,if_neg (by simp[ai];omega)];exact⟨rfl,he⟩
theorem UG(v v2:Value)(l:List o.Var)(s:List o.Scalar)(eW:Int)(w:World)(a8:h9 w)(aQ:o.gF w v l)(ay:o.fY w v2 s) :
  bq Tryz.prog F.xV #[v,v2,.int .i64 eW] w fun v w'=>v = .tuple #[.int .i64 (o.vars l s eW).1,.int .i64 (o.vars l s eW).2]∧Ext w w':=by
 obtain⟨bh,cap,rfl,hlen⟩:=aQ.form;obtain⟨w7,yb,rfl,Fl⟩:=ay.form;refine bI E.xV ?_;refine bF ?_;refine aS ?_;refine K.new fun w1 b aD az al=>?_;refine aS ?_;refine K.new fun aR b4 dw aA aI=>?_;have he:=az.trans aA;have nP:=bB.ext o.ot.ext he aQ;have fv:=bB.ext o.ia.ext he ay;have d1:aR.cell? ⟨b,0,none⟩=some (.slice bh l.length cap):=yc (aA.obj al) rfl;have d2:aR.cell? ⟨b4,0,none⟩=some (.slice w7 s.length yb):=yc aI rfl;refine aS ?_;refine K.ld d1 ?_;refine aS ?_;refine K.call (J1 l.length (max eW 0) (by omega) (o.nameAt (·.name) l) (o.nk l s) F.x0 F.cM [_] [_,_] (by kernel_rfl) (by kernel_rfl) aR (a8.ext he)
  (fun i ad=>by rw[pK _ _ _ (by omega)];obtain⟨a,rfl⟩:=aQ.addr (by omega);exact(aQ.at i (by omega)).ok)
  (fun i w' ad he=>agi i b _ l w' (bB.ext o.ot.ext he nP) (he.cell d1) (by omega))
  (fun i w' ad he=>agj i b b4 _ _ l s w' (bB.ext o.ot.ext he nP) (bB.ext o.ia.ext he fv) (he.cell d1) (he.cell d2) (by omega))) ?_
 rintro _ ba ⟨rfl,au⟩;refine aS ?_;exact⟨rfl,he.trans au⟩
theorem W3(i:Nat)(b:Nat)(v:Value)(l:List o.c4)(w:World)(aQ:o.lG w v l)(aD:w.cell? ⟨b,0,none⟩=some v)(ad:i<l.length) :
  bq Tryz.prog F.x5 #[.int .i64 i,.pointer (some ⟨b,0,none⟩)] w fun v w'=>v = .string (o.nameAt (·.name) l i)∧Ext w w':=by
 obtain⟨bh,cap,rfl,hlen⟩:=aQ.form;refine bI E.x5 ?_;refine bF ?_;refine aS ?_;refine K.ld aD ?_;refine aS ?_;obtain⟨a,rfl⟩:=aQ.addr (by omega);have av:=(aQ.at i ad).cells 0 _ rfl;refine K.dr i rfl ad ?_;refine aS ?_;refine K.ld av ?_;refine aS ?_;rw[pK _ _ _ ad];exact⟨rfl,Ext.refl w⟩
theorem W4(i:Nat)(b b4:Nat)(v v2:Value)(l:List o.c4)(s:List o.Scalar)(w:World)(aQ:o.lG w v l)(ay:o.fY w v2 s)(aD:w.cell? ⟨b,0,none⟩=some v)(dw:w.cell? ⟨b4,0,none⟩=some v2)
  (ad:i<l.length):bq Tryz.prog F.x6 #[.int .i64 i,.pointer (some ⟨b,0,none⟩),.pointer (some ⟨b4,0,none⟩)] w fun v w'=>v = .int .i64 (o.mT l s i)∧Ext w w':=by
 obtain⟨bh,cap,rfl,hlen⟩:=aQ.form;obtain⟨w7,yb,rfl,Fl⟩:=ay.form;refine bI E.x6 ?_;refine bF ?_;refine aS ?_;refine K.ld aD ?_;refine aS ?_;obtain⟨a,rfl⟩:=aQ.addr (by omega);have av:=(aQ.at i ad).cells;have bk:o.mT l s i=if o.there l[i].scalar s=false then 8
  else if l[i].cap<1∨l[i].cap > 4∨(l[i].scalar=0∧o.narrow l[i].aZ l[i].ad=false) then 10 else 0:=by simp[o.mT,ad]
 rw[bk];clear bk;generalize l[i]=x at av;refine K.dr i rfl ad ?_;refine aS ?_;refine K.iZ av rfl ?_;refine aS ?_;refine K.new fun w1 q aF az al=>?_;refine aS ?_;refine K.kW al rfl rfl (by simp[o.c4.enc,Value.oneCell']) fun aR hw aI=>?_;have aA:Ext w aR:=hw.ext az aF;clear hw al az w1;have c1:aR.cell? (Addr.add ⟨q,0,none⟩ 1)=some (.int .i64 x.scalar):=fi aI rfl;have c2:aR.cell? (Addr.add ⟨q,0,none⟩ 2)=some (.int .i64 x.cap):=fi aI rfl;have bK:aR.cell? (Addr.add ⟨q,0,none⟩ 3)=some (.int .i64 x.aZ):=fi aI rfl;have bQ:aR.cell? (Addr.add ⟨q,0,none⟩ 4)=some (.int .i64 x.ad):=fi aI rfl;have d2:=aA.cell dw;have dS:=bB.ext o.ia.ext aA ay;refine aS ?_;refine K.ld c1 ?_;refine aS ?_;refine K.ld d2 ?_;refine aS ?_;refine K.call (K2 x.scalar _ s aR dS) ?_;rintro _ _ ⟨rfl,rfl⟩;refine aS ?_;refine K.cX (fun h1=>?_) (fun h1=>?_);rotate_left
 ·refine aS ?_;simp only[h1,if_true];exact⟨trivial,aA⟩
 have eC:¬(o.there x.scalar s=false):=by simp[h1]
 refine aS ?_;refine K.ld c2 ?_;refine aS ?_;refine K.cond (fun U=>?_) (fun U=>?_)
 ·refine aS ?_;rw[if_neg eC,if_pos (.inl U)];exact⟨rfl,aA⟩
 refine aS ?_;refine K.ld c2 ?_;refine aS ?_;refine K.cond (fun ai=>?_) (fun ai=>?_)
 ·refine aS ?_;rw[if_neg eC,if_pos (.inr (.inl ai))];exact⟨rfl,aA⟩
 refine aS ?_;refine K.ld c1 ?_;refine aS ?_;refine K.cond (fun aL=>?_) (fun aL=>?_)
 ·refine aS ?_;refine K.ld bK ?_;refine aS ?_;refine K.ld bQ ?_;refine aS ?_;refine K.call (SP x.aZ x.ad _) ?_;rintro _ _ ⟨rfl,rfl⟩;refine aS ?_;refine K.cX (fun bn=>?_) (fun bn=>?_)
  ·refine aS ?_;rw[if_neg eC,if_neg (by rw[bn];simp;omega)];exact⟨rfl,aA⟩
  ·refine aS ?_;rw[if_neg eC,if_pos (.inr (.inr ⟨aL,bn⟩))];exact⟨rfl,aA⟩
 ·refine aS ?_;rw[if_neg eC,if_neg (by simp[aL];omega)];exact⟨rfl,aA⟩
theorem W6(v v2:Value)(l:List o.c4)(s:List o.Scalar)(w:World)(a8:h9 w)(aQ:o.lG w v l)(ay:o.fY w v2 s) :
  bq Tryz.prog F.AG #[v,v2] w fun v w'=>v = .tuple #[.int .i64 (o.aH l s).1,.int .i64 (o.aH l s).2]∧Ext w w':=by
 obtain⟨bh,cap,rfl,hlen⟩:=aQ.form;obtain⟨w7,yb,rfl,Fl⟩:=ay.form;refine bI E.AG ?_;refine bF ?_;refine aS ?_;refine K.new fun w1 b aD az al=>?_;refine aS ?_;refine K.new fun aR b4 dw aA aI=>?_;have he:=az.trans aA;have nP:=bB.ext o.oq.ext he aQ;have fv:=bB.ext o.ia.ext he ay;have d1:aR.cell? ⟨b,0,none⟩=some (.slice bh l.length cap):=yc (aA.obj al) rfl;have d2:aR.cell? ⟨b4,0,none⟩=some (.slice w7 s.length yb):=yc aI rfl;refine aS ?_;refine K.ld d1 ?_;refine aS ?_;refine K.call (J1 l.length 4 (by omega) (o.nameAt (·.name) l) (o.mT l s) F.x5 F.x6 [_] [_,_] (by kernel_rfl) (by kernel_rfl) aR (a8.ext he)
  (fun i ad=>by rw[pK _ _ _ (by omega)];obtain⟨a,rfl⟩:=aQ.addr (by omega);exact(aQ.at i (by omega)).ok)
  (fun i w' ad he=>W3 i b _ l w' (bB.ext o.oq.ext he nP) (he.cell d1) (by omega))
  (fun i w' ad he=>W4 i b b4 _ _ l s w' (bB.ext o.oq.ext he nP) (bB.ext o.ia.ext he fv) (he.cell d1) (he.cell d2) (by omega))) ?_
 rintro _ ba ⟨rfl,au⟩;refine aS ?_;exact⟨rfl,he.trans au⟩
end Go.Proofs.R
end
section
set_option linter.unusedSimpArgs false
end
section
set_option linter.unusedSimpArgs false
namespace Go.Proofs.R
open Go Go.RowKit bt
theorem zt(k:Int)(v:Value)(l:List o.Scalar)(w:World)(aQ:o.fY w v l) :
  bq Tryz.prog F.pD #[v,.int .i64 k] w fun v w'=>v = .int .i64 (o.size k l)∧w'=w:=by
 obtain⟨bh,cap,rfl,hlen⟩:=aQ.form;refine bI E.pD ?_;refine bF ?_;refine aS ?_;refine K.cond (fun h1=>?_) (fun h1=>?_)
 ·refine aS ?_;rw[F9 (.inl h1)];exact⟨rfl,trivial⟩
 refine aS ?_;refine K.cond (fun U=>?_) (fun U=>?_)
 ·refine aS ?_;rw[F9 (.inr U)];exact⟨rfl,trivial⟩
 obtain⟨a,rfl⟩:=aQ.addr (by omega);have av:=(aQ.at (k.toNat - 1) (by omega)).cells 1 _ rfl;have hk:(k - 1).toNat*2=(k.toNat - 1)*2:=by omega
 rw[Ub (by omega) (by omega)];rw[←hk] at av;generalize l[k.toNat - 1].size=z at av
 (repeat' first
  | (refine K.cond (fun _=>?_) (fun _=>?_)<;>try (exfalso;omega))
  | (refine K.cX (fun _=>?_) (fun _=>?_))
  | (refine K.wrap (by omega) ?_)
  | (refine K.ld (by assumption) ?_)
  | (refine K.hv (by omega) ?_)
  | simp -dsimp only[cI,cu,Nat.reduceAdd,Nat.reduceEqDiff,reduceIte,reduceCtorEq,cS])
 ·rw[if_neg (by omega)];exact⟨rfl,trivial⟩
 ·rw[if_neg (by omega)];exact⟨rfl,trivial⟩
 ·rw[if_pos (by omega)];exact⟨rfl,trivial⟩
theorem Kv(x:o.Var)(v:Value)(l:List o.Scalar)(w:World)(aQ:o.fY w v l) :
  bq Tryz.prog F.wT #[.agg x.enc.toArray,v] w fun v w'=>v = .tuple #[.int .i64 (o.bounds x l).1,.int .i64 (o.bounds x l).2]∧Ext w w':=by
 obtain⟨bh,cap,rfl,hlen⟩:=aQ.form;refine bI E.wT ?_;refine bF ?_;refine aS ?_;refine K.new fun w1 b aD az al=>?_;have c1:w1.cell? (Addr.add ⟨b,0,none⟩ 1)=some (.int .i64 x.scalar):=fi al rfl;have bK:w1.cell? (Addr.add ⟨b,0,none⟩ 3)=some (.int .i64 x.aZ):=fi al rfl;have bQ:w1.cell? (Addr.add ⟨b,0,none⟩ 4)=some (.int .i64 x.ad):=fi al rfl;refine aS ?_;refine K.ld c1 ?_;refine aS ?_;refine K.cond (fun h1=>?_) (fun h1=>?_)
 ·refine aS ?_;refine K.ld bK ?_;refine aS ?_;refine K.ld bQ ?_;refine aS ?_;intro aR aA;simp only[o.bounds,h1,if_true];exact⟨trivial,az.trans aA⟩
 ·refine aS ?_;refine K.ld c1 ?_;refine aS ?_;refine K.call (zt x.scalar _ l w1 (bB.ext o.ia.ext az aQ)) ?_;rintro _ _ ⟨rfl,rfl⟩;refine aS ?_;simp only[o.bounds,h1,if_false];exact⟨trivial,az⟩
theorem Kw(x:o.Var)(v:Value)(l:List o.Scalar)(w:World)(aQ:o.fY w v l) :
  bq Tryz.prog F.wU #[.agg x.enc.toArray,v] w fun v w'=>v = .int .i64 (o.cells x l)∧Ext w w':=by
 obtain⟨bh,cap,rfl,hlen⟩:=aQ.form;refine bI E.wU ?_;refine bF ?_;refine aS ?_;refine K.new fun w1 b aD az al=>?_;have c2:w1.cell? (Addr.add ⟨b,0,none⟩ 2)=some (.int .i64 x.over):=fi al rfl;refine aS ?_;refine K.ld c2 ?_;refine aS ?_;refine K.cond (fun h1=>?_) (fun h1=>?_)
 ·refine aS ?_;simp only[o.cells,h1,if_true];exact⟨trivial,az⟩
 ·refine aS ?_;refine K.ld c2 ?_;refine aS ?_;refine K.call (zt x.over _ l w1 (bB.ext o.ia.ext az aQ)) ?_;rintro _ _ ⟨rfl,rfl⟩;refine aS ?_;simp only[o.cells,h1,if_false];exact⟨trivial,az⟩
end Go.Proofs.R
end
section
set_option linter.unusedSimpArgs false
namespace Go.Proofs.R
open Go Go.RowKit bt
theorem TG(n:Int)(w:World):bq Tryz.prog F.y5 #[.int .u8 n] w fun v w'=>v = .bool (o.letter n)∧w'=w:=by
 refine bI E.y5 ?_;refine bF ?_
 (repeat' first
  | (refine K.cond (fun _=>?_) (fun _=>?_)<;>try (exfalso;omega))
  | (refine K.cX (fun _=>?_) (fun _=>?_))
  | (refine K.wrap (by omega) ?_)
  | (refine K.ld (by assumption) ?_)
  | (refine K.hv (by omega) ?_)
  | simp -dsimp only[cI,cu,Nat.reduceAdd,Nat.reduceEqDiff,reduceIte,reduceCtorEq,cS])
 all_goals (refine⟨?_,by first | rfl | trivial⟩;congr 1;rw[Bool.eq_iff_iff];simp[o.letter];omega)
theorem Kt(n:Int)(w:World):bq Tryz.prog F.wQ #[.int .u8 n] w fun v w'=>v = .bool (o.digit n)∧w'=w:=by
 refine bI E.wQ ?_;refine bF ?_
 (repeat' first
  | (refine K.cond (fun _=>?_) (fun _=>?_)<;>try (exfalso;omega))
  | (refine K.cX (fun _=>?_) (fun _=>?_))
  | (refine K.wrap (by omega) ?_)
  | (refine K.ld (by assumption) ?_)
  | (refine K.hv (by omega) ?_)
  | simp -dsimp only[cI,cu,Nat.reduceAdd,Nat.reduceEqDiff,reduceIte,reduceCtorEq,cS])
 all_goals (refine⟨?_,by first | rfl | trivial⟩;congr 1;rw[Bool.eq_iff_iff];simp[o.digit];omega)
def tf:List ByteArray:=[⟨#[58,61]⟩,⟨#[61,61]⟩,⟨#[33,61]⟩,⟨#[60,61]⟩,⟨#[45,62]⟩,⟨#[38,38]⟩,⟨#[124,124]⟩,⟨#[61,62]⟩,⟨#[40]⟩,⟨#[41]⟩,⟨#[91]⟩,⟨#[93]⟩,⟨#[123]⟩,⟨#[125]⟩,⟨#[59]⟩,⟨#[44]⟩,⟨#[58]⟩,⟨#[46]⟩,⟨#[60]⟩,⟨#[43]⟩,⟨#[45]⟩,⟨#[42]⟩,⟨#[33]⟩,⟨#[63]⟩,⟨#[64]⟩]
theorem afq(w:World):bq Tryz.prog F.B4 #[] w fun v w'=>(∃b,v = .slice (some ⟨b,0,none⟩) 25 25∧fb w' ⟨b,0,none⟩ (tf.map Value.string))∧Ext w w':=by
 refine bI E.B4 ?_;refine bF ?_;refine aS ?_;refine K.kg (cs:=tf.map Value.string) (by simp[List.range,List.range.loop,ey,lay,fr,nC,cb,Value.cells,tf]) fun w1 bz cK az al=>?_;refine aS ?_;exact⟨⟨bz,rfl,fZ al⟩,az⟩
theorem V7(s:ByteArray)(w:World)(h:0<s.size)(ay:s.size≤16) :
  bq Tryz.prog F.B3 #[.string s,.int .i64 0] w fun v w'=>(∃n k:Int,v = .tuple #[.int .i64 n,.int .i64 k]∧if o.letter (o.p9 s 0:Nat)=true then n=o.run o.part s∧k=1 else k≠1)∧Ext w w':=by
 refine bI E.B3 ?_;refine bF ?_;refine aS ?_;refine K.kr (s.get! 0) (by decide) (o.get?_eq s 0 h) ?_;refine aS ?_;refine K.call (TG _ w) ?_;rintro _ w ⟨rfl,rfl⟩;refine aS ?_;refine K.cX (fun h1=>?_) (fun h1=>?_)
 ·have qg:o.letter (o.p9 s 0:Nat)=true:=h1;refine aS ?_;refine K.loop (fun S w' => ∃i:Nat,i≤s.size∧S 6 = .int .i64 i∧(∀j (aT:j<s.size),j<i→o.part s[j].toNat=true)∧w'=w)
   (fun S _=>(s.size - intOf (S 6)).toNat) ⟨0,by omega,by refine aS ?_;rfl,fun _ _ h=>absurd h (Nat.not_lt_zero _),rfl⟩ ?_
  rintro S w ch ⟨i,ad,bL,c8,rfl⟩;have aj:=ch 0 rfl;have h1:=ch 1 rfl;simp only[cb,Nat.reduceAdd,Nat.reduceEqDiff,reduceIte,ij,k7] at aj h1;clear ch;refine b2 (And.intro aj (And.intro h1 bL)) ?_;refine K.cond (fun U=>?_) (fun U=>?_)
  ·have cN:i<s.size:=by omega
   refine b2 (And.intro aj (And.intro h1 bL)) ?_;refine K.kr (s.get! i) (by omega) (o.get?_eq s i cN) ?_;rw[o.get_eq s i cN];refine b2 (And.intro aj (And.intro h1 bL)) ?_;refine K.call (TG _ _) ?_;rintro _ w ⟨rfl,rfl⟩;refine b2 (And.intro aj (And.intro h1 bL)) ?_;refine K.cX (fun ai=>?_) (fun ai=>?_)
   ·refine b2 (And.intro aj (And.intro h1 bL)) ?_;refine K.wrap (by omega) ?_;refine b2 (And.intro aj (And.intro h1 bL)) ?_;refine⟨⟨i+1,by omega,rfl,fun j aT gm=>?_,trivial⟩,by simp[intOf];omega⟩;by_cases kL:j<i
    ·exact c8 j aT kL
    ·have:j=i:=by omega
     subst this;simp[o.part,ai]
   refine b2 (And.intro aj (And.intro h1 bL)) ?_;refine K.kr (s.get! i) (by omega) (o.get?_eq s i cN) ?_;rw[o.get_eq s i cN];refine b2 (And.intro aj (And.intro h1 bL)) ?_;refine K.call (Kt _ _) ?_;rintro _ w ⟨rfl,rfl⟩;refine b2 (And.intro aj (And.intro h1 bL)) ?_;refine K.cX (fun aL=>?_) (fun aL=>?_)
   ·refine b2 (And.intro aj (And.intro h1 bL)) ?_;refine K.wrap (by omega) ?_;refine b2 (And.intro aj (And.intro h1 bL)) ?_;refine⟨⟨i+1,by omega,rfl,fun j aT gm=>?_,trivial⟩,by simp[intOf];omega⟩;by_cases kL:j<i
    ·exact c8 j aT kL
    ·have:j=i:=by omega
     subst this;simp[o.part,aL]
   refine b2 (And.intro aj (And.intro h1 bL)) ?_;refine K.kr (s.get! i) (by omega) (o.get?_eq s i cN) ?_;rw[o.get_eq s i cN];refine b2 (And.intro aj (And.intro h1 bL)) ?_;refine K.cond (fun bn=>?_) (fun bn=>?_)
   ·refine b2 (And.intro aj (And.intro h1 bL)) ?_;refine K.wrap (by omega) ?_;refine b2 (And.intro aj (And.intro h1 bL)) ?_;refine⟨⟨i+1,by omega,rfl,fun j aT gm=>?_,trivial⟩,by simp[intOf];omega⟩;by_cases kL:j<i
    ·exact c8 j aT kL
    ·have:j=i:=by omega
     subst this;simp[o.part];omega
   ·refine b2 (And.intro aj (And.intro h1 bL)) ?_;refine K.wrap (by omega) ?_;refine b2 (And.intro aj (And.intro h1 bL)) ?_;refine⟨⟨_,_,rfl,?_⟩,Ext.refl _⟩;rw[if_pos qg];rw[o.TY o.part s i cN (fun j aT=>c8 j (by omega) aT) (by simp only[o.part,ai,aL,Bool.false_or,decide_eq_false_iff_not];omega)];exact⟨by omega,rfl⟩
  ·refine b2 (And.intro aj (And.intro h1 bL)) ?_;refine K.wrap (by omega) ?_;refine b2 (And.intro aj (And.intro h1 bL)) ?_;refine⟨⟨_,_,rfl,?_⟩,Ext.refl _⟩;rw[if_pos qg];rw[o.TS o.part s (fun j aT=>c8 j aT (by omega))];exact⟨by omega,rfl⟩
 have qg:o.letter (o.p9 s 0:Nat)=false:=h1;have gW:¬o.letter (o.p9 s 0:Nat)=true:=by simp[qg]
 refine aS ?_;refine K.kr (s.get! 0) (by decide) (o.get?_eq s 0 h) ?_;refine aS ?_;refine K.call (Kt _ w) ?_;rintro _ w ⟨rfl,rfl⟩;refine aS ?_;refine K.cX (fun U=>?_) (fun U=>?_)
 ·refine aS ?_;refine K.loop (fun S w' => ∃i:Nat,i≤s.size∧S 6 = .int .i64 i∧w'=w)
   (fun S _=>(s.size - intOf (S 6)).toNat) ⟨0,by omega,by refine aS ?_;rfl,rfl⟩ ?_
  rintro S w ch ⟨i,ad,bL,rfl⟩;have aj:=ch 0 rfl;have h1:=ch 1 rfl;simp only[cb,Nat.reduceAdd,Nat.reduceEqDiff,reduceIte,ij,k7] at aj h1;clear ch;refine b2 (And.intro aj (And.intro h1 bL)) ?_;refine K.cond (fun U=>?_) (fun U=>?_)
  ·have cN:i<s.size:=by omega
   refine b2 (And.intro aj (And.intro h1 bL)) ?_;refine K.kr (s.get! i) (by omega) (o.get?_eq s i cN) ?_;refine b2 (And.intro aj (And.intro h1 bL)) ?_;refine K.call (Kt _ _) ?_;rintro _ w ⟨rfl,rfl⟩;refine b2 (And.intro aj (And.intro h1 bL)) ?_;refine K.cX (fun aL=>?_) (fun aL=>?_)
   ·refine b2 (And.intro aj (And.intro h1 bL)) ?_;refine K.wrap (by omega) ?_;refine b2 (And.intro aj (And.intro h1 bL)) ?_;exact⟨⟨i+1,by omega,rfl,trivial⟩,by simp[intOf];omega⟩
   ·refine b2 (And.intro aj (And.intro h1 bL)) ?_;refine K.wrap (by omega) ?_;refine b2 (And.intro aj (And.intro h1 bL)) ?_;exact⟨⟨_,_,rfl,by rw[if_neg gW];decide⟩,Ext.refl _⟩
  ·refine b2 (And.intro aj (And.intro h1 bL)) ?_;refine K.wrap (by omega) ?_;refine b2 (And.intro aj (And.intro h1 bL)) ?_;exact⟨⟨_,_,rfl,by rw[if_neg gW];decide⟩,Ext.refl _⟩
 refine aS ?_;refine K.call (afq w) ?_;rintro _ w1 ⟨⟨b,rfl,av⟩,he⟩;refine aS ?_;refine K.loop (fun S w' => ∃i:Nat,i≤25∧S 8 = .int .i64 i∧Ext w1 w')
  (fun S _=>(25 - intOf (S 8)).toNat) ⟨0,by omega,by refine aS ?_;rfl,Ext.refl _⟩ ?_
 rintro S w' ch ⟨i,ad,dA,aA⟩;have aj:=ch 0 rfl;have h1:=ch 1 rfl;have b7:=ch 7 rfl;simp only[cb,Nat.reduceAdd,Nat.reduceEqDiff,reduceIte,ij,k7] at aj h1 b7;clear ch;refine b2 (And.intro aj (And.intro h1 (And.intro b7 dA))) ?_;refine K.cond (fun U=>?_) (fun U=>?_)
 ·have cN:i<tf.length:=by simp[tf];omega
  have mu:w'.cell? (Addr.add ⟨b,0,none⟩ (i*1))=some (.string tf[i]):=by
   rw[Nat.mul_one];exact av.ext aA i _ (by rw[List.getElem?_map,List.getElem?_eq_getElem cN];rfl)
  have bU:tf[i].size≤2:=by
   have:∀x∈tf,x.size≤2:=by decide
   exact this _ (List.getElem_mem _)
  generalize tf[i]=x at mu bU;refine b2 (And.intro aj (And.intro h1 (And.intro b7 dA))) ?_;refine K.wrap (by omega) ?_;refine b2 (And.intro aj (And.intro h1 (And.intro b7 dA))) ?_;refine K.dr i rfl (by omega) ?_;refine b2 (And.intro aj (And.intro h1 (And.intro b7 dA))) ?_;refine K.ld mu ?_;refine b2 (And.intro aj (And.intro h1 (And.intro b7 dA))) ?_;refine K.cond (fun ai=>?_) (fun ai=>?_)
  ·refine b2 (And.intro aj (And.intro h1 (And.intro b7 dA))) ?_;refine K.dr i rfl (by omega) ?_;refine b2 (And.intro aj (And.intro h1 (And.intro b7 dA))) ?_;refine K.ld mu ?_;refine b2 (And.intro aj (And.intro h1 (And.intro b7 dA))) ?_;refine K.wrap (by omega) ?_;refine b2 (And.intro aj (And.intro h1 (And.intro b7 dA))) ?_;refine K.u9 0 x.size (by simp[fE,fr,cb,h1]) (by simp[fE,fr,cb,h1]) (by omega) ?_;refine b2 (And.intro aj (And.intro h1 (And.intro b7 dA))) ?_;refine K.dr i rfl (by omega) ?_;refine b2 (And.intro aj (And.intro h1 (And.intro b7 dA))) ?_;refine K.ld mu ?_;refine b2 (And.intro aj (And.intro h1 (And.intro b7 dA))) ?_;intro aR au;refine K.cond (fun aL=>?_) (fun aL=>?_)
   ·refine b2 (And.intro aj (And.intro h1 (And.intro b7 dA))) ?_;refine K.dr i rfl (by omega) ?_;refine b2 (And.intro aj (And.intro h1 (And.intro b7 dA))) ?_;refine K.ld (au.cell mu) ?_;refine b2 (And.intro aj (And.intro h1 (And.intro b7 dA))) ?_;exact⟨⟨_,_,rfl,by rw[if_neg gW];decide⟩,he.trans (aA.trans au)⟩
   ·refine b2 (And.intro aj (And.intro h1 (And.intro b7 dA))) ?_;refine K.wrap (by omega) ?_;refine b2 (And.intro aj (And.intro h1 (And.intro b7 dA))) ?_;exact⟨⟨i+1,by omega,rfl,aA.trans au⟩,by simp[intOf];omega⟩
  ·refine b2 (And.intro aj (And.intro h1 (And.intro b7 dA))) ?_;intro aR au;refine K.wrap (by omega) ?_;refine b2 (And.intro aj (And.intro h1 (And.intro b7 dA))) ?_;exact⟨⟨i+1,by omega,rfl,aA.trans au⟩,by simp[intOf];omega⟩
 ·refine b2 (And.intro aj (And.intro h1 (And.intro b7 dA))) ?_;exact⟨⟨_,_,rfl,by rw[if_neg gW];decide⟩,he.trans aA⟩
theorem zy(s:ByteArray)(w:World)(ay:s.size≤9223372036854775807):bq Tryz.prog F.rC #[.string s] w fun v w'=>v = .bool (o.isName s)∧Ext w w':=by
 refine bI E.rC ?_;refine bF ?_;refine aS ?_;refine K.cond (fun aj=>?_) (fun aj=>?_)
 ·refine aS ?_;refine⟨?_,Ext.refl w⟩;subst aj;rfl
 have bU:s.size≠0:=fun h=>aj (by
  cases s with | mk d =>
  have:d=#[]:=by simpa[ByteArray.size] using h
  rw[this])
 refine aS ?_;refine K.cond (fun h1=>?_) (fun h1=>?_)
 ·refine aS ?_;refine⟨?_,Ext.refl w⟩
  have:¬s.size≤16:=by omega
  simp[o.isName,this]
 have qg:s.size≤16:=by omega
 refine aS ?_;refine K.cond (fun U=>?_) (fun U=>?_)
 ·refine aS ?_;exact⟨by subst U;exact congrArg Value.bool (by decide +kernel),Ext.refl w⟩
 refine aS ?_;refine K.cond (fun ai=>?_) (fun ai=>?_)
 ·refine aS ?_;exact⟨by subst ai;exact congrArg Value.bool (by decide +kernel),Ext.refl w⟩
 refine aS ?_;refine K.cond (fun aL=>?_) (fun aL=>?_)
 ·refine aS ?_;exact⟨by subst aL;exact congrArg Value.bool (by decide +kernel),Ext.refl w⟩
 refine aS ?_;refine K.cond (fun bn=>?_) (fun bn=>?_)
 ·refine aS ?_;exact⟨by subst bn;exact congrArg Value.bool (by decide +kernel),Ext.refl w⟩
 have hm:s∉o.oT:=by simp[o.oT,U,ai,aL,bn]
 refine aS ?_;refine K.call (V7 s w (by omega) qg) ?_;rintro _ w1 ⟨⟨n,k,rfl,kn⟩,he⟩;refine aS ?_;refine K.cond (fun bL=>?_) (fun bL=>?_)
 ·refine aS ?_;refine⟨?_,he⟩;have aQ:o.letter (o.p9 s 0:Nat)=true:=by
   by_cases aw:o.letter (o.p9 s 0:Nat)=true
   ·exact aw
   ·rw[if_neg aw] at kn;exact absurd bL kn
  rw[if_pos aQ] at kn;congr 1;simp[o.isName,aQ,bU,qg,hm,kn.1];omega
 ·refine aS ?_;refine⟨?_,he⟩;have aQ:o.letter (o.p9 s 0:Nat)=false:=by
   by_cases aw:o.letter (o.p9 s 0:Nat)=true
   ·rw[if_pos aw] at kn;exact absurd kn.2 bL
   ·simpa using aw
  simp[o.isName,aQ]
end Go.Proofs.R
end
section
set_option linter.unusedSimpArgs false
namespace Go.Proofs.R
open Go Go.RowKit bt
theorem vP{eW:Int}{e8:Nat→ByteArray}{mo:Nat→Int}{i:Nat}(h:eW≤i):o.err eW e8 mo i=11:=by rw[o.err,if_pos h]
theorem yl{eW:Int}{e8:Nat→ByteArray}{mo:Nat→Int}{i:Nat}(h:¬eW≤i)(U:o.isName (e8 i)=false):o.err eW e8 mo i=6:=by rw[o.err,if_neg h,if_pos U]
theorem HV{eW:Int}{e8:Nat→ByteArray}{mo:Nat→Int}{i j:Nat}(h:¬eW≤i)(U:o.isName (e8 i)=true)(aT:j<i)(he:e8 j=e8 i):o.err eW e8 mo i=7:=by
 rw[o.err,if_neg h,if_neg (by simp[U]),if_pos ⟨j,aT,he⟩]
theorem HU{eW:Int}{e8:Nat→ByteArray}{mo:Nat→Int}{i:Nat}(h:¬eW≤i)(U:o.isName (e8 i)=true)(aT:∀j,j<i→e8 j≠e8 i):o.err eW e8 mo i=mo i:=by
 rw[o.err,if_neg h,if_neg (by simp[U]),if_neg (fun⟨j,h1,U⟩=>aT j h1 U)]
theorem SH{eW:Int}{e8:Nat→ByteArray}{mo:Nat→Int}{i:Nat}(hm:0≤eW)(h:∀j,j<i→o.err eW e8 mo j=0):(i:Int)≤eW:=by
 by_cases aw:(i:Int)≤eW
 ·exact aw
 ·have:=h eW.toNat (by omega)
  rw[vP (by omega)] at this;cases this
theorem aeF(v:Value)(l:List o.Scalar)(w:World)(aQ:o.fY w v l) :
  bq Tryz.prog F.Cc #[v] w fun v w'=>v = .tuple #[.int .i64 (o.scalars l).1,.int .i64 (o.scalars l).2]∧Ext w w':=by
 obtain⟨bh,cap,rfl,hlen⟩:=aQ.form;refine bI E.Cc ?_;refine bF ?_;simp -dsimp only[cI,cu,Nat.reduceAdd,Nat.reduceEqDiff,reduceIte,reduceCtorEq,cS];refine K.loop (fun S w' => ∃i:Nat,i≤l.length∧S 4 = .int .i64 i∧(∀j,j<i→o.err 2 (o.nameAt (·.name) l) (o.rI l) j=0)∧Ext w w')
  (fun S _=>(l.length - intOf (S 4)).toNat) ⟨0,by omega,by simp -dsimp only[cI,cu,Nat.reduceAdd,Nat.reduceEqDiff,reduceIte,reduceCtorEq,cS];rfl,fun _ h=>absurd h (Nat.not_lt_zero _),Ext.refl _⟩ ?_
 rintro S w' ch ⟨i,ad,aL,c8,he⟩;have aj:=ch 0 rfl;simp only[cb,Nat.reduceAdd,Nat.reduceEqDiff,reduceIte,ij,k7] at aj;clear ch;have Fi:=SH (by omega) c8;refine b2 (And.intro aj aL) ?_;apply K.cond<;>intro g1;rotate_left
 ·refine b2 (And.intro aj aL) ?_;rw[o.scalars,o.mV (fun j aT=>c8 j (by omega))];exact⟨rfl,he⟩
 have cN:i<l.length:=by omega
 obtain⟨a,rfl⟩:=aQ.addr (by omega);have ht:=bB.ext o.ia.ext he aQ;have qj:=(ht.at i cN).cells 0 _ rfl;have al:=(ht.at i cN).cells 1 _ rfl;have dd:o.hQ l[i].name:=(ht.at i cN).ok;have e6:o.nameAt (fun x:o.Scalar=>x.name) l i=l[i].name:=pK _ _ _ cN;refine b2 (And.intro aj aL) ?_;apply K.cond<;>intro g2
 ·refine b2 (And.intro aj aL) ?_;rw[o.scalars,o.hG cN c8 (by rw[vP (by omega)];decide),vP (by omega)];exact⟨rfl,he⟩
 have hm:¬(2:Int)≤(i:Int):=by omega
 refine b2 (And.intro aj aL) ?_;refine K.dr i rfl cN ?_;refine b2 (And.intro aj aL) ?_;refine K.ld qj ?_;refine b2 (And.intro aj aL) ?_;refine K.call (zy _ _ dd) ?_;rintro _ aR ⟨rfl,aA⟩;refine b2 (And.intro aj aL) ?_;refine K.cX (fun g3=>?_) (fun g3=>?_);rotate_left
 ·refine b2 (And.intro aj aL) ?_;rw[←e6] at g3;rw[o.scalars,o.hG cN c8 (by rw[yl hm g3];decide),yl hm g3];exact⟨rfl,he.trans aA⟩
 have oE:=g3;rw[←e6] at oE;replace aA:=he.trans aA;clear he ht;refine b2 (And.intro aj aL) ?_;refine K.loop (fun a1 w' => ∃k:Nat,k≤i∧a1 5 = .int .i64 k∧(∀j,j<k→o.nameAt (fun x:o.Scalar=>x.name) l j≠o.nameAt (fun x:o.Scalar=>x.name) l i)∧Ext w w')
  (fun S _=>(i - intOf (S 5)).toNat) ⟨0,by omega,by simp -dsimp only[cI,cu,Nat.reduceAdd,Nat.reduceEqDiff,reduceIte,reduceCtorEq,cS];rfl,fun _ h=>absurd h (Nat.not_lt_zero _),aA⟩ ?_
 rintro lN ba mX ⟨k,hk,bn,dc,au⟩;have cv:=aj;have cw:=aL;have aj:=mX 0 rfl;have aL:=mX 4 rfl;simp only[cb,Nat.reduceAdd,Nat.reduceEqDiff,reduceIte,ij,k7] at aj aL;clear mX;rw[cv] at aj;rw[cw] at aL;have ht:=bB.ext o.ia.ext au aQ;have qj:=(ht.at i cN).cells 0 _ rfl;have al:=(ht.at i cN).cells 1 _ rfl;refine b2 (And.intro aj (And.intro aL bn)) ?_;apply K.cond<;>intro g4
 ·have bb:k<l.length:=by omega
  have kJ:=(ht.at k bb).cells 0 _ rfl;have kn:o.nameAt (fun x:o.Scalar=>x.name) l k=l[k].name:=pK _ _ _ bb;refine b2 (And.intro aj (And.intro aL bn)) ?_;refine K.dr k rfl bb ?_;refine b2 (And.intro aj (And.intro aL bn)) ?_;refine K.ld kJ ?_;refine b2 (And.intro aj (And.intro aL bn)) ?_;refine K.dr i rfl cN ?_;refine b2 (And.intro aj (And.intro aL bn)) ?_;refine K.ld qj ?_;refine b2 (And.intro aj (And.intro aL bn)) ?_;intro bo aP;apply K.cond<;>intro g5
  ·refine b2 (And.intro aj (And.intro aL bn)) ?_;have aK:=HV (mo:=o.rI l) hm oE (show k<i by omega) (by rw[kn,e6];exact g5);rw[o.scalars,o.hG cN c8 (by rw[aK];decide),aK];exact⟨rfl,au.trans aP⟩
  ·refine b2 (And.intro aj (And.intro aL bn)) ?_;refine K.wrap (by omega) ?_;refine b2 (And.intro aj (And.intro aL bn)) ?_;refine⟨⟨k+1,by omega,rfl,fun j aT=>?_,au.trans aP⟩,by simp[intOf];omega⟩;by_cases hs:j<k
   ·exact dc j hs
   ·have:j=k:=by omega
    subst this;rw[kn,e6];exact g5
 have gb:=HU (mo:=o.rI l) hm oE (fun j aT=>dc j (by omega));have wG:o.rI l i=if 1≤l[i].size∧l[i].size≤4 then 0 else 10:=by simp[o.rI,cN]
 rw[wG] at gb;generalize l[i].size=z at al gb;refine b2 (And.intro aj (And.intro aL bn)) ?_;refine K.dr i rfl cN ?_;refine b2 (And.intro aj (And.intro aL bn)) ?_;refine K.ld al ?_;refine b2 (And.intro aj (And.intro aL bn)) ?_;apply K.cond<;>intro g6
 ·refine b2 (And.intro aj (And.intro aL bn)) ?_;rw[if_neg (by omega)] at gb;rw[o.scalars,o.hG cN c8 (by rw[gb];decide),gb];exact⟨rfl,au⟩
 refine b2 (And.intro aj (And.intro aL bn)) ?_;refine K.dr i rfl cN ?_;refine b2 (And.intro aj (And.intro aL bn)) ?_;refine K.ld al ?_;refine b2 (And.intro aj (And.intro aL bn)) ?_;apply K.cond<;>intro g7
 ·refine b2 (And.intro aj (And.intro aL bn)) ?_;rw[if_neg (by omega)] at gb;rw[o.scalars,o.hG cN c8 (by rw[gb];decide),gb];exact⟨rfl,au⟩
 ·refine b2 (And.intro aj (And.intro aL bn)) ?_;rw[if_pos (by omega)] at gb;refine K.wrap (by omega) ?_;refine b2 (And.intro aj (And.intro aL bn)) ?_;refine⟨⟨i+1,by omega,rfl,fun j aT=>?_,au⟩,by simp[intOf,cw];omega⟩;by_cases gm:j<i
  ·exact c8 j gm
  ·have:j=i:=by omega
   subst this;exact gb
end Go.Proofs.R
end
section
set_option linter.unusedSimpArgs false
namespace Go.Proofs.R
open Go Go.RowKit bt
theorem Uj(aZ ad:Int)(w:World):bq Tryz.prog F.wV #[.int .i64 aZ,.int .i64 ad] w fun v w'=>v = .bool (o.narrow aZ ad)∧w'=w:=by
 refine bI E.wV ?_;refine bF ?_
 (repeat' first
  | (refine K.cond (fun _=>?_) (fun _=>?_)<;>try (exfalso;omega))
  | (refine K.cX (fun _=>?_) (fun _=>?_))
  | (refine K.wrap (by omega) ?_)
  | (refine K.ld (by assumption) ?_)
  | (refine K.hv (by omega) ?_)
  | simp -dsimp only[cI,cu,Nat.reduceAdd,Nat.reduceEqDiff,reduceIte,reduceCtorEq,cS])
 all_goals (refine⟨?_,by first | rfl | trivial⟩;congr 1;rw[Bool.eq_iff_iff];simp[o.narrow];omega)
def Gr(v:o.Var)(s:List o.Scalar):Int :=
 if (v.scalar≠0∧o.size v.scalar s=0)∨(v.over≠0∧o.size v.over s=0) then 8
 else if v.scalar=0∧(o.narrow v.aZ v.ad=false∨v.init<v.aZ∨v.init > v.ad) then 10
 else if v.scalar≠0∧(v.init<0∨v.init > o.size v.scalar s) then 10 else 0
theorem agf(l:List o.Var)(s:List o.Scalar)(i:Nat)(h:i<l.length):o.nk l s i=Gr l[i] s:=by
 rw[o.nk,List.getElem?_eq_getElem h];simp only[Gr,o.there,o.bounds,decide_eq_false_iff_not];by_cases aj:l[i].scalar=0
 ·simp only[aj,if_true];by_cases h1:l[i].over=0
  ·simp[h1]
  ·simp[h1]
 ·simp only[aj,if_false];by_cases h1:l[i].over=0
  ·simp[aj,h1]
  ·simp[aj,h1]
theorem aeH(x:o.Var)(v:Value)(l:List o.Scalar)(w:World)(aQ:o.fY w v l) :
  bq Tryz.prog F.Cd #[.agg x.enc.toArray,v] w fun v w'=>v = .int .i64 (Gr x l)∧Ext w w':=by
 obtain⟨bh,cap,rfl,hlen⟩:=aQ.form;refine bI E.Cd ?_;refine bF ?_;simp -dsimp only[cI,cu,Nat.reduceAdd,Nat.reduceEqDiff,reduceIte,reduceCtorEq,cS];refine K.new fun w1 b aD az al=>?_;have nP:=bB.ext o.ia.ext az aQ;have c1:w1.cell? (Addr.add ⟨b,0,none⟩ 1)=some (.int .i64 x.scalar):=fi al rfl;have c2:w1.cell? (Addr.add ⟨b,0,none⟩ 2)=some (.int .i64 x.over):=fi al rfl;have bK:w1.cell? (Addr.add ⟨b,0,none⟩ 3)=some (.int .i64 x.aZ):=fi al rfl;have bQ:w1.cell? (Addr.add ⟨b,0,none⟩ 4)=some (.int .i64 x.ad):=fi al rfl;have ny:w1.cell? (Addr.add ⟨b,0,none⟩ 5)=some (.int .i64 x.init):=fi al rfl;have aF:∀k w',Ext w1 w'→bq Tryz.prog F.pD #[.slice bh l.length cap,.int .i64 k] w' fun u bY=>u = .int .i64 (o.size k l)∧Ext w' bY:=fun k w' he =>
  (zt k _ l w' (bB.ext o.ia.ext he nP)).mono fun v bY h=>⟨h.1,h.2 ▸ Ext.refl _⟩
 (repeat' first
  | (refine K.cond (fun _=>?_) (fun _=>?_)<;>try (exfalso;omega))
  | (refine K.cX (fun _=>?_) (fun _=>?_))
  | (refine K.ld (by assumption) ?_)
  | (refine K.call (zt _ _ l _ nP) ?_;rintro _ w1 ⟨rfl,rfl⟩)
  | (refine K.call (Uj _ _ _) ?_;rintro _ w1 ⟨rfl,rfl⟩)
  | (refine K.fX _ (aF _) ?_)
  | simp -dsimp only[cI,cu,Nat.reduceAdd,Nat.reduceEqDiff,reduceIte,reduceCtorEq,cS]
  | (intro aR aA;replace aA:=az.trans aA))
 all_goals (refine⟨?_,by assumption⟩;congr 1;unfold Gr;simp only[o.narrow,decide_eq_false_iff_not])
 all_goals (repeat' split)
 all_goals first | rfl | (exfalso;omega)
theorem Tz(v v2:Value)(l:List o.Var)(s:List o.Scalar)(eW:Int)(w:World)(aQ:o.gF w v l)(ay:o.fY w v2 s) :
  bq Tryz.prog F.y9 #[v,v2,.int .i64 eW] w fun v w'=>v = .tuple #[.int .i64 (o.vars l s eW).1,.int .i64 (o.vars l s eW).2]∧Ext w w':=by
 obtain⟨bh,cap,rfl,hlen⟩:=aQ.form;refine bI E.y9 ?_;refine bF ?_;simp -dsimp only[cI,cu,Nat.reduceAdd,Nat.reduceEqDiff,reduceIte,reduceCtorEq,cS];refine K.loop (fun S w' => ∃i:Nat,i≤l.length∧S 8 = .int .i64 i∧(∀j,j<i→o.err (max eW 0) (o.nameAt (·.name) l) (o.nk l s) j=0)∧Ext w w')
  (fun S _=>(l.length - intOf (S 8)).toNat) ⟨0,by omega,by simp -dsimp only[cI,cu,Nat.reduceAdd,Nat.reduceEqDiff,reduceIte,reduceCtorEq,cS];rfl,fun _ h=>absurd h (Nat.not_lt_zero _),Ext.refl _⟩ ?_
 rintro S w' ch ⟨i,ad,dA,c8,he⟩;have aj:=ch 0 rfl;have h1:=ch 1 rfl;have U:=ch 2 rfl;simp only[cb,Nat.reduceAdd,Nat.reduceEqDiff,reduceIte,ij,k7] at aj h1 U;clear ch;refine b2 (And.intro aj (And.intro h1 (And.intro U dA))) ?_;apply K.cond<;>intro g1;rotate_left
 ·refine b2 (And.intro aj (And.intro h1 (And.intro U dA))) ?_;rw[o.vars,o.mV (fun j aT=>c8 j (by omega))];exact⟨rfl,he⟩
 have cN:i<l.length:=by omega
 obtain⟨a,rfl⟩:=aQ.addr (by omega);have ht:=bB.ext o.ot.ext he aQ;have qj:=(ht.at i cN).cells 0 _ rfl;have dd:o.hQ l[i].name:=(ht.at i cN).ok;have e6:o.nameAt (fun x:o.Var=>x.name) l i=l[i].name:=pK _ _ _ cN;refine b2 (And.intro aj (And.intro h1 (And.intro U dA))) ?_;apply K.cond<;>intro g2
 ·refine b2 (And.intro aj (And.intro h1 (And.intro U dA))) ?_;rw[o.vars,o.hG cN c8 (by rw[vP (by omega)];decide),vP (by omega)];exact⟨rfl,he⟩
 have hm:¬(max eW 0:Int)≤(i:Int):=by omega
 refine b2 (And.intro aj (And.intro h1 (And.intro U dA))) ?_;refine K.dr i rfl cN ?_;refine b2 (And.intro aj (And.intro h1 (And.intro U dA))) ?_;refine K.ld qj ?_;refine b2 (And.intro aj (And.intro h1 (And.intro U dA))) ?_;refine K.call (zy _ _ dd) ?_;rintro _ aR ⟨rfl,aA⟩;refine b2 (And.intro aj (And.intro h1 (And.intro U dA))) ?_;refine K.cX (fun g3=>?_) (fun g3=>?_);rotate_left
 ·refine b2 (And.intro aj (And.intro h1 (And.intro U dA))) ?_;rw[←e6] at g3;rw[o.vars,o.hG cN c8 (by rw[yl hm g3];decide),yl hm g3];exact⟨rfl,he.trans aA⟩
 have oE:=g3;rw[←e6] at oE;replace aA:=he.trans aA;clear he ht;refine b2 (And.intro aj (And.intro h1 (And.intro U dA))) ?_;refine K.loop (fun a1 w' => ∃k:Nat,k≤i∧a1 9 = .int .i64 k∧(∀j,j<k→o.nameAt (fun x:o.Var=>x.name) l j≠o.nameAt (fun x:o.Var=>x.name) l i)∧Ext w w')
  (fun S _=>(i - intOf (S 9)).toNat) ⟨0,by omega,by simp -dsimp only[cI,cu,Nat.reduceAdd,Nat.reduceEqDiff,reduceIte,reduceCtorEq,cS];rfl,fun _ h=>absurd h (Nat.not_lt_zero _),aA⟩ ?_
 rintro lN ba mX ⟨k,hk,hI,dc,au⟩;have cv:=aj;have b9:=h1;have cq:=U;have SZ:=dA;have aj:=mX 0 rfl;have h1:=mX 1 rfl;have U:=mX 2 rfl;have dA:=mX 8 rfl;simp only[cb,Nat.reduceAdd,Nat.reduceEqDiff,reduceIte,ij,k7] at aj h1 U dA;clear mX;rw[cv] at aj;rw[b9] at h1;rw[cq] at U;rw[SZ] at dA;have ht:=bB.ext o.ot.ext au aQ;have qj:=(ht.at i cN).cells 0 _ rfl;refine b2 (And.intro aj (And.intro h1 (And.intro U (And.intro dA hI)))) ?_;apply K.cond<;>intro g4
 ·have bb:k<l.length:=by omega
  have kJ:=(ht.at k bb).cells 0 _ rfl;have kn:o.nameAt (fun x:o.Var=>x.name) l k=l[k].name:=pK _ _ _ bb;refine b2 (And.intro aj (And.intro h1 (And.intro U (And.intro dA hI)))) ?_;refine K.dr k rfl bb ?_;refine b2 (And.intro aj (And.intro h1 (And.intro U (And.intro dA hI)))) ?_;refine K.ld kJ ?_;refine b2 (And.intro aj (And.intro h1 (And.intro U (And.intro dA hI)))) ?_;refine K.dr i rfl cN ?_;refine b2 (And.intro aj (And.intro h1 (And.intro U (And.intro dA hI)))) ?_;refine K.ld qj ?_;refine b2 (And.intro aj (And.intro h1 (And.intro U (And.intro dA hI)))) ?_;intro bo aP;apply K.cond<;>intro g5
  ·refine b2 (And.intro aj (And.intro h1 (And.intro U (And.intro dA hI)))) ?_;have aK:=HV (mo:=o.nk l s) hm oE (show k<i by omega) (by rw[kn,e6];exact g5);rw[o.vars,o.hG cN c8 (by rw[aK];decide),aK];exact⟨rfl,au.trans aP⟩
  ·refine b2 (And.intro aj (And.intro h1 (And.intro U (And.intro dA hI)))) ?_;refine K.wrap (by omega) ?_;refine b2 (And.intro aj (And.intro h1 (And.intro U (And.intro dA hI)))) ?_;refine⟨⟨k+1,by omega,rfl,fun j aT=>?_,au.trans aP⟩,by simp[intOf];omega⟩;by_cases hs:j<k
   ·exact dc j hs
   ·have:j=k:=by omega
    subst this;rw[kn,e6];exact g5
 have gb:=HU (mo:=o.nk l s) hm oE (fun j aT=>dc j (by omega));rw[agf l s i cN] at gb;have wF:=bB.ext o.ia.ext au ay;have lf:=(ht.at i cN).cells;generalize l[i]=x at lf gb;refine b2 (And.intro aj (And.intro h1 (And.intro U (And.intro dA hI)))) ?_;refine K.dr i rfl cN ?_;refine b2 (And.intro aj (And.intro h1 (And.intro U (And.intro dA hI)))) ?_;refine K.iZ lf rfl ?_;refine b2 (And.intro aj (And.intro h1 (And.intro U (And.intro dA hI)))) ?_;refine K.call (aeH x _ s _ wF) ?_;rintro _ bo ⟨rfl,aP⟩;replace aP:=au.trans aP;refine b2 (And.intro aj (And.intro h1 (And.intro U (And.intro dA hI)))) ?_;apply K.cond<;>intro g6;rotate_left
 ·refine b2 (And.intro aj (And.intro h1 (And.intro U (And.intro dA hI)))) ?_;rw[o.vars,o.hG cN c8 (by rw[gb];exact g6),gb];exact⟨rfl,aP⟩
 ·refine b2 (And.intro aj (And.intro h1 (And.intro U (And.intro dA hI)))) ?_;rw[g6] at gb;refine K.wrap (by omega) ?_;refine b2 (And.intro aj (And.intro h1 (And.intro U (And.intro dA hI)))) ?_;refine⟨⟨i+1,by omega,rfl,fun j aT=>?_,aP⟩,by simp[intOf,SZ];omega⟩;by_cases gm:j<i
  ·exact c8 j gm
  ·have:j=i:=by omega
   subst this;exact gb
end Go.Proofs.R
end
section
set_option linter.unusedSimpArgs false
namespace Go.Proofs.R
open Go Go.RowKit bt
theorem aew(v v2:Value)(l:List o.c4)(s:List o.Scalar)(w:World)(aQ:o.lG w v l)(ay:o.fY w v2 s) :
  bq Tryz.prog F.Cb #[v,v2] w fun v w'=>v = .tuple #[.int .i64 (o.aH l s).1,.int .i64 (o.aH l s).2]∧Ext w w':=by
 obtain⟨bh,cap,rfl,hlen⟩:=aQ.form;refine bI E.Cb ?_;refine bF ?_;refine aS ?_;refine K.loop (fun S w' => ∃i:Nat,i≤l.length∧S 6 = .int .i64 i∧(∀j,j<i→o.err 4 (o.nameAt (·.name) l) (o.mT l s) j=0)∧Ext w w')
  (fun S _=>(l.length - intOf (S 6)).toNat) ⟨0,by omega,by refine aS ?_;rfl,fun _ h=>absurd h (Nat.not_lt_zero _),Ext.refl _⟩ ?_
 rintro S w' ch ⟨i,ad,bL,c8,he⟩;have aj:=ch 0 rfl;have h1:=ch 1 rfl;simp only[cb,Nat.reduceAdd,Nat.reduceEqDiff,reduceIte,ij,k7] at aj h1;clear ch;have Fi:=SH (by omega) c8;simp -dsimp only[cI,cu,Nat.reduceAdd,Nat.reduceEqDiff,reduceIte,reduceCtorEq,cS,aj,h1,bL];apply K.cond<;>intro g1;rotate_left
 ·simp -dsimp only[cI,cu,Nat.reduceAdd,Nat.reduceEqDiff,reduceIte,reduceCtorEq,cS,aj,h1,bL];rw[o.aH,o.mV (fun j aT=>c8 j (by omega))];exact⟨rfl,he⟩
 have cN:i<l.length:=by omega
 obtain⟨a,rfl⟩:=aQ.addr (by omega);have ht:=bB.ext o.oq.ext he aQ;have qj:=(ht.at i cN).cells 0 _ rfl;have dd:o.hQ l[i].name:=(ht.at i cN).ok;have e6:o.nameAt (fun x:o.c4=>x.name) l i=l[i].name:=pK _ _ _ cN;simp -dsimp only[cI,cu,Nat.reduceAdd,Nat.reduceEqDiff,reduceIte,reduceCtorEq,cS,aj,h1,bL];apply K.cond<;>intro g2
 ·simp -dsimp only[cI,cu,Nat.reduceAdd,Nat.reduceEqDiff,reduceIte,reduceCtorEq,cS,aj,h1,bL];rw[o.aH,o.hG cN c8 (by rw[vP (by omega)];decide),vP (by omega)];exact⟨rfl,he⟩
 have hm:¬(4:Int)≤(i:Int):=by omega
 simp -dsimp only[cI,cu,Nat.reduceAdd,Nat.reduceEqDiff,reduceIte,reduceCtorEq,cS,aj,h1,bL];refine K.dr i rfl cN ?_;simp -dsimp only[cI,cu,Nat.reduceAdd,Nat.reduceEqDiff,reduceIte,reduceCtorEq,cS,aj,h1,bL];refine K.ld qj ?_;simp -dsimp only[cI,cu,Nat.reduceAdd,Nat.reduceEqDiff,reduceIte,reduceCtorEq,cS,aj,h1,bL];refine K.call (zy _ _ dd) ?_;rintro _ aR ⟨rfl,aA⟩;simp -dsimp only[cI,cu,Nat.reduceAdd,Nat.reduceEqDiff,reduceIte,reduceCtorEq,cS,aj,h1,bL];refine K.cX (fun g3=>?_) (fun g3=>?_);rotate_left
 ·simp -dsimp only[cI,cu,Nat.reduceAdd,Nat.reduceEqDiff,reduceIte,reduceCtorEq,cS,aj,h1,bL];rw[←e6] at g3;rw[o.aH,o.hG cN c8 (by rw[yl hm g3];decide),yl hm g3];exact⟨rfl,he.trans aA⟩
 have oE:=g3;rw[←e6] at oE;replace aA:=he.trans aA;clear he ht;simp -dsimp only[cI,cu,Nat.reduceAdd,Nat.reduceEqDiff,reduceIte,reduceCtorEq,cS,aj,h1,bL];refine K.loop (fun a1 w' => ∃k:Nat,k≤i∧a1 7 = .int .i64 k∧(∀j,j<k→o.nameAt (fun x:o.c4=>x.name) l j≠o.nameAt (fun x:o.c4=>x.name) l i)∧Ext w w')
  (fun S _=>(i - intOf (S 7)).toNat) ⟨0,by omega,by refine aS ?_;rfl,fun _ h=>absurd h (Nat.not_lt_zero _),aA⟩ ?_
 rintro lN ba mX ⟨k,hk,b7,dc,au⟩;have cv:=aj;have b9:=h1;have SY:=bL;have aj:=mX 0 rfl;have h1:=mX 1 rfl;have bL:=mX 6 rfl;simp only[cb,Nat.reduceAdd,Nat.reduceEqDiff,reduceIte,ij,k7] at aj h1 bL;clear mX;rw[cv] at aj;rw[b9] at h1;rw[SY] at bL;have ht:=bB.ext o.oq.ext au aQ;have qj:=(ht.at i cN).cells 0 _ rfl;simp -dsimp only[cI,cu,Nat.reduceAdd,Nat.reduceEqDiff,reduceIte,reduceCtorEq,cS,aj,h1,bL,b7];apply K.cond<;>intro g4
 ·have bb:k<l.length:=by omega
  have kJ:=(ht.at k bb).cells 0 _ rfl;have kn:o.nameAt (fun x:o.c4=>x.name) l k=l[k].name:=pK _ _ _ bb;simp -dsimp only[cI,cu,Nat.reduceAdd,Nat.reduceEqDiff,reduceIte,reduceCtorEq,cS,aj,h1,bL,b7];refine K.dr k rfl bb ?_;simp -dsimp only[cI,cu,Nat.reduceAdd,Nat.reduceEqDiff,reduceIte,reduceCtorEq,cS,aj,h1,bL,b7];refine K.ld kJ ?_;simp -dsimp only[cI,cu,Nat.reduceAdd,Nat.reduceEqDiff,reduceIte,reduceCtorEq,cS,aj,h1,bL,b7];refine K.dr i rfl cN ?_;simp -dsimp only[cI,cu,Nat.reduceAdd,Nat.reduceEqDiff,reduceIte,reduceCtorEq,cS,aj,h1,bL,b7];refine K.ld qj ?_;simp -dsimp only[cI,cu,Nat.reduceAdd,Nat.reduceEqDiff,reduceIte,reduceCtorEq,cS,aj,h1,bL,b7];intro bo aP;apply K.cond<;>intro g5
  ·simp -dsimp only[cI,cu,Nat.reduceAdd,Nat.reduceEqDiff,reduceIte,reduceCtorEq,cS,aj,h1,bL,b7];have aK:=HV (mo:=o.mT l s) hm oE (show k<i by omega) (by rw[kn,e6];exact g5);rw[o.aH,o.hG cN c8 (by rw[aK];decide),aK];exact⟨rfl,au.trans aP⟩
  ·simp -dsimp only[cI,cu,Nat.reduceAdd,Nat.reduceEqDiff,reduceIte,reduceCtorEq,cS,aj,h1,bL,b7];refine K.wrap (by omega) ?_;simp -dsimp only[cI,cu,Nat.reduceAdd,Nat.reduceEqDiff,reduceIte,reduceCtorEq,cS,aj,h1,bL,b7];refine⟨⟨k+1,by omega,rfl,fun j aT=>?_,au.trans aP⟩,by simp[intOf];omega⟩;by_cases hs:j<k
   ·exact dc j hs
   ·have:j=k:=by omega
    subst this;rw[kn,e6];exact g5
 have gb:=HU (mo:=o.mT l s) hm oE (fun j aT=>dc j (by omega));have eZ:o.mT l s i=if o.there l[i].scalar s=false then 8 else if l[i].cap<1∨l[i].cap > 4∨(l[i].scalar=0∧o.narrow l[i].aZ l[i].ad=false) then 10 else 0:=by simp[o.mT,cN]
 rw[eZ] at gb;have wF:=bB.ext o.ia.ext au ay;have c1:=(ht.at i cN).cells 1 _ rfl;have c2:=(ht.at i cN).cells 2 _ rfl;have bK:=(ht.at i cN).cells 3 _ rfl;have bQ:=(ht.at i cN).cells 4 _ rfl;simp only[o.there,o.narrow,decide_eq_false_iff_not] at gb;generalize l[i].scalar=xs at c1 gb;generalize l[i].cap=ajG at c2 gb;generalize l[i].aZ=Lk at bK gb;generalize l[i].ad=Lj at bQ gb;clear eZ;have aF:∀w',Ext ba w'→bq Tryz.prog F.wV #[.int .i64 Lk,.int .i64 Lj] w' fun u bY=>u = .bool (o.narrow Lk Lj)∧Ext w' bY:=fun w' he =>
  (Uj Lk Lj w').mono fun v bY h=>⟨h.1,h.2 ▸ Ext.refl _⟩
 simp -dsimp only[cI,cu,Nat.reduceAdd,Nat.reduceEqDiff,reduceIte,reduceCtorEq,cS,aj,h1,bL,b7]
 (repeat' first
  | (refine K.cond (fun _=>?_) (fun _=>?_)<;>try (exfalso;omega))
  | (refine K.cX (fun _=>?_) (fun _=>?_))
  | (refine K.dr i rfl cN ?_)
  | (refine K.ld (by assumption) ?_)
  | (refine K.call (zt _ _ s _ wF) ?_;rintro _ ba ⟨rfl,rfl⟩)
  | (refine K.fX _ aF ?_)
  | simp -dsimp only[cI,cu,Nat.reduceAdd,Nat.reduceEqDiff,reduceIte,reduceCtorEq,cS,aj,h1,bL,b7]
  | (intro bo aP;replace aP:=au.trans aP))
 all_goals first
  | (rw[if_pos (by omega)] at gb
     rw[o.aH,o.hG cN c8 (by rw[gb];decide),gb];exact⟨rfl,by assumption⟩)
  | (rw[if_neg (by omega),if_pos (by omega)] at gb
     rw[o.aH,o.hG cN c8 (by rw[gb];decide),gb];exact⟨rfl,by assumption⟩)
  | (rw[if_neg (by omega),if_neg (by omega)] at gb
     refine K.wrap (by omega) ?_;simp -dsimp only[cI,cu,Nat.reduceAdd,Nat.reduceEqDiff,reduceIte,reduceCtorEq,cS,aj,h1,bL,b7];refine⟨⟨i+1,by omega,rfl,fun j aT=>?_,by assumption⟩,by simp[intOf,SY];omega⟩;by_cases gm:j<i
     ·exact c8 j gm
     ·have:j=i:=by omega
      subst this;exact gb)
end Go.Proofs.R
end
section
namespace o
theorem VK(m:Model)(i:Nat):r2 m 2 i=pJ m i:=by
 have bT:cC 1 2 i m.vars.length=min m.vars.length i:=by unfold cC;rw[if_pos (by decide),if_neg (by decide)];simp
 have bg:cC 2 2 i m.aH.length=0:=by unfold cC;rw[if_neg (by decide)]
 have bO:cC 3 2 i m.procs.length=0:=by unfold cC;rw[if_neg (by decide)]
 have b8:gE 2 i m.props.length=0:=by unfold gE;rw[if_neg (by decide)]
 unfold r2;rw[bT,bg,bO,b8];simp only[pJ,CN,w6,List.take_zero,List.map_nil,List.append_nil];rw[Nat.min_comm,←List.take_take];simp only[List.take_length]
theorem VI(m:Model)(i:Nat):r2 m 3 i=lr m i:=by
 have bT:cC 1 3 i m.vars.length=m.vars.length:=by unfold cC;rw[if_pos (by decide),if_pos (by decide)]
 have bg:cC 2 3 i m.aH.length=min m.aH.length i:=by unfold cC;rw[if_pos (by decide),if_neg (by decide)];simp
 have bO:cC 3 3 i m.procs.length=0:=by unfold cC;rw[if_neg (by decide)]
 have b8:gE 3 i m.props.length=0:=by unfold gE;rw[if_neg (by decide)]
 unfold r2;rw[bT,bg,bO,b8];simp only[lr,pJ,CN,w6,w5,List.take_zero,List.map_nil,List.append_nil];rw[Nat.min_comm,←List.take_take];simp only[List.take_length]
theorem VJ(m:Model)(i:Nat):r2 m 4 i=hy m i:=by
 have bT:cC 1 4 i m.vars.length=m.vars.length:=by unfold cC;rw[if_pos (by decide),if_pos (by decide)]
 have bg:cC 2 4 i m.aH.length=m.aH.length:=by unfold cC;rw[if_pos (by decide),if_pos (by decide)]
 have bO:cC 3 4 i m.procs.length=min m.procs.length i:=by unfold cC;rw[if_pos (by decide),if_neg (by decide)];simp
 have b8:gE 4 i m.props.length=0:=by unfold gE;rw[if_neg (by decide)]
 unfold r2;rw[bT,bg,bO,b8];simp only[hy,lr,pJ,CN,w6,w5,u0,List.take_zero,List.map_nil,List.append_nil];rw[Nat.min_comm,←List.take_take];simp only[List.take_length]
theorem Oz(m:Model)(i:Nat):r2 m 5 i=pI m i:=by
 have bT:cC 1 5 i m.vars.length=m.vars.length:=by unfold cC;rw[if_pos (by decide),if_pos (by decide)]
 have bg:cC 2 5 i m.aH.length=m.aH.length:=by unfold cC;rw[if_pos (by decide),if_pos (by decide)]
 have bO:cC 3 5 i m.procs.length=m.procs.length:=by unfold cC;rw[if_pos (by decide),if_pos (by decide)]
 have b8:gE 5 i m.props.length=min m.props.length i:=by unfold gE;rw[if_pos (by decide)];simp
 unfold r2;rw[bT,bg,bO,b8];simp only[pI,hy,lr,pJ,CN,w6,w5,u0,J0];rw[Nat.min_comm,←List.take_take];simp only[List.take_length]
theorem tn(q p i:Int)(len:Nat):cC q p i len≤len:=by unfold cC; (repeat' split)<;>omega
end o
namespace Go.Proofs.R
open Go Go.RowKit bt
def ui(f:o.pW):Value:=.agg #[.int .i64 f.dh,.int .i64 f.part,.int .i64 f.item,.int .i64 f.sub]
theorem aex(cs:List Value)(m:o.Model)(w:World)(h:o.ew w cs m) :
  bq Tryz.prog F.Cp #[.agg cs.toArray] w fun v w'=>v=ui (o.data m)∧Ext w w':=by
 have bd:=h;obtain⟨cv,bN,b9,c1,cq,c2,cm,bK,cw,bQ,rfl,aj,h1,U,ai,aL,eG,dt,dB,dT,er⟩:=h.form;refine bI E.Cp ?_;refine bF ?_;refine aa ?_;intro w1 bz cK az al;refine aa ?_;intro aR b4 dw aA aI;replace al:=aA.obj al;have bg:=az.trans aA;have fy:=cL al;have z2:=az.size;refine aa ?_;refine K.call (aeF _ m.scalars aR (aj.ext bg)) ?_;rintro _ ba ⟨rfl,au⟩;replace al:=au.obj al;replace aI:=au.obj aI;have bO:=bg.trans au;clear bg;refine aa ?_;apply K.cond<;>intro g1;rotate_left
 ·have bs:=o.O6 g1;refine aa ?_;intro bo ed bJ;refine aa ?_;exact⟨by rw[bs];rfl,ed.ext bO (by omega)⟩
 have ch:(o.scalars m.scalars).2=0:=by simpa using g1
 have mX:=o.T4 ch;have uu:=al;have wg:=aI;refine aa ?_;refine K.da 5 m.vars.length [1,2] (fun _:Unit=>[]) () (fun k _ w'=>Ext ba w'∧∀j,j<k→o.hV m j=0) bw bw ⟨Ext.refl _,fun j h=>absurd h (Nat.not_lt_zero _)⟩ ?_;clear al aI;rintro k _ S bo hk ⟨aP,bU⟩;have al:=aP.obj uu;have aI:=aP.obj wg;have b8:=bO.trans aP;refine aa ?_;apply K.cond<;>intro g2
 ·have bb:k<m.vars.length:=by omega
  have ho:=(bB.len h1).2;have IC:=ho.2;unfold maxLen at IC;obtain⟨a,rfl⟩:=h1.addr (by omega);have e6:=o.zl (f:=fun x:o.Var=>x.name) bb;have eu:=((h1.at k bb).cells).ext b8;have Jz:∀j,j<k→o.l8 m j=0:=fun j aT=>o.Gw (bU j aT);refine aa ?_;refine K.rK (k:=.i64) (k+1) (by simp[fr,cb]) (by omega) ?_;refine aa ?_;refine K.fX (.tuple #[.int .i64 (o.vars (m.vars.take (k+1)) m.scalars 12).1,.int .i64 (o.vars (m.vars.take (k+1)) m.scalars 12).2]) (fun w' e=>Tz _ _ (m.vars.take (k+1)) m.scalars 12 w' ((h1.head (k+1) (by omega)).ext o.ot.ext (b8.trans e)) (aj.ext (b8.trans e))) ?_;refine aa ?_;intro bR bf;replace al:=bf.obj al;replace aI:=bf.obj aI;replace eu:=eu.ext bf;have ca:=b8.trans bf;rw[o.agl bb Jz];refine aa ?_;apply K.cond<;>intro g3;rotate_left
  ·have js:o.hV m k=o.l8 m k:=by unfold o.hV;rw[if_pos g3]
   have bs:=o.EB ch bb bU (by rw[js];exact g3);rw[js] at bs;refine aa ?_;intro bW gd dm;refine aa ?_;exact⟨by rw[bs];rfl,gd.ext ca (by omega)⟩
  have jV:o.l8 m k=0:=by simpa using g3
  have ahV:k<12:=by
   apply Classical.byContradiction;intro aN;have h:=jV;unfold o.l8 o.err at h;rw[if_pos (by omega)] at h;cases h
  refine aa ?_;intro bW bc;replace al:=bc.obj al;replace aI:=bc.obj aI;refine aa ?_;refine K.call (An _ m 2 k bW (bd.ext (ca.trans bc)) (by omega) (by omega) (by
   have eb:o.cC 1 2 k m.vars.length≤k:=by unfold o.cC; (repeat' split)<;>omega
   have dY:o.cC 2 2 k m.aH.length=0:=by unfold o.cC;rw[if_neg (by decide)]
   have eg:o.cC 3 2 k m.procs.length=0:=by unfold o.cC;rw[if_neg (by decide)]
   have gr:o.gE 2 k m.props.length=0:=by unfold o.gE;rw[if_neg (by decide)]
   omega)) ?_
  rintro _ cj ⟨⟨v,rfl,fB⟩,bP⟩;refine⟨bP,?_⟩;rw[o.VK] at fB;refine aa ?_;refine K.call (A8 v _ m.vars[k].name _ cj fB) ?_;rintro _ l9 ⟨rfl,rfl⟩;replace al:=bP.obj al;replace aI:=bP.obj aI;have QN:=bc.trans bP;have ee:=ca.trans QN;refine aa ?_;apply K.cond<;>intro g4
  ·have js:o.hV m k=7:=by unfold o.hV;rw[if_neg (by simpa using jV),e6,if_pos g4]
   have bs:=o.EB ch bb bU (by rw[js];decide);rw[js] at bs;refine aa ?_;intro dC kp eL;refine aa ?_;exact⟨by rw[bs];rfl,kp.ext ee (by omega)⟩
  ·refine aa ?_;refine⟨bb,bu,(),trivial,(aP.trans bf).trans QN,fun j aT=>?_⟩;by_cases hs:j=k
   ·subst hs;unfold o.hV;rw[if_neg (by simpa using jV),e6,if_neg g4]
   ·exact bU j (by omega)
 have kk:∀j,j<m.vars.length→o.hV m j=0:=fun j aT=>bU j (by omega);have ahm:m.vars.length≤12:=by
  apply Classical.byContradiction;intro aN
  have:=o.PD (kk 12 (by omega))
  omega
 clear al aI;refine aa ?_;refine K.da 8 m.aH.length [1,2] (fun _:Unit=>[]) () (fun k _ w'=>Ext ba w'∧∀j,j<k→o.iP m j=0) bw bw ⟨aP,fun j h=>absurd h (Nat.not_lt_zero _)⟩ ?_;clear b8;rintro k _ a1 bR hk ⟨bf,bU⟩;have al:=bf.obj uu;have aI:=bf.obj wg;have b8:=bO.trans bf;refine aa ?_;apply K.cond<;>intro g2
 ·have bb:k<m.aH.length:=by omega
  have ho:=(bB.len U).2;have IC:=ho.2;unfold maxLen at IC;obtain⟨a,rfl⟩:=U.addr (by omega);have e6:=o.zl (f:=fun x:o.c4=>x.name) bb;have eu:=((U.at k bb).cells).ext b8;have Jz:∀j,j<k→o.lS m j=0:=fun j aT=>o.Ep (bU j aT);refine aa ?_;refine K.rK (k:=.i64) (k+1) (by simp[fr,cb]) (by omega) ?_;refine aa ?_;refine K.fX (.tuple #[.int .i64 (o.aH (m.aH.take (k+1)) m.scalars).1,.int .i64 (o.aH (m.aH.take (k+1)) m.scalars).2]) (fun w' e=>aew _ _ (m.aH.take (k+1)) m.scalars w' ((U.head (k+1) (by omega)).ext o.oq.ext (b8.trans e)) (aj.ext (b8.trans e))) ?_;refine aa ?_;intro bW bc;replace al:=bc.obj al;replace aI:=bc.obj aI;replace eu:=eu.ext bc;have ca:=b8.trans bc;rw[o.W7 bb Jz];refine aa ?_;apply K.cond<;>intro g3;rotate_left
  ·have js:o.iP m k=o.lS m k:=by unfold o.iP;rw[if_pos g3]
   have bs:=o.Ez ch kk bb bU (by rw[js];exact g3);rw[js] at bs;refine aa ?_;intro bW gd dm;refine aa ?_;exact⟨by rw[bs];rfl,gd.ext ca (by omega)⟩
  have jV:o.lS m k=0:=by simpa using g3
  have ahW:k<4:=by
   apply Classical.byContradiction;intro aN;have h:=jV;unfold o.lS o.err at h;rw[if_pos (by omega)] at h;cases h
  refine aa ?_;intro cj bP;replace al:=bP.obj al;replace aI:=bP.obj aI;refine aa ?_;refine K.call (An _ m 3 k cj (bd.ext (ca.trans bP)) (by omega) (by omega) (by
   have eb:=o.tn 1 3 k m.vars.length;have dY:o.cC 2 3 k m.aH.length≤k:=by unfold o.cC; (repeat' split)<;>omega
   have eg:o.cC 3 3 k m.procs.length=0:=by unfold o.cC;rw[if_neg (by decide)]
   have gr:o.gE 3 k m.props.length=0:=by unfold o.gE;rw[if_neg (by decide)]
   omega)) ?_
  rintro _ dC ⟨⟨v,rfl,fB⟩,bV⟩;refine⟨bV,?_⟩;rw[o.VI] at fB;refine aa ?_;refine K.call (A8 v _ m.aH[k].name _ dC fB) ?_;rintro _ l9 ⟨rfl,rfl⟩;replace al:=bV.obj al;replace aI:=bV.obj aI;have yy:=bP.trans bV;have ee:=ca.trans yy;refine aa ?_;apply K.cond<;>intro g4
  ·have js:o.iP m k=7:=by unfold o.iP;rw[if_neg (by simpa using jV),e6,if_pos g4]
   have bs:=o.Ez ch kk bb bU (by rw[js];decide);rw[js] at bs;refine aa ?_;intro dC kp eL;refine aa ?_;exact⟨by rw[bs];rfl,kp.ext ee (by omega)⟩
  ·refine aa ?_;refine⟨bb,bu,(),trivial,(bf.trans bc).trans yy,fun j aT=>?_⟩;by_cases hs:j=k
   ·subst hs;unfold o.iP;rw[if_neg (by simpa using jV),e6,if_neg g4]
   ·exact bU j (by omega)
 have bs:=o.O4 ch kk fun j aT=>bU j (by omega);refine aa ?_;intro bW gd dm;refine aa ?_;exact⟨by rw[bs];rfl,gd.ext b8 (by omega)⟩
end Go.Proofs.R
end
section
namespace o
structure rV(m:Model):Prop where
 v:m.vars.length≤1000000
 c:m.aH.length≤1000000
 p:m.procs.length≤1000000
 i:∀p∈m.procs,p.vars.length≤1000000∧p.cJ.length≤1000000
def c1(m:Model)(k:Nat):Int:=hd ((m.vars.take k).map fun v=>cells v m.scalars)
def c2(m:Model)(k:Nat):Int:=hd ((m.aH.take k).map oB)
def i1(m:Model)(k:Nat):Int:=hd ((m.procs.take k).map (jx m))
def i2(m:Model)(k:Nat):Int:=hd ((m.procs.take k).map fun p=>jx m p*p.cJ.length)
def i3(m:Model)(k:Nat):Int:=hd ((m.procs.take k).map fun p=>jx m p*(1+p.vars.length))
theorem SK{α:Type}{l:List α}{k:Nat}{x:α}(h:x∈l.take k):x∈l:=List.mem_of_mem_take h
theorem x8{m:Model}(h:rV m)(k:Nat):0≤c1 m k∧c1 m k≤4000000:=by
 have:=Di (fun v=>cells v m.scalars) 4 (by decide) (m.vars.take k) fun v _=>r6 v _
 have h1:=h.v;have U:(m.vars.take k).length≤m.vars.length:=by simp;omega
 unfold c1;omega
theorem Ek{m:Model}(h:rV m)(k:Nat):0≤c2 m k∧c2 m k≤5000000:=by
 have:=Di oB 5 (by decide) (m.aH.take k) fun c _=>by have:=Hs c;omega
 have h1:=h.c;have U:(m.aH.take k).length≤m.aH.length:=by simp;omega
 unfold c2;omega
theorem RL{m:Model}(h:rV m)(k:Nat):0≤i1 m k∧i1 m k≤4000000:=by
 have:=Di (jx m) 4 (by decide) (m.procs.take k) fun p _=>CR m p
 have h1:=h.p;have U:(m.procs.take k).length≤m.procs.length:=by simp;omega
 unfold i1;omega
theorem zk{a b:Int}(br:0≤a∧a≤4)(aD:0≤b∧b≤1000001):0≤a*b∧a*b≤4000004:=by
 have:a=0∨a=1∨a=2∨a=3∨a=4:=by omega
 rcases this with rfl | rfl | rfl | rfl | rfl<;>omega
theorem RN{m:Model}(h:rV m)(k:Nat):0≤i2 m k∧i2 m k≤4000004000000:=by
 have:=Di (fun p=>jx m p*p.cJ.length) 4000004 (by decide) (m.procs.take k) fun p aO=>zk (CR m p) (by have:=(h.i p (SK aO)).2;omega)
 have h1:=h.p;have U:(m.procs.take k).length≤m.procs.length:=by simp;omega
 unfold i2;omega
theorem RP{m:Model}(h:rV m)(k:Nat):0≤i3 m k∧i3 m k≤4000004000000:=by
 have:=Di (fun p=>jx m p*(1+p.vars.length)) 4000004 (by decide) (m.procs.take k) fun p aO=>zk (CR m p) (by have:=(h.i p (SK aO)).1;omega)
 have h1:=h.p;have U:(m.procs.take k).length≤m.procs.length:=by simp;omega
 unfold i3;omega
theorem OM{m:Model}{k:Nat}(h:k<m.vars.length):c1 m (k+1)=c1 m k+cells m.vars[k] m.scalars:=Dj _ _ h
theorem ON{m:Model}{k:Nat}(h:k<m.aH.length):c2 m (k+1)=c2 m k+oB m.aH[k]:=Dj _ _ h
theorem RM{m:Model}{k:Nat}(h:k<m.procs.length):i1 m (k+1)=i1 m k+jx m m.procs[k]:=Dj _ _ h
theorem RO{m:Model}{k:Nat}(h:k<m.procs.length):i2 m (k+1)=i2 m k+jx m m.procs[k]*m.procs[k].cJ.length:=Dj _ _ h
theorem RQ{m:Model}{k:Nat}(h:k<m.procs.length):i3 m (k+1)=i3 m k+jx m m.procs[k]*(1+m.procs[k].vars.length):=Dj _ _ h
theorem Tc(m:Model){a b c:Nat}(br:m.vars.length≤a)(aD:m.aH.length≤b)(av:m.procs.length≤c):pieces m=(i1 m c,i2 m c,c1 m a+c2 m b+i3 m c):=by
 unfold pieces i1 i2 i3 c1 c2;rw[List.take_of_length_le br,List.take_of_length_le aD,List.take_of_length_le av]
end o
namespace Go.Proofs.R
open Go Go.RowKit bt
theorem adM(cs:List Value)(m:o.Model)(w:World)(h:o.ew w cs m)(aJ:o.rV m) :
  bq Tryz.prog F.jQ #[.agg cs.toArray] w fun v w'=>v = .tuple #[.int .i64 (o.pieces m).1,.int .i64 (o.pieces m).2.1,.int .i64 (o.pieces m).2.2]∧Ext w w':=by
 obtain⟨cv,bN,b9,c1,cq,c2,cm,bK,cw,bQ,rfl,aj,h1,U,ai,aL,eG,dt,dB,dT,er⟩:=h.form;refine bI E.jQ ?_;refine bF ?_;refine aa ?_;intro w1 bz cK az al;have rj:=al;clear al;refine aa ?_;refine K.da 18 m.vars.length [1,5,6,16,17] (fun s:Int=>[(7,.int .i64 s)]) 0 (fun k s w'=>Ext w1 w'∧s=o.c1 m k) bw bw ⟨Ext.refl _,by simp[o.c1,o.hd]⟩ ?_;rintro k _ S aR hk ⟨aA,rfl⟩;have al:=aA.obj rj;have cP:∀{w'},Ext aR w'→Ext w w':=fun e=>(az.trans aA).trans e;refine aa ?_;apply K.cond<;>intro g1
 ·have bb:k<m.vars.length:=by omega
  obtain⟨a,rfl⟩:=h1.addr (by omega);have eu:=((h1.at k bb).cells).ext (cP (Ext.refl _));refine aa ?_;intro ba bZ fG au bG;replace al:=au.obj al;refine aa ?_;refine K.call (Eo m.vars[k] _ m.scalars ba (aj.ext (cP au))) ?_;rintro _ bo ⟨rfl,aP⟩;have eb:=o.x8 aJ k;have dY:=o.r6 m.vars[k] m.scalars;refine aa ?_;exact⟨bb,bu,_,bw,(aA.trans au).trans aP,(o.OM bb).symm⟩
 have kM:m.vars.length≤k:=by omega
 refine aa ?_;refine K.da 32 m.aH.length [1,5,6,30,31] (fun s:Int=>[(7,.int .i64 s)]) (o.c1 m k) (fun j s w'=>Ext w1 w'∧s=o.c1 m k+o.c2 m j) bw bw ⟨aA,by simp[o.c2,o.hd]⟩ ?_;clear al cP;rintro j _ a1 ba aT ⟨au,rfl⟩;have al:=au.obj rj;have fz:∀{w'},Ext ba w'→Ext w w':=fun e=>(az.trans au).trans e;refine aa ?_;apply K.cond<;>intro g2
 ·have ef:j<m.aH.length:=by omega
  obtain⟨a,rfl⟩:=U.addr (by omega);have eu:=((U.at j ef).cells).ext (fz (Ext.refl _));refine aa ?_;intro bo bZ fG aP bG;have eb:=o.x8 aJ k;have dY:=o.Ek aJ j;have eg:=o.Hs m.aH[j];unfold o.oB at eg;refine aa ?_;exact⟨ef,bu,_,bw,au.trans aP,by rw[o.ON ef];unfold o.oB;omega⟩
 have I3:m.aH.length≤j:=by omega
 refine aa ?_;refine K.da 47 m.procs.length [1,45,46] (fun s:Int×Int×Int=>[(5,.int .i64 s.1),(6,.int .i64 s.2.1),(7,.int .i64 s.2.2)]) (0,0,o.c1 m k+o.c2 m j)
  (fun i s w'=>Ext w1 w'∧s=(o.i1 m i,o.i2 m i,o.c1 m k+o.c2 m j+o.i3 m i)) bw bw ⟨au,by simp[o.i1,o.i2,o.i3,o.hd]⟩ ?_
 clear al fz;rintro i _ fe bo ad ⟨aP,rfl⟩;have al:=aP.obj rj;have dN:∀{w'},Ext bo w'→Ext w w':=fun e=>(az.trans aP).trans e;refine aa ?_;apply K.cond<;>intro g3
 ·have cN:i<m.procs.length:=by omega
  obtain⟨a,rfl⟩:=ai.addr (by omega);obtain⟨_,cr,dL,aO,eJ,en⟩:=ai.at i cN;obtain⟨eP,ff,rfl,fH⟩:=eJ.form;obtain⟨n2,jO,rfl,lc⟩:=en.form;replace aO:=aO.ext (dN (Ext.refl _));have Z3:=aJ.i _ (List.getElem_mem cN);refine aa ?_;intro bR bZ fG bf bG;replace al:=bf.obj al;refine aa ?_;refine K.call (Eo ⟨⟨#[]⟩,0,m.procs[i].over,0,0,0⟩ _ m.scalars bR (aj.ext (dN bf))) ?_;rintro _ bW ⟨rfl,bc⟩;have aaL:o.cells ⟨⟨#[]⟩,0,m.procs[i].over,0,0,0⟩ m.scalars=o.jx m m.procs[i]:=rfl;rw[aaL];replace bG:=bc.obj bG;have eb:=o.x8 aJ k;have dY:=o.Ek aJ j;have eg:=o.RL aJ i;have gr:=o.RN aJ i;have oY:=o.RP aJ i;have rH:=o.CR m m.procs[i];have Km:=o.zk rH (b:=m.procs[i].cJ.length) (by omega);have CY:=o.zk rH (b:=1+m.procs[i].vars.length) (by omega);refine aa ?_;exact⟨cN,bu,(_,_,_),(by first | exact⟨rfl,rfl,rfl,trivial⟩ | exact⟨rfl,rfl,trivial⟩ | (simp -dsimp only[cI,ti,th,sR,sQ,sm,sl,Nat.reduceAdd,Nat.reduceEqDiff,reduceIte,and_self];exact⟨rfl,rfl,rfl,trivial⟩) | (simp -dsimp only[cI,ti,th,sR,sQ,sm,sl,Nat.reduceAdd,Nat.reduceEqDiff,reduceIte,and_self];exact⟨rfl,rfl,trivial⟩)),(aP.trans bf).trans bc,by rw[o.RM cN,o.RO cN,o.RQ cN];exact Prod.ext rfl (Prod.ext rfl (Int.add_assoc _ _ _))⟩
 have sB:m.procs.length≤i:=by omega
 refine aa ?_;exact⟨by rw[o.Tc m kM I3 sB],dN (Ext.refl _)⟩
theorem abC(cs:List Value)(m:o.Model)(p:o.dj)(cr dL:Value)(w:World)(h:o.ew w cs m) :
  bq Tryz.prog F.Cm #[.agg cs.toArray,.agg (p.enc cr dL).toArray] w fun v w'=>v = .int .i64 (o.jx m p)∧Ext w w':=by
 obtain⟨cv,bN,b9,c1,cq,c2,cm,bK,cw,bQ,rfl,aj,_⟩:=h.form;refine bI E.Cm ?_;refine bF ?_;refine aa ?_;intro w1 bz cK az al;refine aa ?_;intro aR b4 dw aA aI;refine aa ?_;refine K.cond (fun g=>?_) (fun g=>?_)
 ·refine aa ?_;exact⟨by rw[o.jx,if_pos g],az.trans aA⟩
 refine aa ?_;refine K.call (zt p.over _ m.scalars aR (aj.ext (az.trans aA))) ?_;rintro _ _ ⟨rfl,rfl⟩;refine aa ?_;exact⟨by rw[o.jx,if_neg g],az.trans aA⟩
theorem aeB(cs:List Value)(m:o.Model)(w:World)(h:o.ew w cs m)(aJ:o.rV m) :
  bq Tryz.prog F.Co #[.agg cs.toArray] w fun v w'=>v = .tuple #[.int .i64 (o.pieces m).1,.int .i64 (o.pieces m).2.1,.int .i64 (o.pieces m).2.2]∧Ext w w':=by
 have bd:=h;obtain⟨cv,bN,b9,c1,cq,c2,cm,bK,cw,bQ,rfl,aj,h1,U,ai,aL,eG,dt,dB,dT,er⟩:=h.form;refine bI E.Co ?_;refine bF ?_;refine aa ?_;intro w1 bz cK az al;have rj:=al;clear al;refine aa ?_;refine K.da 8 m.vars.length [1,5,6] (fun s:Int=>[(7,.int .i64 s)]) 0 (fun k s w'=>Ext w1 w'∧s=o.c1 m k) bw bw ⟨Ext.refl _,by simp[o.c1,o.hd]⟩ ?_;rintro k _ S aR hk ⟨aA,rfl⟩;have al:=aA.obj rj;have cP:∀{w'},Ext aR w'→Ext w w':=fun e=>(az.trans aA).trans e;refine aa ?_;apply K.cond<;>intro g1
 ·have bb:k<m.vars.length:=by omega
  obtain⟨a,rfl⟩:=h1.addr (by omega);have eu:=((h1.at k bb).cells).ext (cP (Ext.refl _));have eb:=o.x8 aJ k;have dY:=o.r6 m.vars[k] m.scalars;refine aa ?_;refine K.fX (.int .i64 (o.cells m.vars[k] m.scalars)) (fun w' e=>Kw m.vars[k] _ m.scalars w' (aj.ext (cP e))) ?_;refine aa ?_;intro bo aP;refine aa ?_;exact⟨bb,bu,_,bw,aA.trans aP,(o.OM bb).symm⟩
 have kM:m.vars.length≤k:=by omega
 refine aa ?_;refine K.da 9 m.aH.length [1,5,6] (fun s:Int=>[(7,.int .i64 s)]) (o.c1 m k) (fun j s w'=>Ext w1 w'∧s=o.c1 m k+o.c2 m j) bw bw ⟨aA,by simp[o.c2,o.hd]⟩ ?_;clear al cP;rintro j _ a1 ba aT ⟨au,rfl⟩;have al:=au.obj rj;have fz:∀{w'},Ext ba w'→Ext w w':=fun e=>(az.trans au).trans e;refine aa ?_;apply K.cond<;>intro g2
 ·have ef:j<m.aH.length:=by omega
  obtain⟨a,rfl⟩:=U.addr (by omega);have eu:=((U.at j ef).cells).ext (fz (Ext.refl _));have eb:=o.x8 aJ k;have dY:=o.Ek aJ j;have eg:=o.Hs m.aH[j];unfold o.oB at eg;refine aa ?_;exact⟨ef,bu,_,bw,au,by rw[o.ON ef];unfold o.oB;omega⟩
 have I3:m.aH.length≤j:=by omega
 refine aa ?_;refine K.da 10 m.procs.length [1] (fun s:Int×Int×Int=>[(5,.int .i64 s.1),(6,.int .i64 s.2.1),(7,.int .i64 s.2.2)]) (0,0,o.c1 m k+o.c2 m j)
  (fun i s w'=>Ext w1 w'∧s=(o.i1 m i,o.i2 m i,o.c1 m k+o.c2 m j+o.i3 m i)) bw bw ⟨au,by simp[o.i1,o.i2,o.i3,o.hd]⟩ ?_
 clear al fz;rintro i _ fe bo ad ⟨aP,rfl⟩;have al:=aP.obj rj;have dN:∀{w'},Ext bo w'→Ext w w':=fun e=>(az.trans aP).trans e;refine aa ?_;apply K.cond<;>intro g3
 ·have cN:i<m.procs.length:=by omega
  obtain⟨a,rfl⟩:=ai.addr (by omega);obtain⟨_,cr,dL,aO,eJ,en⟩:=ai.at i cN;obtain⟨eP,ff,rfl,fH⟩:=eJ.form;obtain⟨n2,jO,rfl,lc⟩:=en.form;replace aO:=aO.ext (dN (Ext.refl _));have Z3:=aJ.i _ (List.getElem_mem cN);refine aa ?_;refine K.fX (.int .i64 (o.jx m m.procs[i])) (fun w' e=>abC _ m m.procs[i] _ _ w' (bd.ext (dN e))) ?_;refine aa ?_;intro bW bc;replace al:=bc.obj al;replace aO:=aO.ext bc;have eb:=o.x8 aJ k;have dY:=o.Ek aJ j;have eg:=o.RL aJ i;have gr:=o.RN aJ i;have oY:=o.RP aJ i;have rH:=o.CR m m.procs[i];have Km:=o.zk rH (b:=m.procs[i].cJ.length) (by omega);have CY:=o.zk rH (b:=1+m.procs[i].vars.length) (by omega);refine aa ?_;exact⟨cN,bu,(_,_,_),(by first | exact⟨rfl,rfl,rfl,trivial⟩ | exact⟨rfl,rfl,trivial⟩ | (simp -dsimp only[cI,ti,th,sR,sQ,sm,sl,Nat.reduceAdd,Nat.reduceEqDiff,reduceIte,and_self];exact⟨rfl,rfl,rfl,trivial⟩) | (simp -dsimp only[cI,ti,th,sR,sQ,sm,sl,Nat.reduceAdd,Nat.reduceEqDiff,reduceIte,and_self];exact⟨rfl,rfl,trivial⟩)),aP.trans bc,by rw[o.RM cN,o.RO cN,o.RQ cN];exact Prod.ext rfl (Prod.ext rfl (Int.add_assoc _ _ _))⟩
 have sB:m.procs.length≤i:=by omega
 refine aa ?_;exact⟨by rw[o.Tc m kM I3 sB],dN (Ext.refl _)⟩
end Go.Proofs.R
end
section
namespace o
structure Vb(m:Model):Prop where
 s:m.scalars.length≤10
 v:m.vars.length≤30
 c:m.aH.length≤20
 p:m.procs.length≤20
 q:m.props.length≤20
 i:∀p∈m.procs,p.vars.length≤20∧p.cJ.length≤30∧∀c∈p.cJ,c.b6.length≤20∧c.guard.length≤60
end o
namespace Go.Proofs.R
open Go Go.RowKit bt
theorem Z0(cs:List Value)(m:o.Model)(w:World)(h:o.ew w cs m) :
  bq Tryz.prog F.CK #[.agg cs.toArray] w fun v w'=>(v = .int .i64 1∨v = .int .i64 0∧o.Vb m)∧Ext w w':=by
 obtain⟨cv,bN,b9,c1,cq,c2,cm,bK,cw,bQ,rfl,aj,h1,U,ai,aL,eG,dt,dB,dT,er⟩:=h.form;refine bI E.CK ?_;refine bF ?_;refine aa ?_;intro w1 bz cK az al;refine aa ?_;apply K.cond<;>intro g0
 ·refine aa ?_;exact⟨.inl (bu),az⟩
 refine aa ?_;apply K.cond<;>intro g1
 ·refine aa ?_;exact⟨.inl (bu),az⟩
 refine aa ?_;apply K.cond<;>intro g2
 ·refine aa ?_;exact⟨.inl (bu),az⟩
 refine aa ?_;apply K.cond<;>intro g3
 ·refine aa ?_;exact⟨.inl (bu),az⟩
 refine aa ?_;apply K.cond<;>intro g4
 ·refine aa ?_;exact⟨.inl (bu),az⟩
 refine aa ?_;refine K.da 3 m.procs.length [1] (fun _=>[]) () (fun k _ w'=>Ext w1 w'∧∀p∈m.procs.take k,p.vars.length≤20∧p.cJ.length≤30∧∀c∈p.cJ,c.b6.length≤20∧c.guard.length≤60) bw bw ⟨Ext.refl _,by simp⟩ ?_;rintro k _ S aR hk ⟨aA,c8⟩;refine aa ?_;apply K.cond<;>intro g5
 ·have bb:k<m.procs.length:=by omega
  obtain⟨a,rfl⟩:=ai.addr (by omega);obtain⟨_,cr,dL,aO,eJ,en⟩:=ai.at k bb;obtain⟨eP,ff,rfl,fH⟩:=eJ.form;obtain⟨n2,jO,rfl,lc⟩:=en.form;refine aa ?_;intro ba bZ fG au bG;refine aa ?_;apply K.cond<;>intro g6
  ·refine aa ?_;exact⟨.inl (bu),(az.trans aA).trans au⟩
  refine aa ?_;apply K.cond<;>intro g7
  ·refine aa ?_;exact⟨.inl (bu),(az.trans aA).trans au⟩
  refine aa ?_;refine K.da 5 m.procs[k].cJ.length [1,3,4] (fun _=>[]) () (fun j _ w'=>Ext ba w'∧∀c∈m.procs[k].cJ.take j,c.b6.length≤20∧c.guard.length≤60) bw bw ⟨Ext.refl _,by simp⟩ ?_;rintro j _ S bo aT ⟨aP,wb⟩;refine aa ?_;apply K.cond<;>intro g8
  ·have ef:j<m.procs[k].cJ.length:=by omega
   obtain⟨a2,rfl⟩:=en.addr (by omega);obtain⟨_,fw,eD,hp,rr,qv⟩:=en.at j ef;obtain⟨n3,kE,rfl,Sy⟩:=rr.form;obtain⟨bh,iN,rfl,nZ⟩:=qv.form;refine aa ?_;apply K.cond<;>intro g9
   ·refine aa ?_;exact⟨.inl (bu),((az.trans aA).trans au).trans aP⟩
   refine aa ?_;apply K.cond<;>intro g10
   ·refine aa ?_;exact⟨.inl (bu),((az.trans aA).trans au).trans aP⟩
   refine aa ?_;refine⟨ef,bu,(),trivial,aP,fun c av=>?_⟩;rw[List.take_succ_eq_append_getElem ef] at av;rcases List.mem_append.1 av with av | av
   ·exact wb c av
   ·rw[List.mem_singleton] at av;subst av;exact⟨by omega,by omega⟩
  ·rw[List.take_of_length_le (by omega)] at wb;refine aa ?_;refine⟨bb,bu,(),trivial,(aA.trans au).trans aP,fun p aO=>?_⟩;rw[List.take_succ_eq_append_getElem bb] at aO;rcases List.mem_append.1 aO with aO | aO
   ·exact c8 p aO
   ·rw[List.mem_singleton] at aO;subst aO;exact⟨by omega,by omega,wb⟩
 ·rw[List.take_of_length_le (by omega)] at c8;refine aa ?_;exact⟨.inr ⟨bu,by omega,by omega,by omega,by omega,by omega,c8⟩,az.trans aA⟩
end Go.Proofs.R
end