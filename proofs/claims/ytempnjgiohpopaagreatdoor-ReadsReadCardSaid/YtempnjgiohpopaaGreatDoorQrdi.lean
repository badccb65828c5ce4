/- Texts joined: DeclD DeclA DeclR DeclS DeclU DeclV DeclW ModI ModB ModC ProcC ProcD. -/
import Derived.Test.YtempnjgiohpopaaGreatDoorQrdd
import Derived.Test.YtempnjgiohpopaaGreatDoorQrdg
import Derived.Test.YtempnjgiohpopaaGreatDoorQrdh
set_option linter.all false
set_option maxRecDepth 100000
set_option maxHeartbeats 16000000
section
set_option linter.unusedSimpArgs false
namespace Go.Proofs.R
open Go Go.RowKit bt
theorem pW{α:Type}(f:α→ByteArray)(l:List α)(i:Nat)(h:i<l.length):o.nameAt f l i=f l[i]:=by simp[o.nameAt,h]
theorem afs(i:Nat)(b:Nat)(v:Value)(l:List o.Scalar)(w:World)(aP:o.gi w v l)(aD:w.cell? ⟨b,0,none⟩=some v)(ad:i<l.length) :
  bu Tryz.prog F.cN #[.int .i64 i,.pointer (some ⟨b,0,none⟩)] w fun v w'=>v = .string (o.nameAt (·.name) l i)∧Ext w w':=by
 obtain⟨bl,cap,rfl,hlen⟩:=aP.form;refine bM E.cN ?_;refine bF ?_;refine aV ?_;refine K.ld aD ?_;refine aV ?_;obtain⟨a,rfl⟩:=aP.addr (by omega);have ax:=(aP.at i ad).cells 0 _ rfl;refine K.dk i rfl ad ?_;refine aV ?_;refine K.ld ax ?_;refine aV ?_;rw[pW _ _ _ ad];exact⟨rfl,Ext.refl w⟩
theorem aft(i:Nat)(b:Nat)(v:Value)(l:List o.Scalar)(w:World)(aP:o.gi w v l)(aD:w.cell? ⟨b,0,none⟩=some v)(ad:i<l.length) :
  bu Tryz.prog F.ya #[.int .i64 i,.pointer (some ⟨b,0,none⟩)] w fun v w'=>v = .int .i64 (o.rW l i)∧Ext w w':=by
 obtain⟨bl,cap,rfl,hlen⟩:=aP.form;refine bM E.ya ?_;refine bF ?_;refine aV ?_;refine K.ld aD ?_;refine aV ?_;obtain⟨a,rfl⟩:=aP.addr (by omega);have ax:=(aP.at i ad).cells 1 _ rfl;have bd:o.rW l i=if 1≤l[i].size∧l[i].size≤4 then 0 else 10:=by simp[o.rW,ad]
 rw[bd];generalize l[i].size=z at ax;refine K.dk i rfl ad ?_;refine aV ?_;refine K.ld ax ?_;refine aV ?_;refine K.cond (fun h1=>?_) (fun h1=>?_)
 ·refine aV ?_;rw[if_neg (by omega)];exact⟨rfl,Ext.refl w⟩
 refine aV ?_;refine K.ld aD ?_;refine aV ?_;refine K.dk i rfl ad ?_;refine aV ?_;refine K.ld ax ?_;refine aV ?_;refine K.cond (fun h1=>?_) (fun h1=>?_)
 ·refine aV ?_;rw[if_neg (by omega)];exact⟨rfl,Ext.refl w⟩
 ·refine aV ?_;rw[if_pos (by omega)];exact⟨rfl,Ext.refl w⟩
theorem afu(v:Value)(l:List o.Scalar)(w:World)(a1:iu w)(aP:o.gi w v l) :
  bu Tryz.prog F.AM #[v] w fun v w'=>v = .tuple #[.int .i64 (o.scalars l).1,.int .i64 (o.scalars l).2]∧Ext w w':=by
 obtain⟨bl,cap,rfl,hlen⟩:=aP.form;refine bM E.AM ?_;refine bF ?_;refine aV ?_;refine K.new fun av b aD aA aq=>?_;have n2:=bz.ext o.iv.ext aA aP;have cL:av.cell? ⟨b,0,none⟩=some (.slice bl l.length cap):=yk aq rfl;refine aV ?_;refine K.ld cL ?_;refine aV ?_;refine K.call (Kd l.length 2 (by omega) (o.nameAt (·.name) l) (o.rW l) F.cN F.ya [_] [_] (by kernel_rfl) (by kernel_rfl) av (a1.ext aA)
  (fun i ad=>by rw[pW _ _ _ (by omega)];obtain⟨a,rfl⟩:=aP.addr (by omega);exact(aP.at i (by omega)).ok)
  (fun i w' ad he=>afs i b _ l w' (bz.ext o.iv.ext he n2) (he.cell cL) (by omega))
  (fun i w' ad he=>aft i b _ l w' (bz.ext o.iv.ext he n2) (he.cell cL) (by omega))) ?_
 rintro _ aT ⟨rfl,aC⟩;refine aV ?_;exact⟨rfl,aA.trans aC⟩
theorem OY(x:o.Var)(v:Value)(l:List o.Scalar)(w:World)(aP:o.gi w v l) :
  bu Tryz.prog F.ye #[.agg x.enc.toArray,v] w fun v w'=>v = .tuple #[.int .i64 (o.bounds x l).1,.int .i64 (o.bounds x l).2]∧Ext w w':=by
 obtain⟨bl,cap,rfl,hlen⟩:=aP.form;refine bM E.ye ?_;refine bF ?_;refine aV ?_;refine K.new fun av b aD aA aq=>?_;have c1:av.cell? (Addr.add ⟨b,0,none⟩ 1)=some (.int .i64 x.scalar):=fp aq rfl;have bN:av.cell? (Addr.add ⟨b,0,none⟩ 3)=some (.int .i64 x.aZ):=fp aq rfl;have bT:av.cell? (Addr.add ⟨b,0,none⟩ 4)=some (.int .i64 x.ad):=fp aq rfl;refine aV ?_;refine K.ld c1 ?_;refine aV ?_;refine K.cond (fun h1=>?_) (fun h1=>?_)
 ·refine aV ?_;refine K.ld bN ?_;refine aV ?_;refine K.ld bT ?_;refine aV ?_;intro aT aC;simp only[o.bounds,h1,if_true];exact⟨trivial,aA.trans aC⟩
 ·refine aV ?_;refine K.ld c1 ?_;refine aV ?_;refine K.call (KZ x.scalar _ l av (bz.ext o.iv.ext aA aP)) ?_;rintro _ _ ⟨rfl,rfl⟩;refine aV ?_;simp only[o.bounds,h1,if_false];exact⟨trivial,aA⟩
theorem Eu(x:o.Var)(v:Value)(l:List o.Scalar)(w:World)(aP:o.gi w v l) :
  bu Tryz.prog F.r #[.agg x.enc.toArray,v] w fun v w'=>v = .int .i64 (o.cells x l)∧Ext w w':=by
 obtain⟨bl,cap,rfl,hlen⟩:=aP.form;refine bM E.r ?_;refine bF ?_;refine aV ?_;refine K.new fun av b aD aA aq=>?_;have c2:av.cell? (Addr.add ⟨b,0,none⟩ 2)=some (.int .i64 x.over):=fp aq rfl;refine aV ?_;refine K.ld c2 ?_;refine aV ?_;refine K.cond (fun h1=>?_) (fun h1=>?_)
 ·refine aV ?_;simp only[o.cells,h1,if_true];exact⟨trivial,aA⟩
 ·refine aV ?_;refine K.ld c2 ?_;refine aV ?_;refine K.call (KZ x.over _ l av (bz.ext o.iv.ext aA aP)) ?_;rintro _ _ ⟨rfl,rfl⟩;refine aV ?_;simp only[o.cells,h1,if_false];exact⟨trivial,aA⟩
theorem agt(i:Nat)(b:Nat)(v:Value)(l:List o.Var)(w:World)(aP:o.gJ w v l)(aD:w.cell? ⟨b,0,none⟩=some v)(ad:i<l.length) :
  bu Tryz.prog F.yc #[.int .i64 i,.pointer (some ⟨b,0,none⟩)] w fun v w'=>v = .string (o.nameAt (·.name) l i)∧Ext w w':=by
 obtain⟨bl,cap,rfl,hlen⟩:=aP.form;refine bM E.yc ?_;refine bF ?_;refine aV ?_;refine K.ld aD ?_;refine aV ?_;obtain⟨a,rfl⟩:=aP.addr (by omega);have ax:=(aP.at i ad).cells 0 _ rfl;refine K.dk i rfl ad ?_;refine aV ?_;refine K.ld ax ?_;refine aV ?_;rw[pW _ _ _ ad];exact⟨rfl,Ext.refl w⟩
theorem agu(i:Nat)(b ca:Nat)(v v2:Value)(l:List o.Var)(s:List o.Scalar)(w:World)(aP:o.gJ w v l)(ay:o.gi w v2 s)(aD:w.cell? ⟨b,0,none⟩=some v)(dB:w.cell? ⟨ca,0,none⟩=some v2)
  (ad:i<l.length):bu Tryz.prog F.yd #[.int .i64 i,.pointer (some ⟨b,0,none⟩),.pointer (some ⟨ca,0,none⟩)] w fun v w'=>v = .int .i64 (o.nA l s i)∧Ext w w':=by
 obtain⟨bl,cap,rfl,hlen⟩:=aP.form;obtain⟨xk,yj,rfl,Fv⟩:=ay.form;refine bM E.yd ?_;refine bF ?_;refine aV ?_;refine K.ld aD ?_;refine aV ?_;obtain⟨a,rfl⟩:=aP.addr (by omega);have ax:=(aP.at i ad).cells;have bd:o.nA l s i=if o.there l[i].scalar s=false∨o.there l[i].over s=false then 8
  else if (l[i].scalar=0∧o.narrow l[i].aZ l[i].ad=false)∨l[i].init<(o.bounds l[i] s).1∨l[i].init > (o.bounds l[i] s).2 then 10 else 0:=by simp[o.nA,ad]
 rw[bd];clear bd;generalize l[i]=x at ax;refine K.dk i rfl ad ?_;refine aV ?_;refine K.jk ax rfl ?_;refine aV ?_;refine K.new fun av q aB aA aq=>?_;refine aV ?_;refine K.k6 aq rfl rfl (by simp[o.Var.enc,Value.oneCell']) fun aT hw aM=>?_;have aC:Ext w aT:=hw.ext aA aB;clear hw aq aA av;have c1:aT.cell? (Addr.add ⟨q,0,none⟩ 1)=some (.int .i64 x.scalar):=fp aM rfl;have c2:aT.cell? (Addr.add ⟨q,0,none⟩ 2)=some (.int .i64 x.over):=fp aM rfl;have nI:aT.cell? (Addr.add ⟨q,0,none⟩ 5)=some (.int .i64 x.init):=fp aM rfl;have d2:=aC.cell dB;have eb:=bz.ext o.iv.ext aC ay;refine aV ?_;refine K.ld c1 ?_;refine aV ?_;refine K.ld d2 ?_;refine aV ?_;refine K.call (Lg x.scalar _ s aT eb) ?_;rintro _ _ ⟨rfl,rfl⟩;refine aV ?_;refine K.c4 (fun h1=>?_) (fun h1=>?_);rotate_left
 ·refine aV ?_;simp only[h1,true_or,if_true];exact⟨trivial,aC⟩
 refine aV ?_;refine K.ld c2 ?_;refine aV ?_;refine K.ld d2 ?_;refine aV ?_;refine K.call (Lg x.over _ s _ eb) ?_;rintro _ _ ⟨rfl,rfl⟩;refine aV ?_;refine K.c4 (fun U=>?_) (fun U=>?_);rotate_left
 ·refine aV ?_;simp only[U,or_true,if_true];exact⟨trivial,aC⟩
 refine aV ?_;refine K.jk (gK aM) rfl ?_;refine aV ?_;refine K.ld d2 ?_;refine aV ?_;refine K.call (OY x _ s _ eb) ?_;rintro _ bf ⟨rfl,aw⟩;rename_i ajJ;have bP:=aw.cell c1;have cc:=aw.cell nI;have he:=aC.trans aw;refine aV ?_;refine K.ld bP ?_;have e2:¬(o.there x.scalar s=false∨o.there x.over s=false):=by simp[h1,U]
 refine aV ?_;refine K.cond (fun ag=>?_) (fun ag=>?_)
 ·refine aV ?_;have rr:o.bounds x s=(x.aZ,x.ad):=by simp[o.bounds,ag]
  rw[rr];refine K.call (S6 x.aZ x.ad bf) ?_;rintro _ _ ⟨rfl,rfl⟩;refine aV ?_;refine K.c4 (fun aK=>?_) (fun aK=>?_);rotate_left
  ·refine aV ?_;rw[if_neg e2,if_pos (.inl ⟨ag,aK⟩)];exact⟨rfl,he⟩
  refine aV ?_;refine K.ld cc ?_;refine aV ?_;refine K.cond (fun bc=>?_) (fun bc=>?_)
  ·refine aV ?_;rw[if_neg e2,if_pos (.inr (.inl bc))];exact⟨rfl,he⟩
  refine aV ?_;refine K.ld cc ?_;refine aV ?_;refine K.cond (fun bD=>?_) (fun bD=>?_)
  ·refine aV ?_;rw[if_neg e2,if_pos (.inr (.inr bD))];exact⟨rfl,he⟩
  ·refine aV ?_;rw[if_neg e2,if_neg (by rw[aK];simp;omega)];exact⟨rfl,he⟩
 ·refine aV ?_;refine K.ld cc ?_;refine aV ?_;refine K.cond (fun bc=>?_) (fun bc=>?_)
  ·refine aV ?_;rw[if_neg e2,if_pos (.inr (.inl bc))];exact⟨rfl,he⟩
  refine aV ?_;refine K.ld cc ?_;refine aV ?_;refine K.cond (fun bD=>?_) (fun bD=>?_)
  ·refine aV ?_;rw[if_neg e2,if_pos (.inr (.inr bD))];exact⟨rfl,he⟩
  ·refine aV ?_;rw[if_neg e2,if_neg (by simp[ag];omega)];exact⟨rfl,he⟩
theorem U0(v v2:Value)(l:List o.Var)(s:List o.Scalar)(e0:Int)(w:World)(a1:iu w)(aP:o.gJ w v l)(ay:o.gi w v2 s) :
  bu Tryz.prog F.bi #[v,v2,.int .i64 e0] w fun v w'=>v = .tuple #[.int .i64 (o.vars l s e0).1,.int .i64 (o.vars l s e0).2]∧Ext w w':=by
 obtain⟨bl,cap,rfl,hlen⟩:=aP.form;obtain⟨xk,yj,rfl,Fv⟩:=ay.form;refine bM E.bi ?_;refine bF ?_;refine aV ?_;refine K.new fun av b aD aA aq=>?_;refine aV ?_;refine K.new fun aT ca dB aC aM=>?_;have he:=aA.trans aC;have n2:=bz.ext o.oK.ext he aP;have fA:=bz.ext o.iv.ext he ay;have d1:aT.cell? ⟨b,0,none⟩=some (.slice bl l.length cap):=yk (aC.obj aq) rfl;have d2:aT.cell? ⟨ca,0,none⟩=some (.slice xk s.length yj):=yk aM rfl;refine aV ?_;refine K.ld d1 ?_;refine aV ?_;refine K.call (Kd l.length (max e0 0) (by omega) (o.nameAt (·.name) l) (o.nA l s) F.yc F.yd [_] [_,_] (by kernel_rfl) (by kernel_rfl) aT (a1.ext he)
  (fun i ad=>by rw[pW _ _ _ (by omega)];obtain⟨a,rfl⟩:=aP.addr (by omega);exact(aP.at i (by omega)).ok)
  (fun i w' ad he=>agt i b _ l w' (bz.ext o.oK.ext he n2) (he.cell d1) (by omega))
  (fun i w' ad he=>agu i b ca _ _ l s w' (bz.ext o.oK.ext he n2) (bz.ext o.iv.ext he fA) (he.cell d1) (he.cell d2) (by omega))) ?_
 rintro _ bf ⟨rfl,aw⟩;refine aV ?_;exact⟨rfl,he.trans aw⟩
theorem Xn(i:Nat)(b:Nat)(v:Value)(l:List o.c5)(w:World)(aP:o.lN w v l)(aD:w.cell? ⟨b,0,none⟩=some v)(ad:i<l.length) :
  bu Tryz.prog F.cT #[.int .i64 i,.pointer (some ⟨b,0,none⟩)] w fun v w'=>v = .string (o.nameAt (·.name) l i)∧Ext w w':=by
 obtain⟨bl,cap,rfl,hlen⟩:=aP.form;refine bM E.cT ?_;refine bF ?_;refine aV ?_;refine K.ld aD ?_;refine aV ?_;obtain⟨a,rfl⟩:=aP.addr (by omega);have ax:=(aP.at i ad).cells 0 _ rfl;refine K.dk i rfl ad ?_;refine aV ?_;refine K.ld ax ?_;refine aV ?_;rw[pW _ _ _ ad];exact⟨rfl,Ext.refl w⟩
theorem Xo(i:Nat)(b ca:Nat)(v v2:Value)(l:List o.c5)(s:List o.Scalar)(w:World)(aP:o.lN w v l)(ay:o.gi w v2 s)(aD:w.cell? ⟨b,0,none⟩=some v)(dB:w.cell? ⟨ca,0,none⟩=some v2)
  (ad:i<l.length):bu Tryz.prog F.dz #[.int .i64 i,.pointer (some ⟨b,0,none⟩),.pointer (some ⟨ca,0,none⟩)] w fun v w'=>v = .int .i64 (o.nc l s i)∧Ext w w':=by
 obtain⟨bl,cap,rfl,hlen⟩:=aP.form;obtain⟨xk,yj,rfl,Fv⟩:=ay.form;refine bM E.dz ?_;refine bF ?_;refine aV ?_;refine K.ld aD ?_;refine aV ?_;obtain⟨a,rfl⟩:=aP.addr (by omega);have ax:=(aP.at i ad).cells;have bd:o.nc l s i=if o.there l[i].scalar s=false then 8
  else if l[i].cap<1∨l[i].cap > 4∨(l[i].scalar=0∧o.narrow l[i].aZ l[i].ad=false) then 10 else 0:=by simp[o.nc,ad]
 rw[bd];clear bd;generalize l[i]=x at ax;refine K.dk i rfl ad ?_;refine aV ?_;refine K.jk ax rfl ?_;refine aV ?_;refine K.new fun av q aB aA aq=>?_;refine aV ?_;refine K.k6 aq rfl rfl (by simp[o.c5.enc,Value.oneCell']) fun aT hw aM=>?_;have aC:Ext w aT:=hw.ext aA aB;clear hw aq aA av;have c1:aT.cell? (Addr.add ⟨q,0,none⟩ 1)=some (.int .i64 x.scalar):=fp aM rfl;have c2:aT.cell? (Addr.add ⟨q,0,none⟩ 2)=some (.int .i64 x.cap):=fp aM rfl;have bN:aT.cell? (Addr.add ⟨q,0,none⟩ 3)=some (.int .i64 x.aZ):=fp aM rfl;have bT:aT.cell? (Addr.add ⟨q,0,none⟩ 4)=some (.int .i64 x.ad):=fp aM rfl;have d2:=aC.cell dB;have eb:=bz.ext o.iv.ext aC ay;refine aV ?_;refine K.ld c1 ?_;refine aV ?_;refine K.ld d2 ?_;refine aV ?_;refine K.call (Lg x.scalar _ s aT eb) ?_;rintro _ _ ⟨rfl,rfl⟩;refine aV ?_;refine K.c4 (fun h1=>?_) (fun h1=>?_);rotate_left
 ·refine aV ?_;simp only[h1,if_true];exact⟨trivial,aC⟩
 have e2:¬(o.there x.scalar s=false):=by simp[h1]
 refine aV ?_;refine K.ld c2 ?_;refine aV ?_;refine K.cond (fun U=>?_) (fun U=>?_)
 ·refine aV ?_;rw[if_neg e2,if_pos (.inl U)];exact⟨rfl,aC⟩
 refine aV ?_;refine K.ld c2 ?_;refine aV ?_;refine K.cond (fun ag=>?_) (fun ag=>?_)
 ·refine aV ?_;rw[if_neg e2,if_pos (.inr (.inl ag))];exact⟨rfl,aC⟩
 refine aV ?_;refine K.ld c1 ?_;refine aV ?_;refine K.cond (fun aK=>?_) (fun aK=>?_)
 ·refine aV ?_;refine K.ld bN ?_;refine aV ?_;refine K.ld bT ?_;refine aV ?_;refine K.call (S6 x.aZ x.ad _) ?_;rintro _ _ ⟨rfl,rfl⟩;refine aV ?_;refine K.c4 (fun bc=>?_) (fun bc=>?_)
  ·refine aV ?_;rw[if_neg e2,if_neg (by rw[bc];simp;omega)];exact⟨rfl,aC⟩
  ·refine aV ?_;rw[if_neg e2,if_pos (.inr (.inr ⟨aK,bc⟩))];exact⟨rfl,aC⟩
 ·refine aV ?_;rw[if_neg e2,if_neg (by simp[aK];omega)];exact⟨rfl,aC⟩
theorem Xq(v v2:Value)(l:List o.c5)(s:List o.Scalar)(w:World)(a1:iu w)(aP:o.lN w v l)(ay:o.gi w v2 s) :
  bu Tryz.prog F.AN #[v,v2] w fun v w'=>v = .tuple #[.int .i64 (o.aJ l s).1,.int .i64 (o.aJ l s).2]∧Ext w w':=by
 obtain⟨bl,cap,rfl,hlen⟩:=aP.form;obtain⟨xk,yj,rfl,Fv⟩:=ay.form;refine bM E.AN ?_;refine bF ?_;refine aV ?_;refine K.new fun av b aD aA aq=>?_;refine aV ?_;refine K.new fun aT ca dB aC aM=>?_;have he:=aA.trans aC;have n2:=bz.ext o.oJ.ext he aP;have fA:=bz.ext o.iv.ext he ay;have d1:aT.cell? ⟨b,0,none⟩=some (.slice bl l.length cap):=yk (aC.obj aq) rfl;have d2:aT.cell? ⟨ca,0,none⟩=some (.slice xk s.length yj):=yk aM rfl;refine aV ?_;refine K.ld d1 ?_;refine aV ?_;refine K.call (Kd l.length 4 (by omega) (o.nameAt (·.name) l) (o.nc l s) F.cT F.dz [_] [_,_] (by kernel_rfl) (by kernel_rfl) aT (a1.ext he)
  (fun i ad=>by rw[pW _ _ _ (by omega)];obtain⟨a,rfl⟩:=aP.addr (by omega);exact(aP.at i (by omega)).ok)
  (fun i w' ad he=>Xn i b _ l w' (bz.ext o.oJ.ext he n2) (he.cell d1) (by omega))
  (fun i w' ad he=>Xo i b ca _ _ l s w' (bz.ext o.oJ.ext he n2) (bz.ext o.iv.ext he fA) (he.cell d1) (he.cell d2) (by omega))) ?_
 rintro _ bf ⟨rfl,aw⟩;refine aV ?_;exact⟨rfl,he.trans aw⟩
end Go.Proofs.R
end
section
set_option linter.unusedSimpArgs false
end
section
set_option linter.unusedSimpArgs false
namespace Go.Proofs.R
open Go Go.RowKit bt
theorem zy(k:Int)(v:Value)(l:List o.Scalar)(w:World)(aP:o.gi w v l) :
  bu Tryz.prog F.pR #[v,.int .i64 k] w fun v w'=>v = .int .i64 (o.size k l)∧w'=w:=by
 obtain⟨bl,cap,rfl,hlen⟩:=aP.form;refine bM E.pR ?_;refine bF ?_;refine aV ?_;refine K.cond (fun h1=>?_) (fun h1=>?_)
 ·refine aV ?_;rw[Gh (.inl h1)];exact⟨rfl,trivial⟩
 refine aV ?_;refine K.cond (fun U=>?_) (fun U=>?_)
 ·refine aV ?_;rw[Gh (.inr U)];exact⟨rfl,trivial⟩
 obtain⟨a,rfl⟩:=aP.addr (by omega);have ax:=(aP.at (k.toNat - 1) (by omega)).cells 1 _ rfl;have hk:(k - 1).toNat*2=(k.toNat - 1)*2:=by omega
 rw[Ut (by omega) (by omega)];rw[←hk] at ax;generalize l[k.toNat - 1].size=z at ax
 (repeat' first
  | (refine K.cond (fun _=>?_) (fun _=>?_)<;>try (exfalso;omega))
  | (refine K.c4 (fun _=>?_) (fun _=>?_))
  | (refine K.wrap (by omega) ?_)
  | (refine K.ld (by assumption) ?_)
  | (refine K.hE (by omega) ?_)
  | simp -dsimp only[cJ,cw,Nat.reduceAdd,Nat.reduceEqDiff,reduceIte,reduceCtorEq,cU])
 ·rw[if_neg (by omega)];exact⟨rfl,trivial⟩
 ·rw[if_neg (by omega)];exact⟨rfl,trivial⟩
 ·rw[if_pos (by omega)];exact⟨rfl,trivial⟩
theorem KL(x:o.Var)(v:Value)(l:List o.Scalar)(w:World)(aP:o.gi w v l) :
  bu Tryz.prog F.w6 #[.agg x.enc.toArray,v] w fun v w'=>v = .tuple #[.int .i64 (o.bounds x l).1,.int .i64 (o.bounds x l).2]∧Ext w w':=by
 obtain⟨bl,cap,rfl,hlen⟩:=aP.form;refine bM E.w6 ?_;refine bF ?_;refine aV ?_;refine K.new fun av b aD aA aq=>?_;have c1:av.cell? (Addr.add ⟨b,0,none⟩ 1)=some (.int .i64 x.scalar):=fp aq rfl;have bN:av.cell? (Addr.add ⟨b,0,none⟩ 3)=some (.int .i64 x.aZ):=fp aq rfl;have bT:av.cell? (Addr.add ⟨b,0,none⟩ 4)=some (.int .i64 x.ad):=fp aq rfl;refine aV ?_;refine K.ld c1 ?_;refine aV ?_;refine K.cond (fun h1=>?_) (fun h1=>?_)
 ·refine aV ?_;refine K.ld bN ?_;refine aV ?_;refine K.ld bT ?_;refine aV ?_;intro aT aC;simp only[o.bounds,h1,if_true];exact⟨trivial,aA.trans aC⟩
 ·refine aV ?_;refine K.ld c1 ?_;refine aV ?_;refine K.call (zy x.scalar _ l av (bz.ext o.iv.ext aA aP)) ?_;rintro _ _ ⟨rfl,rfl⟩;refine aV ?_;simp only[o.bounds,h1,if_false];exact⟨trivial,aA⟩
theorem KM(x:o.Var)(v:Value)(l:List o.Scalar)(w:World)(aP:o.gi w v l) :
  bu Tryz.prog F.w7 #[.agg x.enc.toArray,v] w fun v w'=>v = .int .i64 (o.cells x l)∧Ext w w':=by
 obtain⟨bl,cap,rfl,hlen⟩:=aP.form;refine bM E.w7 ?_;refine bF ?_;refine aV ?_;refine K.new fun av b aD aA aq=>?_;have c2:av.cell? (Addr.add ⟨b,0,none⟩ 2)=some (.int .i64 x.over):=fp aq rfl;refine aV ?_;refine K.ld c2 ?_;refine aV ?_;refine K.cond (fun h1=>?_) (fun h1=>?_)
 ·refine aV ?_;simp only[o.cells,h1,if_true];exact⟨trivial,aA⟩
 ·refine aV ?_;refine K.ld c2 ?_;refine aV ?_;refine K.call (zy x.over _ l av (bz.ext o.iv.ext aA aP)) ?_;rintro _ _ ⟨rfl,rfl⟩;refine aV ?_;simp only[o.cells,h1,if_false];exact⟨trivial,aA⟩
end Go.Proofs.R
end
section
set_option linter.unusedSimpArgs false
namespace Go.Proofs.R
open Go Go.RowKit bt
theorem TX(n:Int)(w:World):bu Tryz.prog F.za #[.int .u8 n] w fun v w'=>v = .bool (o.letter n)∧w'=w:=by
 refine bM E.za ?_;refine bF ?_
 (repeat' first
  | (refine K.cond (fun _=>?_) (fun _=>?_)<;>try (exfalso;omega))
  | (refine K.c4 (fun _=>?_) (fun _=>?_))
  | (refine K.wrap (by omega) ?_)
  | (refine K.ld (by assumption) ?_)
  | (refine K.hE (by omega) ?_)
  | simp -dsimp only[cJ,cw,Nat.reduceAdd,Nat.reduceEqDiff,reduceIte,reduceCtorEq,cU])
 all_goals (refine⟨?_,by first | rfl | trivial⟩;congr 1;rw[Bool.eq_iff_iff];simp[o.letter];omega)
theorem KI(n:Int)(w:World):bu Tryz.prog F.w3 #[.int .u8 n] w fun v w'=>v = .bool (o.digit n)∧w'=w:=by
 refine bM E.w3 ?_;refine bF ?_
 (repeat' first
  | (refine K.cond (fun _=>?_) (fun _=>?_)<;>try (exfalso;omega))
  | (refine K.c4 (fun _=>?_) (fun _=>?_))
  | (refine K.wrap (by omega) ?_)
  | (refine K.ld (by assumption) ?_)
  | (refine K.hE (by omega) ?_)
  | simp -dsimp only[cJ,cw,Nat.reduceAdd,Nat.reduceEqDiff,reduceIte,reduceCtorEq,cU])
 all_goals (refine⟨?_,by first | rfl | trivial⟩;congr 1;rw[Bool.eq_iff_iff];simp[o.digit];omega)
def tB:List ByteArray:=[⟨#[58,61]⟩,⟨#[61,61]⟩,⟨#[33,61]⟩,⟨#[60,61]⟩,⟨#[45,62]⟩,⟨#[38,38]⟩,⟨#[124,124]⟩,⟨#[61,62]⟩,⟨#[40]⟩,⟨#[41]⟩,⟨#[91]⟩,⟨#[93]⟩,⟨#[123]⟩,⟨#[125]⟩,⟨#[59]⟩,⟨#[44]⟩,⟨#[58]⟩,⟨#[46]⟩,⟨#[60]⟩,⟨#[43]⟩,⟨#[45]⟩,⟨#[42]⟩,⟨#[33]⟩,⟨#[63]⟩,⟨#[64]⟩]
theorem afC(w:World):bu Tryz.prog F.Ce #[] w fun v w'=>(∃b,v = .slice (some ⟨b,0,none⟩) 25 25∧fi w' ⟨b,0,none⟩ (tB.map Value.string))∧Ext w w':=by
 refine bM E.Ce ?_;refine bF ?_;refine aV ?_;refine K.kt (cs:=tB.map Value.string) (by simp[List.range,List.range.loop,ew,lay,fv,nO,cd,Value.cells,tB]) fun av bC cL aA aq=>?_;refine aV ?_;exact⟨⟨bC,rfl,gK aq⟩,aA⟩
theorem Ws(s:ByteArray)(w:World)(h:0<s.size)(ay:s.size≤16) :
  bu Tryz.prog F.Cd #[.string s,.int .i64 0] w fun v w'=>(∃n k:Int,v = .tuple #[.int .i64 n,.int .i64 k]∧if o.letter (o.qn s 0:Nat)=true then n=o.run o.part s∧k=1 else k≠1)∧Ext w w':=by
 refine bM E.Cd ?_;refine bF ?_;refine aV ?_;refine K.kJ (s.get! 0) (by decide) (o.get?_eq s 0 h) ?_;refine aV ?_;refine K.call (TX _ w) ?_;rintro _ w ⟨rfl,rfl⟩;refine aV ?_;refine K.c4 (fun h1=>?_) (fun h1=>?_)
 ·have qu:o.letter (o.qn s 0:Nat)=true:=h1;refine aV ?_;refine K.loop (fun S w' => ∃i:Nat,i≤s.size∧S 6 = .int .i64 i∧(∀j (aU:j<s.size),j<i→o.part s[j].toNat=true)∧w'=w)
   (fun S _=>(s.size - intOf (S 6)).toNat) ⟨0,by omega,by refine aV ?_;rfl,fun _ _ h=>absurd h (Nat.not_lt_zero _),rfl⟩ ?_
  rintro S w ck ⟨i,ad,bD,c9,rfl⟩;have aj:=ck 0 rfl;have h1:=ck 1 rfl;simp only[cd,Nat.reduceAdd,Nat.reduceEqDiff,reduceIte,iC,ln] at aj h1;clear ck;refine b2 (And.intro aj (And.intro h1 bD)) ?_;refine K.cond (fun U=>?_) (fun U=>?_)
  ·have cP:i<s.size:=by omega
   refine b2 (And.intro aj (And.intro h1 bD)) ?_;refine K.kJ (s.get! i) (by omega) (o.get?_eq s i cP) ?_;rw[o.get_eq s i cP];refine b2 (And.intro aj (And.intro h1 bD)) ?_;refine K.call (TX _ _) ?_;rintro _ w ⟨rfl,rfl⟩;refine b2 (And.intro aj (And.intro h1 bD)) ?_;refine K.c4 (fun ag=>?_) (fun ag=>?_)
   ·refine b2 (And.intro aj (And.intro h1 bD)) ?_;refine K.wrap (by omega) ?_;refine b2 (And.intro aj (And.intro h1 bD)) ?_;refine⟨⟨i+1,by omega,rfl,fun j aU gv=>?_,trivial⟩,by simp[intOf];omega⟩;by_cases kY:j<i
    ·exact c9 j aU kY
    ·have:j=i:=by omega
     subst this;simp[o.part,ag]
   refine b2 (And.intro aj (And.intro h1 bD)) ?_;refine K.kJ (s.get! i) (by omega) (o.get?_eq s i cP) ?_;rw[o.get_eq s i cP];refine b2 (And.intro aj (And.intro h1 bD)) ?_;refine K.call (KI _ _) ?_;rintro _ w ⟨rfl,rfl⟩;refine b2 (And.intro aj (And.intro h1 bD)) ?_;refine K.c4 (fun aK=>?_) (fun aK=>?_)
   ·refine b2 (And.intro aj (And.intro h1 bD)) ?_;refine K.wrap (by omega) ?_;refine b2 (And.intro aj (And.intro h1 bD)) ?_;refine⟨⟨i+1,by omega,rfl,fun j aU gv=>?_,trivial⟩,by simp[intOf];omega⟩;by_cases kY:j<i
    ·exact c9 j aU kY
    ·have:j=i:=by omega
     subst this;simp[o.part,aK]
   refine b2 (And.intro aj (And.intro h1 bD)) ?_;refine K.kJ (s.get! i) (by omega) (o.get?_eq s i cP) ?_;rw[o.get_eq s i cP];refine b2 (And.intro aj (And.intro h1 bD)) ?_;refine K.cond (fun bc=>?_) (fun bc=>?_)
   ·refine b2 (And.intro aj (And.intro h1 bD)) ?_;refine K.wrap (by omega) ?_;refine b2 (And.intro aj (And.intro h1 bD)) ?_;refine⟨⟨i+1,by omega,rfl,fun j aU gv=>?_,trivial⟩,by simp[intOf];omega⟩;by_cases kY:j<i
    ·exact c9 j aU kY
    ·have:j=i:=by omega
     subst this;simp[o.part];omega
   ·refine b2 (And.intro aj (And.intro h1 bD)) ?_;refine K.wrap (by omega) ?_;refine b2 (And.intro aj (And.intro h1 bD)) ?_;refine⟨⟨_,_,rfl,?_⟩,Ext.refl _⟩;rw[if_pos qu];rw[o.Ug o.part s i cP (fun j aU=>c9 j (by omega) aU) (by simp only[o.part,ag,aK,Bool.false_or,decide_eq_false_iff_not];omega)];exact⟨by omega,rfl⟩
  ·refine b2 (And.intro aj (And.intro h1 bD)) ?_;refine K.wrap (by omega) ?_;refine b2 (And.intro aj (And.intro h1 bD)) ?_;refine⟨⟨_,_,rfl,?_⟩,Ext.refl _⟩;rw[if_pos qu];rw[o.Ua o.part s (fun j aU=>c9 j aU (by omega))];exact⟨by omega,rfl⟩
 have qu:o.letter (o.qn s 0:Nat)=false:=h1;have hg:¬o.letter (o.qn s 0:Nat)=true:=by simp[qu]
 refine aV ?_;refine K.kJ (s.get! 0) (by decide) (o.get?_eq s 0 h) ?_;refine aV ?_;refine K.call (KI _ w) ?_;rintro _ w ⟨rfl,rfl⟩;refine aV ?_;refine K.c4 (fun U=>?_) (fun U=>?_)
 ·refine aV ?_;refine K.loop (fun S w' => ∃i:Nat,i≤s.size∧S 6 = .int .i64 i∧w'=w)
   (fun S _=>(s.size - intOf (S 6)).toNat) ⟨0,by omega,by refine aV ?_;rfl,rfl⟩ ?_
  rintro S w ck ⟨i,ad,bD,rfl⟩;have aj:=ck 0 rfl;have h1:=ck 1 rfl;simp only[cd,Nat.reduceAdd,Nat.reduceEqDiff,reduceIte,iC,ln] at aj h1;clear ck;refine b2 (And.intro aj (And.intro h1 bD)) ?_;refine K.cond (fun U=>?_) (fun U=>?_)
  ·have cP:i<s.size:=by omega
   refine b2 (And.intro aj (And.intro h1 bD)) ?_;refine K.kJ (s.get! i) (by omega) (o.get?_eq s i cP) ?_;refine b2 (And.intro aj (And.intro h1 bD)) ?_;refine K.call (KI _ _) ?_;rintro _ w ⟨rfl,rfl⟩;refine b2 (And.intro aj (And.intro h1 bD)) ?_;refine K.c4 (fun aK=>?_) (fun aK=>?_)
   ·refine b2 (And.intro aj (And.intro h1 bD)) ?_;refine K.wrap (by omega) ?_;refine b2 (And.intro aj (And.intro h1 bD)) ?_;exact⟨⟨i+1,by omega,rfl,trivial⟩,by simp[intOf];omega⟩
   ·refine b2 (And.intro aj (And.intro h1 bD)) ?_;refine K.wrap (by omega) ?_;refine b2 (And.intro aj (And.intro h1 bD)) ?_;exact⟨⟨_,_,rfl,by rw[if_neg hg];decide⟩,Ext.refl _⟩
  ·refine b2 (And.intro aj (And.intro h1 bD)) ?_;refine K.wrap (by omega) ?_;refine b2 (And.intro aj (And.intro h1 bD)) ?_;exact⟨⟨_,_,rfl,by rw[if_neg hg];decide⟩,Ext.refl _⟩
 refine aV ?_;refine K.call (afC w) ?_;rintro _ av ⟨⟨b,rfl,ax⟩,he⟩;refine aV ?_;refine K.loop (fun S w' => ∃i:Nat,i≤25∧S 8 = .int .i64 i∧Ext av w')
  (fun S _=>(25 - intOf (S 8)).toNat) ⟨0,by omega,by refine aV ?_;rfl,Ext.refl _⟩ ?_
 rintro S w' ck ⟨i,ad,dD,aC⟩;have aj:=ck 0 rfl;have h1:=ck 1 rfl;have b6:=ck 7 rfl;simp only[cd,Nat.reduceAdd,Nat.reduceEqDiff,reduceIte,iC,ln] at aj h1 b6;clear ck;refine b2 (And.intro aj (And.intro h1 (And.intro b6 dD))) ?_;refine K.cond (fun U=>?_) (fun U=>?_)
 ·have cP:i<tB.length:=by simp[tB];omega
  have mD:w'.cell? (Addr.add ⟨b,0,none⟩ (i*1))=some (.string tB[i]):=by
   rw[Nat.mul_one];exact ax.ext aC i _ (by rw[List.getElem?_map,List.getElem?_eq_getElem cP];rfl)
  have bU:tB[i].size≤2:=by
   have:∀x∈tB,x.size≤2:=by decide
   exact this _ (List.getElem_mem _)
  generalize tB[i]=x at mD bU;refine b2 (And.intro aj (And.intro h1 (And.intro b6 dD))) ?_;refine K.wrap (by omega) ?_;refine b2 (And.intro aj (And.intro h1 (And.intro b6 dD))) ?_;refine K.dk i rfl (by omega) ?_;refine b2 (And.intro aj (And.intro h1 (And.intro b6 dD))) ?_;refine K.ld mD ?_;refine b2 (And.intro aj (And.intro h1 (And.intro b6 dD))) ?_;refine K.cond (fun ag=>?_) (fun ag=>?_)
  ·refine b2 (And.intro aj (And.intro h1 (And.intro b6 dD))) ?_;refine K.dk i rfl (by omega) ?_;refine b2 (And.intro aj (And.intro h1 (And.intro b6 dD))) ?_;refine K.ld mD ?_;refine b2 (And.intro aj (And.intro h1 (And.intro b6 dD))) ?_;refine K.wrap (by omega) ?_;refine b2 (And.intro aj (And.intro h1 (And.intro b6 dD))) ?_;refine K.vm 0 x.size (by simp[fN,fv,cd,h1]) (by simp[fN,fv,cd,h1]) (by omega) ?_;refine b2 (And.intro aj (And.intro h1 (And.intro b6 dD))) ?_;refine K.dk i rfl (by omega) ?_;refine b2 (And.intro aj (And.intro h1 (And.intro b6 dD))) ?_;refine K.ld mD ?_;refine b2 (And.intro aj (And.intro h1 (And.intro b6 dD))) ?_;intro aT aw;refine K.cond (fun aK=>?_) (fun aK=>?_)
   ·refine b2 (And.intro aj (And.intro h1 (And.intro b6 dD))) ?_;refine K.dk i rfl (by omega) ?_;refine b2 (And.intro aj (And.intro h1 (And.intro b6 dD))) ?_;refine K.ld (aw.cell mD) ?_;refine b2 (And.intro aj (And.intro h1 (And.intro b6 dD))) ?_;exact⟨⟨_,_,rfl,by rw[if_neg hg];decide⟩,he.trans (aC.trans aw)⟩
   ·refine b2 (And.intro aj (And.intro h1 (And.intro b6 dD))) ?_;refine K.wrap (by omega) ?_;refine b2 (And.intro aj (And.intro h1 (And.intro b6 dD))) ?_;exact⟨⟨i+1,by omega,rfl,aC.trans aw⟩,by simp[intOf];omega⟩
  ·refine b2 (And.intro aj (And.intro h1 (And.intro b6 dD))) ?_;intro aT aw;refine K.wrap (by omega) ?_;refine b2 (And.intro aj (And.intro h1 (And.intro b6 dD))) ?_;exact⟨⟨i+1,by omega,rfl,aC.trans aw⟩,by simp[intOf];omega⟩
 ·refine b2 (And.intro aj (And.intro h1 (And.intro b6 dD))) ?_;exact⟨⟨_,_,rfl,by rw[if_neg hg];decide⟩,he.trans aC⟩
theorem zB(s:ByteArray)(w:World)(ay:s.size≤9223372036854775807):bu Tryz.prog F.rP #[.string s] w fun v w'=>v = .bool (o.isName s)∧Ext w w':=by
 refine bM E.rP ?_;refine bF ?_;refine aV ?_;refine K.cond (fun aj=>?_) (fun aj=>?_)
 ·refine aV ?_;refine⟨?_,Ext.refl w⟩;subst aj;rfl
 have bU:s.size≠0:=fun h=>aj (by
  cases s with | mk d =>
  have:d=#[]:=by simpa[ByteArray.size] using h
  rw[this])
 refine aV ?_;refine K.cond (fun h1=>?_) (fun h1=>?_)
 ·refine aV ?_;refine⟨?_,Ext.refl w⟩
  have:¬s.size≤16:=by omega
  simp[o.isName,this]
 have qu:s.size≤16:=by omega
 refine aV ?_;refine K.cond (fun U=>?_) (fun U=>?_)
 ·refine aV ?_;exact⟨by subst U;exact congrArg Value.bool (by decide +kernel),Ext.refl w⟩
 refine aV ?_;refine K.cond (fun ag=>?_) (fun ag=>?_)
 ·refine aV ?_;exact⟨by subst ag;exact congrArg Value.bool (by decide +kernel),Ext.refl w⟩
 refine aV ?_;refine K.cond (fun aK=>?_) (fun aK=>?_)
 ·refine aV ?_;exact⟨by subst aK;exact congrArg Value.bool (by decide +kernel),Ext.refl w⟩
 refine aV ?_;refine K.cond (fun bc=>?_) (fun bc=>?_)
 ·refine aV ?_;exact⟨by subst bc;exact congrArg Value.bool (by decide +kernel),Ext.refl w⟩
 have hm:s∉o.pc:=by simp[o.pc,U,ag,aK,bc]
 refine aV ?_;refine K.call (Ws s w (by omega) qu) ?_;rintro _ av ⟨⟨n,k,rfl,kF⟩,he⟩;refine aV ?_;refine K.cond (fun bD=>?_) (fun bD=>?_)
 ·refine aV ?_;refine⟨?_,he⟩;have aP:o.letter (o.qn s 0:Nat)=true:=by
   by_cases ar:o.letter (o.qn s 0:Nat)=true
   ·exact ar
   ·rw[if_neg ar] at kF;exact absurd bD kF
  rw[if_pos aP] at kF;congr 1;simp[o.isName,aP,bU,qu,hm,kF.1];omega
 ·refine aV ?_;refine⟨?_,he⟩;have aP:o.letter (o.qn s 0:Nat)=false:=by
   by_cases ar:o.letter (o.qn s 0:Nat)=true
   ·rw[if_pos ar] at kF;exact absurd kF.2 bD
   ·simpa using ar
  simp[o.isName,aP]
end Go.Proofs.R
end
section
set_option linter.unusedSimpArgs false
namespace Go.Proofs.R
open Go Go.RowKit bt
theorem wc{e0:Int}{fe:Nat→ByteArray}{mo:Nat→Int}{i:Nat}(h:e0≤i):o.err e0 fe mo i=11:=by rw[o.err,if_pos h]
theorem yx{e0:Int}{fe:Nat→ByteArray}{mo:Nat→Int}{i:Nat}(h:¬e0≤i)(U:o.isName (fe i)=false):o.err e0 fe mo i=6:=by rw[o.err,if_neg h,if_pos U]
theorem H6{e0:Int}{fe:Nat→ByteArray}{mo:Nat→Int}{i j:Nat}(h:¬e0≤i)(U:o.isName (fe i)=true)(aU:j<i)(he:fe j=fe i):o.err e0 fe mo i=7:=by
 rw[o.err,if_neg h,if_neg (by simp[U]),if_pos ⟨j,aU,he⟩]
theorem H5{e0:Int}{fe:Nat→ByteArray}{mo:Nat→Int}{i:Nat}(h:¬e0≤i)(U:o.isName (fe i)=true)(aU:∀j,j<i→fe j≠fe i):o.err e0 fe mo i=mo i:=by
 rw[o.err,if_neg h,if_neg (by simp[U]),if_neg (fun⟨j,h1,U⟩=>aU j h1 U)]
theorem SY{e0:Int}{fe:Nat→ByteArray}{mo:Nat→Int}{i:Nat}(hm:0≤e0)(h:∀j,j<i→o.err e0 fe mo j=0):(i:Int)≤e0:=by
 by_cases ar:(i:Int)≤e0
 ·exact ar
 ·have:=h e0.toNat (by omega)
  rw[wc (by omega)] at this;cases this
theorem aeQ(v:Value)(l:List o.Scalar)(w:World)(aP:o.gi w v l) :
  bu Tryz.prog F.Cm #[v] w fun v w'=>v = .tuple #[.int .i64 (o.scalars l).1,.int .i64 (o.scalars l).2]∧Ext w w':=by
 obtain⟨bl,cap,rfl,hlen⟩:=aP.form;refine bM E.Cm ?_;refine bF ?_;simp -dsimp only[cJ,cw,Nat.reduceAdd,Nat.reduceEqDiff,reduceIte,reduceCtorEq,cU];refine K.loop (fun S w' => ∃i:Nat,i≤l.length∧S 4 = .int .i64 i∧(∀j,j<i→o.err 2 (o.nameAt (·.name) l) (o.rW l) j=0)∧Ext w w')
  (fun S _=>(l.length - intOf (S 4)).toNat) ⟨0,by omega,by simp -dsimp only[cJ,cw,Nat.reduceAdd,Nat.reduceEqDiff,reduceIte,reduceCtorEq,cU];rfl,fun _ h=>absurd h (Nat.not_lt_zero _),Ext.refl _⟩ ?_
 rintro S w' ck ⟨i,ad,aK,c9,he⟩;have aj:=ck 0 rfl;simp only[cd,Nat.reduceAdd,Nat.reduceEqDiff,reduceIte,iC,ln] at aj;clear ck;have Fs:=SY (by omega) c9;refine b2 (And.intro aj aK) ?_;apply K.cond<;>intro g1;rotate_left
 ·refine b2 (And.intro aj aK) ?_;rw[o.scalars,o.ng (fun j aU=>c9 j (by omega))];exact⟨rfl,he⟩
 have cP:i<l.length:=by omega
 obtain⟨a,rfl⟩:=aP.addr (by omega);have hD:=bz.ext o.iv.ext he aP;have qx:=(hD.at i cP).cells 0 _ rfl;have aq:=(hD.at i cP).cells 1 _ rfl;have dh:o.hZ l[i].name:=(hD.at i cP).ok;have fb:o.nameAt (fun x:o.Scalar=>x.name) l i=l[i].name:=pW _ _ _ cP;refine b2 (And.intro aj aK) ?_;apply K.cond<;>intro g2
 ·refine b2 (And.intro aj aK) ?_;rw[o.scalars,o.hR cP c9 (by rw[wc (by omega)];decide),wc (by omega)];exact⟨rfl,he⟩
 have hm:¬(2:Int)≤(i:Int):=by omega
 refine b2 (And.intro aj aK) ?_;refine K.dk i rfl cP ?_;refine b2 (And.intro aj aK) ?_;refine K.ld qx ?_;refine b2 (And.intro aj aK) ?_;refine K.call (zB _ _ dh) ?_;rintro _ aT ⟨rfl,aC⟩;refine b2 (And.intro aj aK) ?_;refine K.c4 (fun g3=>?_) (fun g3=>?_);rotate_left
 ·refine b2 (And.intro aj aK) ?_;rw[←fb] at g3;rw[o.scalars,o.hR cP c9 (by rw[yx hm g3];decide),yx hm g3];exact⟨rfl,he.trans aC⟩
 have oY:=g3;rw[←fb] at oY;replace aC:=he.trans aC;clear he hD;refine b2 (And.intro aj aK) ?_;refine K.loop (fun a6 w' => ∃k:Nat,k≤i∧a6 5 = .int .i64 k∧(∀j,j<k→o.nameAt (fun x:o.Scalar=>x.name) l j≠o.nameAt (fun x:o.Scalar=>x.name) l i)∧Ext w w')
  (fun S _=>(i - intOf (S 5)).toNat) ⟨0,by omega,by simp -dsimp only[cJ,cw,Nat.reduceAdd,Nat.reduceEqDiff,reduceIte,reduceCtorEq,cU];rfl,fun _ h=>absurd h (Nat.not_lt_zero _),aC⟩ ?_
 rintro lW bf ni ⟨k,hk,bc,dg,aw⟩;have cy:=aj;have cA:=aK;have aj:=ni 0 rfl;have aK:=ni 4 rfl;simp only[cd,Nat.reduceAdd,Nat.reduceEqDiff,reduceIte,iC,ln] at aj aK;clear ni;rw[cy] at aj;rw[cA] at aK;have hD:=bz.ext o.iv.ext aw aP;have qx:=(hD.at i cP).cells 0 _ rfl;have aq:=(hD.at i cP).cells 1 _ rfl;refine b2 (And.intro aj (And.intro aK bc)) ?_;apply K.cond<;>intro g4
 ·have bh:k<l.length:=by omega
  have kX:=(hD.at k bh).cells 0 _ rfl;have kF:o.nameAt (fun x:o.Scalar=>x.name) l k=l[k].name:=pW _ _ _ bh;refine b2 (And.intro aj (And.intro aK bc)) ?_;refine K.dk k rfl bh ?_;refine b2 (And.intro aj (And.intro aK bc)) ?_;refine K.ld kX ?_;refine b2 (And.intro aj (And.intro aK bc)) ?_;refine K.dk i rfl cP ?_;refine b2 (And.intro aj (And.intro aK bc)) ?_;refine K.ld qx ?_;refine b2 (And.intro aj (And.intro aK bc)) ?_;intro bq aR;apply K.cond<;>intro g5
  ·refine b2 (And.intro aj (And.intro aK bc)) ?_;have aL:=H6 (mo:=o.rW l) hm oY (show k<i by omega) (by rw[kF,fb];exact g5);rw[o.scalars,o.hR cP c9 (by rw[aL];decide),aL];exact⟨rfl,aw.trans aR⟩
  ·refine b2 (And.intro aj (And.intro aK bc)) ?_;refine K.wrap (by omega) ?_;refine b2 (And.intro aj (And.intro aK bc)) ?_;refine⟨⟨k+1,by omega,rfl,fun j aU=>?_,aw.trans aR⟩,by simp[intOf];omega⟩;by_cases hC:j<k
   ·exact dg j hC
   ·have:j=k:=by omega
    subst this;rw[kF,fb];exact g5
 have gl:=H5 (mo:=o.rW l) hm oY (fun j aU=>dg j (by omega));have qH:o.rW l i=if 1≤l[i].size∧l[i].size≤4 then 0 else 10:=by simp[o.rW,cP]
 rw[qH] at gl;generalize l[i].size=z at aq gl;refine b2 (And.intro aj (And.intro aK bc)) ?_;refine K.dk i rfl cP ?_;refine b2 (And.intro aj (And.intro aK bc)) ?_;refine K.ld aq ?_;refine b2 (And.intro aj (And.intro aK bc)) ?_;apply K.cond<;>intro g6
 ·refine b2 (And.intro aj (And.intro aK bc)) ?_;rw[if_neg (by omega)] at gl;rw[o.scalars,o.hR cP c9 (by rw[gl];decide),gl];exact⟨rfl,aw⟩
 refine b2 (And.intro aj (And.intro aK bc)) ?_;refine K.dk i rfl cP ?_;refine b2 (And.intro aj (And.intro aK bc)) ?_;refine K.ld aq ?_;refine b2 (And.intro aj (And.intro aK bc)) ?_;apply K.cond<;>intro g7
 ·refine b2 (And.intro aj (And.intro aK bc)) ?_;rw[if_neg (by omega)] at gl;rw[o.scalars,o.hR cP c9 (by rw[gl];decide),gl];exact⟨rfl,aw⟩
 ·refine b2 (And.intro aj (And.intro aK bc)) ?_;rw[if_pos (by omega)] at gl;refine K.wrap (by omega) ?_;refine b2 (And.intro aj (And.intro aK bc)) ?_;refine⟨⟨i+1,by omega,rfl,fun j aU=>?_,aw⟩,by simp[intOf,cA];omega⟩;by_cases gv:j<i
  ·exact c9 j gv
  ·have:j=i:=by omega
   subst this;exact gl
end Go.Proofs.R
end
section
set_option linter.unusedSimpArgs false
namespace Go.Proofs.R
open Go Go.RowKit bt
theorem UB(aZ ad:Int)(w:World):bu Tryz.prog F.w8 #[.int .i64 aZ,.int .i64 ad] w fun v w'=>v = .bool (o.narrow aZ ad)∧w'=w:=by
 refine bM E.w8 ?_;refine bF ?_
 (repeat' first
  | (refine K.cond (fun _=>?_) (fun _=>?_)<;>try (exfalso;omega))
  | (refine K.c4 (fun _=>?_) (fun _=>?_))
  | (refine K.wrap (by omega) ?_)
  | (refine K.ld (by assumption) ?_)
  | (refine K.hE (by omega) ?_)
  | simp -dsimp only[cJ,cw,Nat.reduceAdd,Nat.reduceEqDiff,reduceIte,reduceCtorEq,cU])
 all_goals (refine⟨?_,by first | rfl | trivial⟩;congr 1;rw[Bool.eq_iff_iff];simp[o.narrow];omega)
def Gz(v:o.Var)(s:List o.Scalar):Int :=
 if (v.scalar≠0∧o.size v.scalar s=0)∨(v.over≠0∧o.size v.over s=0) then 8
 else if v.scalar=0∧(o.narrow v.aZ v.ad=false∨v.init<v.aZ∨v.init > v.ad) then 10
 else if v.scalar≠0∧(v.init<0∨v.init > o.size v.scalar s) then 10 else 0
theorem agr(l:List o.Var)(s:List o.Scalar)(i:Nat)(h:i<l.length):o.nA l s i=Gz l[i] s:=by
 rw[o.nA,List.getElem?_eq_getElem h];simp only[Gz,o.there,o.bounds,decide_eq_false_iff_not];by_cases aj:l[i].scalar=0
 ·simp only[aj,if_true];by_cases h1:l[i].over=0
  ·simp[h1]
  ·simp[h1]
 ·simp only[aj,if_false];by_cases h1:l[i].over=0
  ·simp[aj,h1]
  ·simp[aj,h1]
theorem aeS(x:o.Var)(v:Value)(l:List o.Scalar)(w:World)(aP:o.gi w v l) :
  bu Tryz.prog F.Cn #[.agg x.enc.toArray,v] w fun v w'=>v = .int .i64 (Gz x l)∧Ext w w':=by
 obtain⟨bl,cap,rfl,hlen⟩:=aP.form;refine bM E.Cn ?_;refine bF ?_;simp -dsimp only[cJ,cw,Nat.reduceAdd,Nat.reduceEqDiff,reduceIte,reduceCtorEq,cU];refine K.new fun av b aD aA aq=>?_;have n2:=bz.ext o.iv.ext aA aP;have c1:av.cell? (Addr.add ⟨b,0,none⟩ 1)=some (.int .i64 x.scalar):=fp aq rfl;have c2:av.cell? (Addr.add ⟨b,0,none⟩ 2)=some (.int .i64 x.over):=fp aq rfl;have bN:av.cell? (Addr.add ⟨b,0,none⟩ 3)=some (.int .i64 x.aZ):=fp aq rfl;have bT:av.cell? (Addr.add ⟨b,0,none⟩ 4)=some (.int .i64 x.ad):=fp aq rfl;have nI:av.cell? (Addr.add ⟨b,0,none⟩ 5)=some (.int .i64 x.init):=fp aq rfl;have aB:∀k w',Ext av w'→bu Tryz.prog F.pR #[.slice bl l.length cap,.int .i64 k] w' fun u bZ=>u = .int .i64 (o.size k l)∧Ext w' bZ:=fun k w' he =>
  (zy k _ l w' (bz.ext o.iv.ext he n2)).mono fun v bZ h=>⟨h.1,h.2 ▸ Ext.refl _⟩
 (repeat' first
  | (refine K.cond (fun _=>?_) (fun _=>?_)<;>try (exfalso;omega))
  | (refine K.c4 (fun _=>?_) (fun _=>?_))
  | (refine K.ld (by assumption) ?_)
  | (refine K.call (zy _ _ l _ n2) ?_;rintro _ av ⟨rfl,rfl⟩)
  | (refine K.call (UB _ _ _) ?_;rintro _ av ⟨rfl,rfl⟩)
  | (refine K.gn _ (aB _) ?_)
  | simp -dsimp only[cJ,cw,Nat.reduceAdd,Nat.reduceEqDiff,reduceIte,reduceCtorEq,cU]
  | (intro aT aC;replace aC:=aA.trans aC))
 all_goals (refine⟨?_,by assumption⟩;congr 1;unfold Gz;simp only[o.narrow,decide_eq_false_iff_not])
 all_goals (repeat' split)
 all_goals first | rfl | (exfalso;omega)
theorem TQ(v v2:Value)(l:List o.Var)(s:List o.Scalar)(e0:Int)(w:World)(aP:o.gJ w v l)(ay:o.gi w v2 s) :
  bu Tryz.prog F.ze #[v,v2,.int .i64 e0] w fun v w'=>v = .tuple #[.int .i64 (o.vars l s e0).1,.int .i64 (o.vars l s e0).2]∧Ext w w':=by
 obtain⟨bl,cap,rfl,hlen⟩:=aP.form;refine bM E.ze ?_;refine bF ?_;simp -dsimp only[cJ,cw,Nat.reduceAdd,Nat.reduceEqDiff,reduceIte,reduceCtorEq,cU];refine K.loop (fun S w' => ∃i:Nat,i≤l.length∧S 8 = .int .i64 i∧(∀j,j<i→o.err (max e0 0) (o.nameAt (·.name) l) (o.nA l s) j=0)∧Ext w w')
  (fun S _=>(l.length - intOf (S 8)).toNat) ⟨0,by omega,by simp -dsimp only[cJ,cw,Nat.reduceAdd,Nat.reduceEqDiff,reduceIte,reduceCtorEq,cU];rfl,fun _ h=>absurd h (Nat.not_lt_zero _),Ext.refl _⟩ ?_
 rintro S w' ck ⟨i,ad,dD,c9,he⟩;have aj:=ck 0 rfl;have h1:=ck 1 rfl;have U:=ck 2 rfl;simp only[cd,Nat.reduceAdd,Nat.reduceEqDiff,reduceIte,iC,ln] at aj h1 U;clear ck;refine b2 (And.intro aj (And.intro h1 (And.intro U dD))) ?_;apply K.cond<;>intro g1;rotate_left
 ·refine b2 (And.intro aj (And.intro h1 (And.intro U dD))) ?_;rw[o.vars,o.ng (fun j aU=>c9 j (by omega))];exact⟨rfl,he⟩
 have cP:i<l.length:=by omega
 obtain⟨a,rfl⟩:=aP.addr (by omega);have hD:=bz.ext o.oK.ext he aP;have qx:=(hD.at i cP).cells 0 _ rfl;have dh:o.hZ l[i].name:=(hD.at i cP).ok;have fb:o.nameAt (fun x:o.Var=>x.name) l i=l[i].name:=pW _ _ _ cP;refine b2 (And.intro aj (And.intro h1 (And.intro U dD))) ?_;apply K.cond<;>intro g2
 ·refine b2 (And.intro aj (And.intro h1 (And.intro U dD))) ?_;rw[o.vars,o.hR cP c9 (by rw[wc (by omega)];decide),wc (by omega)];exact⟨rfl,he⟩
 have hm:¬(max e0 0:Int)≤(i:Int):=by omega
 refine b2 (And.intro aj (And.intro h1 (And.intro U dD))) ?_;refine K.dk i rfl cP ?_;refine b2 (And.intro aj (And.intro h1 (And.intro U dD))) ?_;refine K.ld qx ?_;refine b2 (And.intro aj (And.intro h1 (And.intro U dD))) ?_;refine K.call (zB _ _ dh) ?_;rintro _ aT ⟨rfl,aC⟩;refine b2 (And.intro aj (And.intro h1 (And.intro U dD))) ?_;refine K.c4 (fun g3=>?_) (fun g3=>?_);rotate_left
 ·refine b2 (And.intro aj (And.intro h1 (And.intro U dD))) ?_;rw[←fb] at g3;rw[o.vars,o.hR cP c9 (by rw[yx hm g3];decide),yx hm g3];exact⟨rfl,he.trans aC⟩
 have oY:=g3;rw[←fb] at oY;replace aC:=he.trans aC;clear he hD;refine b2 (And.intro aj (And.intro h1 (And.intro U dD))) ?_;refine K.loop (fun a6 w' => ∃k:Nat,k≤i∧a6 9 = .int .i64 k∧(∀j,j<k→o.nameAt (fun x:o.Var=>x.name) l j≠o.nameAt (fun x:o.Var=>x.name) l i)∧Ext w w')
  (fun S _=>(i - intOf (S 9)).toNat) ⟨0,by omega,by simp -dsimp only[cJ,cw,Nat.reduceAdd,Nat.reduceEqDiff,reduceIte,reduceCtorEq,cU];rfl,fun _ h=>absurd h (Nat.not_lt_zero _),aC⟩ ?_
 rintro lW bf ni ⟨k,hk,hS,dg,aw⟩;have cy:=aj;have b9:=h1;have ch:=U;have Tg:=dD;have aj:=ni 0 rfl;have h1:=ni 1 rfl;have U:=ni 2 rfl;have dD:=ni 8 rfl;simp only[cd,Nat.reduceAdd,Nat.reduceEqDiff,reduceIte,iC,ln] at aj h1 U dD;clear ni;rw[cy] at aj;rw[b9] at h1;rw[ch] at U;rw[Tg] at dD;have hD:=bz.ext o.oK.ext aw aP;have qx:=(hD.at i cP).cells 0 _ rfl;refine b2 (And.intro aj (And.intro h1 (And.intro U (And.intro dD hS)))) ?_;apply K.cond<;>intro g4
 ·have bh:k<l.length:=by omega
  have kX:=(hD.at k bh).cells 0 _ rfl;have kF:o.nameAt (fun x:o.Var=>x.name) l k=l[k].name:=pW _ _ _ bh;refine b2 (And.intro aj (And.intro h1 (And.intro U (And.intro dD hS)))) ?_;refine K.dk k rfl bh ?_;refine b2 (And.intro aj (And.intro h1 (And.intro U (And.intro dD hS)))) ?_;refine K.ld kX ?_;refine b2 (And.intro aj (And.intro h1 (And.intro U (And.intro dD hS)))) ?_;refine K.dk i rfl cP ?_;refine b2 (And.intro aj (And.intro h1 (And.intro U (And.intro dD hS)))) ?_;refine K.ld qx ?_;refine b2 (And.intro aj (And.intro h1 (And.intro U (And.intro dD hS)))) ?_;intro bq aR;apply K.cond<;>intro g5
  ·refine b2 (And.intro aj (And.intro h1 (And.intro U (And.intro dD hS)))) ?_;have aL:=H6 (mo:=o.nA l s) hm oY (show k<i by omega) (by rw[kF,fb];exact g5);rw[o.vars,o.hR cP c9 (by rw[aL];decide),aL];exact⟨rfl,aw.trans aR⟩
  ·refine b2 (And.intro aj (And.intro h1 (And.intro U (And.intro dD hS)))) ?_;refine K.wrap (by omega) ?_;refine b2 (And.intro aj (And.intro h1 (And.intro U (And.intro dD hS)))) ?_;refine⟨⟨k+1,by omega,rfl,fun j aU=>?_,aw.trans aR⟩,by simp[intOf];omega⟩;by_cases hC:j<k
   ·exact dg j hC
   ·have:j=k:=by omega
    subst this;rw[kF,fb];exact g5
 have gl:=H5 (mo:=o.nA l s) hm oY (fun j aU=>dg j (by omega));rw[agr l s i cP] at gl;have wS:=bz.ext o.iv.ext aw ay;have lr:=(hD.at i cP).cells;generalize l[i]=x at lr gl;refine b2 (And.intro aj (And.intro h1 (And.intro U (And.intro dD hS)))) ?_;refine K.dk i rfl cP ?_;refine b2 (And.intro aj (And.intro h1 (And.intro U (And.intro dD hS)))) ?_;refine K.jk lr rfl ?_;refine b2 (And.intro aj (And.intro h1 (And.intro U (And.intro dD hS)))) ?_;refine K.call (aeS x _ s _ wS) ?_;rintro _ bq ⟨rfl,aR⟩;replace aR:=aw.trans aR;refine b2 (And.intro aj (And.intro h1 (And.intro U (And.intro dD hS)))) ?_;apply K.cond<;>intro g6;rotate_left
 ·refine b2 (And.intro aj (And.intro h1 (And.intro U (And.intro dD hS)))) ?_;rw[o.vars,o.hR cP c9 (by rw[gl];exact g6),gl];exact⟨rfl,aR⟩
 ·refine b2 (And.intro aj (And.intro h1 (And.intro U (And.intro dD hS)))) ?_;rw[g6] at gl;refine K.wrap (by omega) ?_;refine b2 (And.intro aj (And.intro h1 (And.intro U (And.intro dD hS)))) ?_;refine⟨⟨i+1,by omega,rfl,fun j aU=>?_,aR⟩,by simp[intOf,Tg];omega⟩;by_cases gv:j<i
  ·exact c9 j gv
  ·have:j=i:=by omega
   subst this;exact gl
end Go.Proofs.R
end
section
set_option linter.unusedSimpArgs false
namespace Go.Proofs.R
open Go Go.RowKit bt
theorem aeI(v v2:Value)(l:List o.c5)(s:List o.Scalar)(w:World)(aP:o.lN w v l)(ay:o.gi w v2 s) :
  bu Tryz.prog F.Cl #[v,v2] w fun v w'=>v = .tuple #[.int .i64 (o.aJ l s).1,.int .i64 (o.aJ l s).2]∧Ext w w':=by
 obtain⟨bl,cap,rfl,hlen⟩:=aP.form;refine bM E.Cl ?_;refine bF ?_;refine aV ?_;refine K.loop (fun S w' => ∃i:Nat,i≤l.length∧S 6 = .int .i64 i∧(∀j,j<i→o.err 4 (o.nameAt (·.name) l) (o.nc l s) j=0)∧Ext w w')
  (fun S _=>(l.length - intOf (S 6)).toNat) ⟨0,by omega,by refine aV ?_;rfl,fun _ h=>absurd h (Nat.not_lt_zero _),Ext.refl _⟩ ?_
 rintro S w' ck ⟨i,ad,bD,c9,he⟩;have aj:=ck 0 rfl;have h1:=ck 1 rfl;simp only[cd,Nat.reduceAdd,Nat.reduceEqDiff,reduceIte,iC,ln] at aj h1;clear ck;have Fs:=SY (by omega) c9;simp -dsimp only[cJ,cw,Nat.reduceAdd,Nat.reduceEqDiff,reduceIte,reduceCtorEq,cU,aj,h1,bD];apply K.cond<;>intro g1;rotate_left
 ·simp -dsimp only[cJ,cw,Nat.reduceAdd,Nat.reduceEqDiff,reduceIte,reduceCtorEq,cU,aj,h1,bD];rw[o.aJ,o.ng (fun j aU=>c9 j (by omega))];exact⟨rfl,he⟩
 have cP:i<l.length:=by omega
 obtain⟨a,rfl⟩:=aP.addr (by omega);have hD:=bz.ext o.oJ.ext he aP;have qx:=(hD.at i cP).cells 0 _ rfl;have dh:o.hZ l[i].name:=(hD.at i cP).ok;have fb:o.nameAt (fun x:o.c5=>x.name) l i=l[i].name:=pW _ _ _ cP;simp -dsimp only[cJ,cw,Nat.reduceAdd,Nat.reduceEqDiff,reduceIte,reduceCtorEq,cU,aj,h1,bD];apply K.cond<;>intro g2
 ·simp -dsimp only[cJ,cw,Nat.reduceAdd,Nat.reduceEqDiff,reduceIte,reduceCtorEq,cU,aj,h1,bD];rw[o.aJ,o.hR cP c9 (by rw[wc (by omega)];decide),wc (by omega)];exact⟨rfl,he⟩
 have hm:¬(4:Int)≤(i:Int):=by omega
 simp -dsimp only[cJ,cw,Nat.reduceAdd,Nat.reduceEqDiff,reduceIte,reduceCtorEq,cU,aj,h1,bD];refine K.dk i rfl cP ?_;simp -dsimp only[cJ,cw,Nat.reduceAdd,Nat.reduceEqDiff,reduceIte,reduceCtorEq,cU,aj,h1,bD];refine K.ld qx ?_;simp -dsimp only[cJ,cw,Nat.reduceAdd,Nat.reduceEqDiff,reduceIte,reduceCtorEq,cU,aj,h1,bD];refine K.call (zB _ _ dh) ?_;rintro _ aT ⟨rfl,aC⟩;simp -dsimp only[cJ,cw,Nat.reduceAdd,Nat.reduceEqDiff,reduceIte,reduceCtorEq,cU,aj,h1,bD];refine K.c4 (fun g3=>?_) (fun g3=>?_);rotate_left
 ·simp -dsimp only[cJ,cw,Nat.reduceAdd,Nat.reduceEqDiff,reduceIte,reduceCtorEq,cU,aj,h1,bD];rw[←fb] at g3;rw[o.aJ,o.hR cP c9 (by rw[yx hm g3];decide),yx hm g3];exact⟨rfl,he.trans aC⟩
 have oY:=g3;rw[←fb] at oY;replace aC:=he.trans aC;clear he hD;simp -dsimp only[cJ,cw,Nat.reduceAdd,Nat.reduceEqDiff,reduceIte,reduceCtorEq,cU,aj,h1,bD];refine K.loop (fun a6 w' => ∃k:Nat,k≤i∧a6 7 = .int .i64 k∧(∀j,j<k→o.nameAt (fun x:o.c5=>x.name) l j≠o.nameAt (fun x:o.c5=>x.name) l i)∧Ext w w')
  (fun S _=>(i - intOf (S 7)).toNat) ⟨0,by omega,by refine aV ?_;rfl,fun _ h=>absurd h (Nat.not_lt_zero _),aC⟩ ?_
 rintro lW bf ni ⟨k,hk,b6,dg,aw⟩;have cy:=aj;have b9:=h1;have Tf:=bD;have aj:=ni 0 rfl;have h1:=ni 1 rfl;have bD:=ni 6 rfl;simp only[cd,Nat.reduceAdd,Nat.reduceEqDiff,reduceIte,iC,ln] at aj h1 bD;clear ni;rw[cy] at aj;rw[b9] at h1;rw[Tf] at bD;have hD:=bz.ext o.oJ.ext aw aP;have qx:=(hD.at i cP).cells 0 _ rfl;simp -dsimp only[cJ,cw,Nat.reduceAdd,Nat.reduceEqDiff,reduceIte,reduceCtorEq,cU,aj,h1,bD,b6];apply K.cond<;>intro g4
 ·have bh:k<l.length:=by omega
  have kX:=(hD.at k bh).cells 0 _ rfl;have kF:o.nameAt (fun x:o.c5=>x.name) l k=l[k].name:=pW _ _ _ bh;simp -dsimp only[cJ,cw,Nat.reduceAdd,Nat.reduceEqDiff,reduceIte,reduceCtorEq,cU,aj,h1,bD,b6];refine K.dk k rfl bh ?_;simp -dsimp only[cJ,cw,Nat.reduceAdd,Nat.reduceEqDiff,reduceIte,reduceCtorEq,cU,aj,h1,bD,b6];refine K.ld kX ?_;simp -dsimp only[cJ,cw,Nat.reduceAdd,Nat.reduceEqDiff,reduceIte,reduceCtorEq,cU,aj,h1,bD,b6];refine K.dk i rfl cP ?_;simp -dsimp only[cJ,cw,Nat.reduceAdd,Nat.reduceEqDiff,reduceIte,reduceCtorEq,cU,aj,h1,bD,b6];refine K.ld qx ?_;simp -dsimp only[cJ,cw,Nat.reduceAdd,Nat.reduceEqDiff,reduceIte,reduceCtorEq,cU,aj,h1,bD,b6];intro bq aR;apply K.cond<;>intro g5
  ·simp -dsimp only[cJ,cw,Nat.reduceAdd,Nat.reduceEqDiff,reduceIte,reduceCtorEq,cU,aj,h1,bD,b6];have aL:=H6 (mo:=o.nc l s) hm oY (show k<i by omega) (by rw[kF,fb];exact g5);rw[o.aJ,o.hR cP c9 (by rw[aL];decide),aL];exact⟨rfl,aw.trans aR⟩
  ·simp -dsimp only[cJ,cw,Nat.reduceAdd,Nat.reduceEqDiff,reduceIte,reduceCtorEq,cU,aj,h1,bD,b6];refine K.wrap (by omega) ?_;simp -dsimp only[cJ,cw,Nat.reduceAdd,Nat.reduceEqDiff,reduceIte,reduceCtorEq,cU,aj,h1,bD,b6];refine⟨⟨k+1,by omega,rfl,fun j aU=>?_,aw.trans aR⟩,by simp[intOf];omega⟩;by_cases hC:j<k
   ·exact dg j hC
   ·have:j=k:=by omega
    subst this;rw[kF,fb];exact g5
 have gl:=H5 (mo:=o.nc l s) hm oY (fun j aU=>dg j (by omega));have e3:o.nc l s i=if o.there l[i].scalar s=false then 8 else if l[i].cap<1∨l[i].cap > 4∨(l[i].scalar=0∧o.narrow l[i].aZ l[i].ad=false) then 10 else 0:=by simp[o.nc,cP]
 rw[e3] at gl;have wS:=bz.ext o.iv.ext aw ay;have c1:=(hD.at i cP).cells 1 _ rfl;have c2:=(hD.at i cP).cells 2 _ rfl;have bN:=(hD.at i cP).cells 3 _ rfl;have bT:=(hD.at i cP).cells 4 _ rfl;simp only[o.there,o.narrow,decide_eq_false_iff_not] at gl;generalize l[i].scalar=xs at c1 gl;generalize l[i].cap=ajS at c2 gl;generalize l[i].aZ=Lx at bN gl;generalize l[i].ad=Lw at bT gl;clear e3;have aB:∀w',Ext bf w'→bu Tryz.prog F.w8 #[.int .i64 Lx,.int .i64 Lw] w' fun u bZ=>u = .bool (o.narrow Lx Lw)∧Ext w' bZ:=fun w' he =>
  (UB Lx Lw w').mono fun v bZ h=>⟨h.1,h.2 ▸ Ext.refl _⟩
 simp -dsimp only[cJ,cw,Nat.reduceAdd,Nat.reduceEqDiff,reduceIte,reduceCtorEq,cU,aj,h1,bD,b6]
 (repeat' first
  | (refine K.cond (fun _=>?_) (fun _=>?_)<;>try (exfalso;omega))
  | (refine K.c4 (fun _=>?_) (fun _=>?_))
  | (refine K.dk i rfl cP ?_)
  | (refine K.ld (by assumption) ?_)
  | (refine K.call (zy _ _ s _ wS) ?_;rintro _ bf ⟨rfl,rfl⟩)
  | (refine K.gn _ aB ?_)
  | simp -dsimp only[cJ,cw,Nat.reduceAdd,Nat.reduceEqDiff,reduceIte,reduceCtorEq,cU,aj,h1,bD,b6]
  | (intro bq aR;replace aR:=aw.trans aR))
 all_goals first
  | (rw[if_pos (by omega)] at gl
     rw[o.aJ,o.hR cP c9 (by rw[gl];decide),gl];exact⟨rfl,by assumption⟩)
  | (rw[if_neg (by omega),if_pos (by omega)] at gl
     rw[o.aJ,o.hR cP c9 (by rw[gl];decide),gl];exact⟨rfl,by assumption⟩)
  | (rw[if_neg (by omega),if_neg (by omega)] at gl
     refine K.wrap (by omega) ?_;simp -dsimp only[cJ,cw,Nat.reduceAdd,Nat.reduceEqDiff,reduceIte,reduceCtorEq,cU,aj,h1,bD,b6];refine⟨⟨i+1,by omega,rfl,fun j aU=>?_,by assumption⟩,by simp[intOf,Tf];omega⟩;by_cases gv:j<i
     ·exact c9 j gv
     ·have:j=i:=by omega
      subst this;exact gl)
end Go.Proofs.R
end
section
namespace o
theorem V4(m:Model)(i:Nat):si m 2 i=pV m i:=by
 have bP:cD 1 2 i m.vars.length=min m.vars.length i:=by unfold cD;rw[if_pos (by decide),if_neg (by decide)];simp
 have ba:cD 2 2 i m.aJ.length=0:=by unfold cD;rw[if_neg (by decide)]
 have bQ:cD 3 2 i m.procs.length=0:=by unfold cD;rw[if_neg (by decide)]
 have b3:gG 2 i m.props.length=0:=by unfold gG;rw[if_neg (by decide)]
 unfold si;rw[bP,ba,bQ,b3];simp only[pV,CT,xi,List.take_zero,List.map_nil,List.append_nil];rw[Nat.min_comm,←List.take_take];simp only[List.take_length]
theorem V2(m:Model)(i:Nat):si m 3 i=lE m i:=by
 have bP:cD 1 3 i m.vars.length=m.vars.length:=by unfold cD;rw[if_pos (by decide),if_pos (by decide)]
 have ba:cD 2 3 i m.aJ.length=min m.aJ.length i:=by unfold cD;rw[if_pos (by decide),if_neg (by decide)];simp
 have bQ:cD 3 3 i m.procs.length=0:=by unfold cD;rw[if_neg (by decide)]
 have b3:gG 3 i m.props.length=0:=by unfold gG;rw[if_neg (by decide)]
 unfold si;rw[bP,ba,bQ,b3];simp only[lE,pV,CT,xi,xh,List.take_zero,List.map_nil,List.append_nil];rw[Nat.min_comm,←List.take_take];simp only[List.take_length]
theorem V3(m:Model)(i:Nat):si m 4 i=hG m i:=by
 have bP:cD 1 4 i m.vars.length=m.vars.length:=by unfold cD;rw[if_pos (by decide),if_pos (by decide)]
 have ba:cD 2 4 i m.aJ.length=m.aJ.length:=by unfold cD;rw[if_pos (by decide),if_pos (by decide)]
 have bQ:cD 3 4 i m.procs.length=min m.procs.length i:=by unfold cD;rw[if_pos (by decide),if_neg (by decide)];simp
 have b3:gG 4 i m.props.length=0:=by unfold gG;rw[if_neg (by decide)]
 unfold si;rw[bP,ba,bQ,b3];simp only[hG,lE,pV,CT,xi,xh,vb,List.take_zero,List.map_nil,List.append_nil];rw[Nat.min_comm,←List.take_take];simp only[List.take_length]
theorem OO(m:Model)(i:Nat):si m 5 i=pU m i:=by
 have bP:cD 1 5 i m.vars.length=m.vars.length:=by unfold cD;rw[if_pos (by decide),if_pos (by decide)]
 have ba:cD 2 5 i m.aJ.length=m.aJ.length:=by unfold cD;rw[if_pos (by decide),if_pos (by decide)]
 have bQ:cD 3 5 i m.procs.length=m.procs.length:=by unfold cD;rw[if_pos (by decide),if_pos (by decide)]
 have b3:gG 5 i m.props.length=min m.props.length i:=by unfold gG;rw[if_pos (by decide)];simp
 unfold si;rw[bP,ba,bQ,b3];simp only[pU,hG,lE,pV,CT,xi,xh,vb,Kc];rw[Nat.min_comm,←List.take_take];simp only[List.take_length]
theorem tI(q p i:Int)(len:Nat):cD q p i len≤len:=by unfold cD; (repeat' split)<;>omega
end o
namespace Go.Proofs.R
open Go Go.RowKit bt
def ux(f:o.p9):Value:=.agg #[.int .i64 f.dp,.int .i64 f.part,.int .i64 f.item,.int .i64 f.sub]
theorem aeJ(cs:List Value)(m:o.Model)(w:World)(h:o.er w cs m) :
  bu Tryz.prog F.Cy #[.agg cs.toArray] w fun v w'=>v=ux (o.data m)∧Ext w w':=by
 have bg:=h;obtain⟨cy,bO,b9,c1,ch,c2,cm,bN,cA,bT,rfl,aj,h1,U,ag,aK,eG,du,dF,dV,eo⟩:=h.form;refine bM E.Cy ?_;refine bF ?_;refine aa ?_;intro av bC cL aA aq;refine aa ?_;intro aT ca dB aC aM;replace aq:=aC.obj aq;have ba:=aA.trans aC;have fE:=cM aq;have z2:=aA.size;refine aa ?_;refine K.call (aeQ _ m.scalars aT (aj.ext ba)) ?_;rintro _ bf ⟨rfl,aw⟩;replace aq:=aw.obj aq;replace aM:=aw.obj aM;have bQ:=ba.trans aw;clear ba;refine aa ?_;apply K.cond<;>intro g1;rotate_left
 ·have br:=o.Po g1;refine aa ?_;intro bq ee bI;refine aa ?_;exact⟨by rw[br];rfl,ee.ext bQ (by omega)⟩
 have ck:(o.scalars m.scalars).2=0:=by simpa using g1
 have ni:=o.Um ck;have uB:=aq;have wD:=aM;refine aa ?_;refine K.df 5 m.vars.length [1,2] (fun _:Unit=>[]) () (fun k _ w'=>Ext bf w'∧∀j,j<k→o.h6 m j=0) bB bB ⟨Ext.refl _,fun j h=>absurd h (Nat.not_lt_zero _)⟩ ?_;clear aq aM;rintro k _ S bq hk ⟨aR,bU⟩;have aq:=aR.obj uB;have aM:=aR.obj wD;have b3:=bQ.trans aR;refine aa ?_;apply K.cond<;>intro g2
 ·have bh:k<m.vars.length:=by omega
  have hz:=(bz.len h1).2;have IL:=hz.2;unfold maxLen at IL;obtain⟨a,rfl⟩:=h1.addr (by omega);have fb:=o.zs (f:=fun x:o.Var=>x.name) bh;have et:=((h1.at k bh).cells).ext b3;have JI:∀j,j<k→o.mf m j=0:=fun j aU=>o.GF (bU j aU);refine aa ?_;refine K.rY (k:=.i64) (k+1) (by simp[fv,cd]) (by omega) ?_;refine aa ?_;refine K.gn (.tuple #[.int .i64 (o.vars (m.vars.take (k+1)) m.scalars 12).1,.int .i64 (o.vars (m.vars.take (k+1)) m.scalars 12).2]) (fun w' e=>TQ _ _ (m.vars.take (k+1)) m.scalars 12 w' ((h1.head (k+1) (by omega)).ext o.oK.ext (b3.trans e)) (aj.ext (b3.trans e))) ?_;refine aa ?_;intro bS bj;replace aq:=bj.obj aq;replace aM:=bj.obj aM;replace et:=et.ext bj;have cc:=b3.trans bj;rw[o.agw bh JI];refine aa ?_;apply K.cond<;>intro g3;rotate_left
  ·have jD:o.h6 m k=o.mf m k:=by unfold o.h6;rw[if_pos g3]
   have br:=o.EF ck bh bU (by rw[jD];exact g3);rw[jD] at br;refine aa ?_;intro bX fW dr;refine aa ?_;exact⟨by rw[br];rfl,fW.ext cc (by omega)⟩
  have jG:o.mf m k=0:=by simpa using g3
  have ah6:k<12:=by
   apply Classical.byContradiction;intro aI;have h:=jG;unfold o.mf o.err at h;rw[if_pos (by omega)] at h;cases h
  refine aa ?_;intro bX bk;replace aq:=bk.obj aq;replace aM:=bk.obj aM;refine aa ?_;refine K.call (As _ m 2 k bX (bg.ext (cc.trans bk)) (by omega) (by omega) (by
   have dO:o.cD 1 2 k m.vars.length≤k:=by unfold o.cD; (repeat' split)<;>omega
   have dP:o.cD 2 2 k m.aJ.length=0:=by unfold o.cD;rw[if_neg (by decide)]
   have eg:o.cD 3 2 k m.procs.length=0:=by unfold o.cD;rw[if_neg (by decide)]
   have gR:o.gG 2 k m.props.length=0:=by unfold o.gG;rw[if_neg (by decide)]
   omega)) ?_
  rintro _ cn ⟨⟨v,rfl,fI⟩,bR⟩;refine⟨bR,?_⟩;rw[o.V4] at fI;refine aa ?_;refine K.call (Bg v _ m.vars[k].name _ cn fI) ?_;rintro _ mh ⟨rfl,rfl⟩;replace aq:=bR.obj aq;replace aM:=bR.obj aM;have Q0:=bk.trans bR;have dZ:=cc.trans Q0;refine aa ?_;apply K.cond<;>intro g4
  ·have jD:o.h6 m k=7:=by unfold o.h6;rw[if_neg (by simpa using jG),fb,if_pos g4]
   have br:=o.EF ck bh bU (by rw[jD];decide);rw[jD] at br;refine aa ?_;intro dv kG eN;refine aa ?_;exact⟨by rw[br];rfl,kG.ext dZ (by omega)⟩
  ·refine aa ?_;refine⟨bh,bw,(),trivial,(aR.trans bj).trans Q0,fun j aU=>?_⟩;by_cases hC:j=k
   ·subst hC;unfold o.h6;rw[if_neg (by simpa using jG),fb,if_neg g4]
   ·exact bU j (by omega)
 have ky:∀j,j<m.vars.length→o.h6 m j=0:=fun j aU=>bU j (by omega);have ahA:m.vars.length≤12:=by
  apply Classical.byContradiction;intro aI
  have:=o.PT (ky 12 (by omega))
  omega
 clear aq aM;refine aa ?_;refine K.df 8 m.aJ.length [1,2] (fun _:Unit=>[]) () (fun k _ w'=>Ext bf w'∧∀j,j<k→o.jf m j=0) bB bB ⟨aR,fun j h=>absurd h (Nat.not_lt_zero _)⟩ ?_;clear b3;rintro k _ a6 bS hk ⟨bj,bU⟩;have aq:=bj.obj uB;have aM:=bj.obj wD;have b3:=bQ.trans bj;refine aa ?_;apply K.cond<;>intro g2
 ·have bh:k<m.aJ.length:=by omega
  have hz:=(bz.len U).2;have IL:=hz.2;unfold maxLen at IL;obtain⟨a,rfl⟩:=U.addr (by omega);have fb:=o.zs (f:=fun x:o.c5=>x.name) bh;have et:=((U.at k bh).cells).ext b3;have JI:∀j,j<k→o.l1 m j=0:=fun j aU=>o.Ev (bU j aU);refine aa ?_;refine K.rY (k:=.i64) (k+1) (by simp[fv,cd]) (by omega) ?_;refine aa ?_;refine K.gn (.tuple #[.int .i64 (o.aJ (m.aJ.take (k+1)) m.scalars).1,.int .i64 (o.aJ (m.aJ.take (k+1)) m.scalars).2]) (fun w' e=>aeI _ _ (m.aJ.take (k+1)) m.scalars w' ((U.head (k+1) (by omega)).ext o.oJ.ext (b3.trans e)) (aj.ext (b3.trans e))) ?_;refine aa ?_;intro bX bk;replace aq:=bk.obj aq;replace aM:=bk.obj aM;replace et:=et.ext bk;have cc:=b3.trans bk;rw[o.Xr bh JI];refine aa ?_;apply K.cond<;>intro g3;rotate_left
  ·have jD:o.jf m k=o.l1 m k:=by unfold o.jf;rw[if_pos g3]
   have br:=o.ED ck ky bh bU (by rw[jD];exact g3);rw[jD] at br;refine aa ?_;intro bX fW dr;refine aa ?_;exact⟨by rw[br];rfl,fW.ext cc (by omega)⟩
  have jG:o.l1 m k=0:=by simpa using g3
  have ah7:k<4:=by
   apply Classical.byContradiction;intro aI;have h:=jG;unfold o.l1 o.err at h;rw[if_pos (by omega)] at h;cases h
  refine aa ?_;intro cn bR;replace aq:=bR.obj aq;replace aM:=bR.obj aM;refine aa ?_;refine K.call (As _ m 3 k cn (bg.ext (cc.trans bR)) (by omega) (by omega) (by
   have dO:=o.tI 1 3 k m.vars.length;have dP:o.cD 2 3 k m.aJ.length≤k:=by unfold o.cD; (repeat' split)<;>omega
   have eg:o.cD 3 3 k m.procs.length=0:=by unfold o.cD;rw[if_neg (by decide)]
   have gR:o.gG 3 k m.props.length=0:=by unfold o.gG;rw[if_neg (by decide)]
   omega)) ?_
  rintro _ dv ⟨⟨v,rfl,fI⟩,bW⟩;refine⟨bW,?_⟩;rw[o.V2] at fI;refine aa ?_;refine K.call (Bg v _ m.aJ[k].name _ dv fI) ?_;rintro _ mh ⟨rfl,rfl⟩;replace aq:=bW.obj aq;replace aM:=bW.obj aM;have yH:=bR.trans bW;have dZ:=cc.trans yH;refine aa ?_;apply K.cond<;>intro g4
  ·have jD:o.jf m k=7:=by unfold o.jf;rw[if_neg (by simpa using jG),fb,if_pos g4]
   have br:=o.ED ck ky bh bU (by rw[jD];decide);rw[jD] at br;refine aa ?_;intro dv kG eN;refine aa ?_;exact⟨by rw[br];rfl,kG.ext dZ (by omega)⟩
  ·refine aa ?_;refine⟨bh,bw,(),trivial,(bj.trans bk).trans yH,fun j aU=>?_⟩;by_cases hC:j=k
   ·subst hC;unfold o.jf;rw[if_neg (by simpa using jG),fb,if_neg g4]
   ·exact bU j (by omega)
 have br:=o.Pm ck ky fun j aU=>bU j (by omega);refine aa ?_;intro bX fW dr;refine aa ?_;exact⟨by rw[br];rfl,fW.ext b3 (by omega)⟩
end Go.Proofs.R
end
section
namespace o
structure sa(m:Model):Prop where
 v:m.vars.length≤1000000
 c:m.aJ.length≤1000000
 p:m.procs.length≤1000000
 i:∀p∈m.procs,p.vars.length≤1000000∧p.cB.length≤1000000
def c1(m:Model)(k:Nat):Int:=hq ((m.vars.take k).map fun v=>cells v m.scalars)
def c2(m:Model)(k:Nat):Int:=hq ((m.aJ.take k).map oW)
def i1(m:Model)(k:Nat):Int:=hq ((m.procs.take k).map (jJ m))
def i2(m:Model)(k:Nat):Int:=hq ((m.procs.take k).map fun p=>jJ m p*p.cB.length)
def i3(m:Model)(k:Nat):Int:=hq ((m.procs.take k).map fun p=>jJ m p*(1+p.vars.length))
theorem S1{α:Type}{l:List α}{k:Nat}{x:α}(h:x∈l.take k):x∈l:=List.mem_of_mem_take h
theorem yg{m:Model}(h:sa m)(k:Nat):0≤c1 m k∧c1 m k≤4000000:=by
 have:=Dp (fun v=>cells v m.scalars) 4 (by decide) (m.vars.take k) fun v _=>sm v _
 have h1:=h.v;have U:(m.vars.take k).length≤m.vars.length:=by simp;omega
 unfold c1;omega
theorem Ep{m:Model}(h:sa m)(k:Nat):0≤c2 m k∧c2 m k≤5000000:=by
 have:=Dp oW 5 (by decide) (m.aJ.take k) fun c _=>by have:=Hy c;omega
 have h1:=h.c;have U:(m.aJ.take k).length≤m.aJ.length:=by simp;omega
 unfold c2;omega
theorem R0{m:Model}(h:sa m)(k:Nat):0≤i1 m k∧i1 m k≤4000000:=by
 have:=Dp (jJ m) 4 (by decide) (m.procs.take k) fun p _=>CX m p
 have h1:=h.p;have U:(m.procs.take k).length≤m.procs.length:=by simp;omega
 unfold i1;omega
theorem zr{a b:Int}(bp:0≤a∧a≤4)(aD:0≤b∧b≤1000001):0≤a*b∧a*b≤4000004:=by
 have:a=0∨a=1∨a=2∨a=3∨a=4:=by omega
 rcases this with rfl | rfl | rfl | rfl | rfl<;>omega
theorem R2{m:Model}(h:sa m)(k:Nat):0≤i2 m k∧i2 m k≤4000004000000:=by
 have:=Dp (fun p=>jJ m p*p.cB.length) 4000004 (by decide) (m.procs.take k) fun p aO=>zr (CX m p) (by have:=(h.i p (S1 aO)).2;omega)
 have h1:=h.p;have U:(m.procs.take k).length≤m.procs.length:=by simp;omega
 unfold i2;omega
theorem R4{m:Model}(h:sa m)(k:Nat):0≤i3 m k∧i3 m k≤4000004000000:=by
 have:=Dp (fun p=>jJ m p*(1+p.vars.length)) 4000004 (by decide) (m.procs.take k) fun p aO=>zr (CX m p) (by have:=(h.i p (S1 aO)).1;omega)
 have h1:=h.p;have U:(m.procs.take k).length≤m.procs.length:=by simp;omega
 unfold i3;omega
theorem O0{m:Model}{k:Nat}(h:k<m.vars.length):c1 m (k+1)=c1 m k+cells m.vars[k] m.scalars:=Dq _ _ h
theorem O1{m:Model}{k:Nat}(h:k<m.aJ.length):c2 m (k+1)=c2 m k+oW m.aJ[k]:=Dq _ _ h
theorem R1{m:Model}{k:Nat}(h:k<m.procs.length):i1 m (k+1)=i1 m k+jJ m m.procs[k]:=Dq _ _ h
theorem R3{m:Model}{k:Nat}(h:k<m.procs.length):i2 m (k+1)=i2 m k+jJ m m.procs[k]*m.procs[k].cB.length:=Dq _ _ h
theorem R5{m:Model}{k:Nat}(h:k<m.procs.length):i3 m (k+1)=i3 m k+jJ m m.procs[k]*(1+m.procs[k].vars.length):=Dq _ _ h
theorem Tr(m:Model){a b c:Nat}(bp:m.vars.length≤a)(aD:m.aJ.length≤b)(ax:m.procs.length≤c):pieces m=(i1 m c,i2 m c,c1 m a+c2 m b+i3 m c):=by
 unfold pieces i1 i2 i3 c1 c2;rw[List.take_of_length_le bp,List.take_of_length_le aD,List.take_of_length_le ax]
end o
namespace Go.Proofs.R
open Go Go.RowKit bt
theorem adZ(cs:List Value)(m:o.Model)(w:World)(h:o.er w cs m)(aN:o.sa m) :
  bu Tryz.prog F.cs #[.agg cs.toArray] w fun v w'=>v = .tuple #[.int .i64 (o.pieces m).1,.int .i64 (o.pieces m).2.1,.int .i64 (o.pieces m).2.2]∧Ext w w':=by
 obtain⟨cy,bO,b9,c1,ch,c2,cm,bN,cA,bT,rfl,aj,h1,U,ag,aK,eG,du,dF,dV,eo⟩:=h.form;refine bM E.cs ?_;refine bF ?_;refine aa ?_;intro av bC cL aA aq;have rA:=aq;clear aq;refine aa ?_;refine K.df 18 m.vars.length [1,5,6,16,17] (fun s:Int=>[(7,.int .i64 s)]) 0 (fun k s w'=>Ext av w'∧s=o.c1 m k) bB bB ⟨Ext.refl _,by simp[o.c1,o.hq]⟩ ?_;rintro k _ S aT hk ⟨aC,rfl⟩;have aq:=aC.obj rA;have cR:∀{w'},Ext aT w'→Ext w w':=fun e=>(aA.trans aC).trans e;refine aa ?_;apply K.cond<;>intro g1
 ·have bh:k<m.vars.length:=by omega
  obtain⟨a,rfl⟩:=h1.addr (by omega);have et:=((h1.at k bh).cells).ext (cR (Ext.refl _));refine aa ?_;intro bf b5 fU aw bK;replace aq:=aw.obj aq;refine aa ?_;refine K.call (Eu m.vars[k] _ m.scalars bf (aj.ext (cR aw))) ?_;rintro _ bq ⟨rfl,aR⟩;have dO:=o.yg aN k;have dP:=o.sm m.vars[k] m.scalars;refine aa ?_;exact⟨bh,bw,_,bB,(aC.trans aw).trans aR,(o.O0 bh).symm⟩
 have kZ:m.vars.length≤k:=by omega
 refine aa ?_;refine K.df 32 m.aJ.length [1,5,6,30,31] (fun s:Int=>[(7,.int .i64 s)]) (o.c1 m k) (fun j s w'=>Ext av w'∧s=o.c1 m k+o.c2 m j) bB bB ⟨aC,by simp[o.c2,o.hq]⟩ ?_;clear aq cR;rintro j _ a6 bf aU ⟨aw,rfl⟩;have aq:=aw.obj rA;have fF:∀{w'},Ext bf w'→Ext w w':=fun e=>(aA.trans aw).trans e;refine aa ?_;apply K.cond<;>intro g2
 ·have ef:j<m.aJ.length:=by omega
  obtain⟨a,rfl⟩:=U.addr (by omega);have et:=((U.at j ef).cells).ext (fF (Ext.refl _));refine aa ?_;intro bq b5 fU aR bK;have dO:=o.yg aN k;have dP:=o.Ep aN j;have eg:=o.Hy m.aJ[j];unfold o.oW at eg;refine aa ?_;exact⟨ef,bw,_,bB,aw.trans aR,by rw[o.O1 ef];unfold o.oW;omega⟩
 have Jc:m.aJ.length≤j:=by omega
 refine aa ?_;refine K.df 47 m.procs.length [1,45,46] (fun s:Int×Int×Int=>[(5,.int .i64 s.1),(6,.int .i64 s.2.1),(7,.int .i64 s.2.2)]) (0,0,o.c1 m k+o.c2 m j)
  (fun i s w'=>Ext av w'∧s=(o.i1 m i,o.i2 m i,o.c1 m k+o.c2 m j+o.i3 m i)) bB bB ⟨aw,by simp[o.i1,o.i2,o.i3,o.hq]⟩ ?_
 clear aq fF;rintro i _ fk bq ad ⟨aR,rfl⟩;have aq:=aR.obj rA;have ed:∀{w'},Ext bq w'→Ext w w':=fun e=>(aA.trans aR).trans e;refine aa ?_;apply K.cond<;>intro g3
 ·have cP:i<m.procs.length:=by omega
  obtain⟨a,rfl⟩:=ag.addr (by omega);obtain⟨_,ct,dM,aO,eJ,ej⟩:=ag.at i cP;obtain⟨e1,fu,rfl,fQ⟩:=eJ.form;obtain⟨om,j0,rfl,lc⟩:=ej.form;replace aO:=aO.ext (ed (Ext.refl _));have aal:=aN.i _ (List.getElem_mem cP);refine aa ?_;intro bS b5 fU bj bK;replace aq:=bj.obj aq;refine aa ?_;refine K.call (Eu ⟨⟨#[]⟩,0,m.procs[i].over,0,0,0⟩ _ m.scalars bS (aj.ext (ed bj))) ?_;rintro _ bX ⟨rfl,bk⟩;have aaW:o.cells ⟨⟨#[]⟩,0,m.procs[i].over,0,0,0⟩ m.scalars=o.jJ m m.procs[i]:=rfl;rw[aaW];replace bK:=bk.obj bK;have dO:=o.yg aN k;have dP:=o.Ep aN j;have eg:=o.R0 aN i;have gR:=o.R2 aN i;have pf:=o.R4 aN i;have rV:=o.CX m m.procs[i];have KA:=o.zr rV (b:=m.procs[i].cB.length) (by omega);have C2:=o.zr rV (b:=1+m.procs[i].vars.length) (by omega);refine aa ?_;exact⟨cP,bw,(_,_,_),(by first | exact⟨rfl,rfl,rfl,trivial⟩ | exact⟨rfl,rfl,trivial⟩ | (simp -dsimp only[cJ,tE,tD,td,tc,sK,sJ,Nat.reduceAdd,Nat.reduceEqDiff,reduceIte,and_self];exact⟨rfl,rfl,rfl,trivial⟩) | (simp -dsimp only[cJ,tE,tD,td,tc,sK,sJ,Nat.reduceAdd,Nat.reduceEqDiff,reduceIte,and_self];exact⟨rfl,rfl,trivial⟩)),(aR.trans bj).trans bk,by rw[o.R1 cP,o.R3 cP,o.R5 cP];exact Prod.ext rfl (Prod.ext rfl (Int.add_assoc _ _ _))⟩
 have sS:m.procs.length≤i:=by omega
 refine aa ?_;exact⟨by rw[o.Tr m kZ Jc sS],ed (Ext.refl _)⟩
theorem abO(cs:List Value)(m:o.Model)(p:o.dj)(ct dM:Value)(w:World)(h:o.er w cs m) :
  bu Tryz.prog F.Cv #[.agg cs.toArray,.agg (p.enc ct dM).toArray] w fun v w'=>v = .int .i64 (o.jJ m p)∧Ext w w':=by
 obtain⟨cy,bO,b9,c1,ch,c2,cm,bN,cA,bT,rfl,aj,_⟩:=h.form;refine bM E.Cv ?_;refine bF ?_;refine aa ?_;intro av bC cL aA aq;refine aa ?_;intro aT ca dB aC aM;refine aa ?_;refine K.cond (fun g=>?_) (fun g=>?_)
 ·refine aa ?_;exact⟨by rw[o.jJ,if_pos g],aA.trans aC⟩
 refine aa ?_;refine K.call (zy p.over _ m.scalars aT (aj.ext (aA.trans aC))) ?_;rintro _ _ ⟨rfl,rfl⟩;refine aa ?_;exact⟨by rw[o.jJ,if_neg g],aA.trans aC⟩
theorem aeN(cs:List Value)(m:o.Model)(w:World)(h:o.er w cs m)(aN:o.sa m) :
  bu Tryz.prog F.Cx #[.agg cs.toArray] w fun v w'=>v = .tuple #[.int .i64 (o.pieces m).1,.int .i64 (o.pieces m).2.1,.int .i64 (o.pieces m).2.2]∧Ext w w':=by
 have bg:=h;obtain⟨cy,bO,b9,c1,ch,c2,cm,bN,cA,bT,rfl,aj,h1,U,ag,aK,eG,du,dF,dV,eo⟩:=h.form;refine bM E.Cx ?_;refine bF ?_;refine aa ?_;intro av bC cL aA aq;have rA:=aq;clear aq;refine aa ?_;refine K.df 8 m.vars.length [1,5,6] (fun s:Int=>[(7,.int .i64 s)]) 0 (fun k s w'=>Ext av w'∧s=o.c1 m k) bB bB ⟨Ext.refl _,by simp[o.c1,o.hq]⟩ ?_;rintro k _ S aT hk ⟨aC,rfl⟩;have aq:=aC.obj rA;have cR:∀{w'},Ext aT w'→Ext w w':=fun e=>(aA.trans aC).trans e;refine aa ?_;apply K.cond<;>intro g1
 ·have bh:k<m.vars.length:=by omega
  obtain⟨a,rfl⟩:=h1.addr (by omega);have et:=((h1.at k bh).cells).ext (cR (Ext.refl _));have dO:=o.yg aN k;have dP:=o.sm m.vars[k] m.scalars;refine aa ?_;refine K.gn (.int .i64 (o.cells m.vars[k] m.scalars)) (fun w' e=>KM m.vars[k] _ m.scalars w' (aj.ext (cR e))) ?_;refine aa ?_;intro bq aR;refine aa ?_;exact⟨bh,bw,_,bB,aC.trans aR,(o.O0 bh).symm⟩
 have kZ:m.vars.length≤k:=by omega
 refine aa ?_;refine K.df 9 m.aJ.length [1,5,6] (fun s:Int=>[(7,.int .i64 s)]) (o.c1 m k) (fun j s w'=>Ext av w'∧s=o.c1 m k+o.c2 m j) bB bB ⟨aC,by simp[o.c2,o.hq]⟩ ?_;clear aq cR;rintro j _ a6 bf aU ⟨aw,rfl⟩;have aq:=aw.obj rA;have fF:∀{w'},Ext bf w'→Ext w w':=fun e=>(aA.trans aw).trans e;refine aa ?_;apply K.cond<;>intro g2
 ·have ef:j<m.aJ.length:=by omega
  obtain⟨a,rfl⟩:=U.addr (by omega);have et:=((U.at j ef).cells).ext (fF (Ext.refl _));have dO:=o.yg aN k;have dP:=o.Ep aN j;have eg:=o.Hy m.aJ[j];unfold o.oW at eg;refine aa ?_;exact⟨ef,bw,_,bB,aw,by rw[o.O1 ef];unfold o.oW;omega⟩
 have Jc:m.aJ.length≤j:=by omega
 refine aa ?_;refine K.df 10 m.procs.length [1] (fun s:Int×Int×Int=>[(5,.int .i64 s.1),(6,.int .i64 s.2.1),(7,.int .i64 s.2.2)]) (0,0,o.c1 m k+o.c2 m j)
  (fun i s w'=>Ext av w'∧s=(o.i1 m i,o.i2 m i,o.c1 m k+o.c2 m j+o.i3 m i)) bB bB ⟨aw,by simp[o.i1,o.i2,o.i3,o.hq]⟩ ?_
 clear aq fF;rintro i _ fk bq ad ⟨aR,rfl⟩;have aq:=aR.obj rA;have ed:∀{w'},Ext bq w'→Ext w w':=fun e=>(aA.trans aR).trans e;refine aa ?_;apply K.cond<;>intro g3
 ·have cP:i<m.procs.length:=by omega
  obtain⟨a,rfl⟩:=ag.addr (by omega);obtain⟨_,ct,dM,aO,eJ,ej⟩:=ag.at i cP;obtain⟨e1,fu,rfl,fQ⟩:=eJ.form;obtain⟨om,j0,rfl,lc⟩:=ej.form;replace aO:=aO.ext (ed (Ext.refl _));have aal:=aN.i _ (List.getElem_mem cP);refine aa ?_;refine K.gn (.int .i64 (o.jJ m m.procs[i])) (fun w' e=>abO _ m m.procs[i] _ _ w' (bg.ext (ed e))) ?_;refine aa ?_;intro bX bk;replace aq:=bk.obj aq;replace aO:=aO.ext bk;have dO:=o.yg aN k;have dP:=o.Ep aN j;have eg:=o.R0 aN i;have gR:=o.R2 aN i;have pf:=o.R4 aN i;have rV:=o.CX m m.procs[i];have KA:=o.zr rV (b:=m.procs[i].cB.length) (by omega);have C2:=o.zr rV (b:=1+m.procs[i].vars.length) (by omega);refine aa ?_;exact⟨cP,bw,(_,_,_),(by first | exact⟨rfl,rfl,rfl,trivial⟩ | exact⟨rfl,rfl,trivial⟩ | (simp -dsimp only[cJ,tE,tD,td,tc,sK,sJ,Nat.reduceAdd,Nat.reduceEqDiff,reduceIte,and_self];exact⟨rfl,rfl,rfl,trivial⟩) | (simp -dsimp only[cJ,tE,tD,td,tc,sK,sJ,Nat.reduceAdd,Nat.reduceEqDiff,reduceIte,and_self];exact⟨rfl,rfl,trivial⟩)),aR.trans bk,by rw[o.R1 cP,o.R3 cP,o.R5 cP];exact Prod.ext rfl (Prod.ext rfl (Int.add_assoc _ _ _))⟩
 have sS:m.procs.length≤i:=by omega
 refine aa ?_;exact⟨by rw[o.Tr m kZ Jc sS],ed (Ext.refl _)⟩
end Go.Proofs.R
end
section
namespace o
structure Vt(m:Model):Prop where
 s:m.scalars.length≤10
 v:m.vars.length≤30
 c:m.aJ.length≤20
 p:m.procs.length≤20
 q:m.props.length≤20
 i:∀p∈m.procs,p.vars.length≤20∧p.cB.length≤30∧∀c∈p.cB,c.b4.length≤20∧c.guard.length≤60
end o
namespace Go.Proofs.R
open Go Go.RowKit bt
theorem aai(cs:List Value)(m:o.Model)(w:World)(h:o.er w cs m) :
  bu Tryz.prog F.CP #[.agg cs.toArray] w fun v w'=>(v = .int .i64 1∨v = .int .i64 0∧o.Vt m)∧Ext w w':=by
 obtain⟨cy,bO,b9,c1,ch,c2,cm,bN,cA,bT,rfl,aj,h1,U,ag,aK,eG,du,dF,dV,eo⟩:=h.form;refine bM E.CP ?_;refine bF ?_;refine aa ?_;intro av bC cL aA aq;refine aa ?_;apply K.cond<;>intro g0
 ·refine aa ?_;exact⟨.inl (bw),aA⟩
 refine aa ?_;apply K.cond<;>intro g1
 ·refine aa ?_;exact⟨.inl (bw),aA⟩
 refine aa ?_;apply K.cond<;>intro g2
 ·refine aa ?_;exact⟨.inl (bw),aA⟩
 refine aa ?_;apply K.cond<;>intro g3
 ·refine aa ?_;exact⟨.inl (bw),aA⟩
 refine aa ?_;apply K.cond<;>intro g4
 ·refine aa ?_;exact⟨.inl (bw),aA⟩
 refine aa ?_;refine K.df 3 m.procs.length [1] (fun _=>[]) () (fun k _ w'=>Ext av w'∧∀p∈m.procs.take k,p.vars.length≤20∧p.cB.length≤30∧∀c∈p.cB,c.b4.length≤20∧c.guard.length≤60) bB bB ⟨Ext.refl _,by simp⟩ ?_;rintro k _ S aT hk ⟨aC,c9⟩;refine aa ?_;apply K.cond<;>intro g5
 ·have bh:k<m.procs.length:=by omega
  obtain⟨a,rfl⟩:=ag.addr (by omega);obtain⟨_,ct,dM,aO,eJ,ej⟩:=ag.at k bh;obtain⟨e1,fu,rfl,fQ⟩:=eJ.form;obtain⟨om,j0,rfl,lc⟩:=ej.form;refine aa ?_;intro bf b5 fU aw bK;refine aa ?_;apply K.cond<;>intro g6
  ·refine aa ?_;exact⟨.inl (bw),(aA.trans aC).trans aw⟩
  refine aa ?_;apply K.cond<;>intro g7
  ·refine aa ?_;exact⟨.inl (bw),(aA.trans aC).trans aw⟩
  refine aa ?_;refine K.df 5 m.procs[k].cB.length [1,3,4] (fun _=>[]) () (fun j _ w'=>Ext bf w'∧∀c∈m.procs[k].cB.take j,c.b4.length≤20∧c.guard.length≤60) bB bB ⟨Ext.refl _,by simp⟩ ?_;rintro j _ S bq aU ⟨aR,wz⟩;refine aa ?_;apply K.cond<;>intro g8
  ·have ef:j<m.procs[k].cB.length:=by omega
   obtain⟨a2,rfl⟩:=ej.addr (by omega);obtain⟨_,fD,eD,gr,rI,qJ⟩:=ej.at j ef;obtain⟨oo,kU,rfl,SN⟩:=rI.form;obtain⟨bl,iz,rfl,oi⟩:=qJ.form;refine aa ?_;apply K.cond<;>intro g9
   ·refine aa ?_;exact⟨.inl (bw),((aA.trans aC).trans aw).trans aR⟩
   refine aa ?_;apply K.cond<;>intro g10
   ·refine aa ?_;exact⟨.inl (bw),((aA.trans aC).trans aw).trans aR⟩
   refine aa ?_;refine⟨ef,bw,(),trivial,aR,fun c ax=>?_⟩;rw[List.take_succ_eq_append_getElem ef] at ax;rcases List.mem_append.1 ax with ax | ax
   ·exact wz c ax
   ·rw[List.mem_singleton] at ax;subst ax;exact⟨by omega,by omega⟩
  ·rw[List.take_of_length_le (by omega)] at wz;refine aa ?_;refine⟨bh,bw,(),trivial,(aC.trans aw).trans aR,fun p aO=>?_⟩;rw[List.take_succ_eq_append_getElem bh] at aO;rcases List.mem_append.1 aO with aO | aO
   ·exact c9 p aO
   ·rw[List.mem_singleton] at aO;subst aO;exact⟨by omega,by omega,wz⟩
 ·rw[List.take_of_length_le (by omega)] at c9;refine aa ?_;exact⟨.inr ⟨bw,by omega,by omega,by omega,by omega,by omega,c9⟩,aA.trans aC⟩
end Go.Proofs.R
end