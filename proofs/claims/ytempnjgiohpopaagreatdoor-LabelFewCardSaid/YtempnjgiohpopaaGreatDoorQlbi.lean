/- Texts joined: DeclD DeclA DeclR DeclS DeclU DeclV DeclW ModI ModB ModC ProcC ProcD. -/
import Derived.Test.YtempnjgiohpopaaGreatDoorQlbd
import Derived.Test.YtempnjgiohpopaaGreatDoorQlbe
import Derived.Test.YtempnjgiohpopaaGreatDoorQlbg
import Derived.Test.YtempnjgiohpopaaGreatDoorQlbh
set_option linter.all false
set_option maxRecDepth 100000
set_option maxHeartbeats 16000000
section
set_option linter.unusedSimpArgs false
namespace Go.Proofs.R
open Go Go.RowKit bn
theorem o9{α:Type}(f:α→ByteArray)(l:List α)(i:Nat)(h:i<l.length):o.nameAt f l i=f l[i]:=by simp[o.nameAt,h]
theorem ads(i:Nat)(b:Nat)(v:Value)(l:List o.Scalar)(w:World)(aN:o.gW w v l)(aA:w.cell? ⟨b,0,none⟩=some v)(ad:i<l.length) :
  bw Tryz.prog F.fI #[.int .i64 i,.pointer (some ⟨b,0,none⟩)] w fun v w'=>v = .string (o.nameAt (·.name) l i)∧Ext w w':=by
 obtain⟨bf,cap,rfl,hlen⟩:=aN.form;refine bO E.fI ?_;refine bH ?_;refine aQ ?_;refine K.ld aA ?_;refine aQ ?_;obtain⟨a,rfl⟩:=aN.addr (by omega);have ay:=(aN.at i ad).cells 0 _ rfl;refine K.du i rfl ad ?_;refine aQ ?_;refine K.ld ay ?_;refine aQ ?_;rw[o9 _ _ _ ad];exact⟨rfl,Ext.refl w⟩
theorem adt(i:Nat)(b:Nat)(v:Value)(l:List o.Scalar)(w:World)(aN:o.gW w v l)(aA:w.cell? ⟨b,0,none⟩=some v)(ad:i<l.length) :
  bw Tryz.prog F.wO #[.int .i64 i,.pointer (some ⟨b,0,none⟩)] w fun v w'=>v = .int .i64 (o.q2 l i)∧Ext w w':=by
 obtain⟨bf,cap,rfl,hlen⟩:=aN.form;refine bO E.wO ?_;refine bH ?_;refine aQ ?_;refine K.ld aA ?_;refine aQ ?_;obtain⟨a,rfl⟩:=aN.addr (by omega);have ay:=(aN.at i ad).cells 1 _ rfl;have ba:o.q2 l i=if 1≤l[i].size∧l[i].size≤4 then 0 else 10:=by simp[o.q2,ad]
 rw[ba];generalize l[i].size=z at ay;refine K.du i rfl ad ?_;refine aQ ?_;refine K.ld ay ?_;refine aQ ?_;refine K.cond (fun h1=>?_) (fun h1=>?_)
 ·refine aQ ?_;rw[if_neg (by omega)];exact⟨rfl,Ext.refl w⟩
 refine aQ ?_;refine K.ld aA ?_;refine aQ ?_;refine K.du i rfl ad ?_;refine aQ ?_;refine K.ld ay ?_;refine aQ ?_;refine K.cond (fun h1=>?_) (fun h1=>?_)
 ·refine aQ ?_;rw[if_neg (by omega)];exact⟨rfl,Ext.refl w⟩
 ·refine aQ ?_;rw[if_pos (by omega)];exact⟨rfl,Ext.refl w⟩
theorem adu(v:Value)(l:List o.Scalar)(w:World)(a1:gf w)(aN:o.gW w v l) :
  bw Tryz.prog F.uO #[v] w fun v w'=>v = .tuple #[.int .i64 (o.scalars l).1,.int .i64 (o.scalars l).2]∧Ext w w':=by
 obtain⟨bf,cap,rfl,hlen⟩:=aN.form;refine bO E.uO ?_;refine bH ?_;refine aQ ?_;refine K.new fun ar b aA aE al=>?_;have oj:=bE.ext o.h8.ext aE aN;have cN:ar.cell? ⟨b,0,none⟩=some (.slice bf l.length cap):=w5 al rfl;refine aQ ?_;refine K.ld cN ?_;refine aQ ?_;refine K.call (IN l.length 2 (by omega) (o.nameAt (·.name) l) (o.q2 l) F.fI F.wO [_] [_] (by kernel_rfl) (by kernel_rfl) ar (a1.ext aE)
  (fun i ad=>by rw[o9 _ _ _ (by omega)];obtain⟨a,rfl⟩:=aN.addr (by omega);exact(aN.at i (by omega)).ok)
  (fun i w' ad he=>ads i b _ l w' (bE.ext o.h8.ext he oj) (he.cell cN) (by omega))
  (fun i w' ad he=>adt i b _ l w' (bE.ext o.h8.ext he oj) (he.cell cN) (by omega))) ?_
 rintro _ aW ⟨rfl,aF⟩;refine aQ ?_;exact⟨rfl,aE.trans aF⟩
theorem F3(x:o.Var)(v:Value)(l:List o.Scalar)(w:World)(aN:o.gW w v l) :
  bw Tryz.prog F.mr #[.agg x.enc.toArray,v] w fun v w'=>v = .tuple #[.int .i64 (o.bounds x l).1,.int .i64 (o.bounds x l).2]∧Ext w w':=by
 obtain⟨bf,cap,rfl,hlen⟩:=aN.form;refine bO E.mr ?_;refine bH ?_;refine aQ ?_;refine K.new fun ar b aA aE al=>?_;have c1:ar.cell? (Addr.add ⟨b,0,none⟩ 1)=some (.int .i64 x.scalar):=eZ al rfl;have bN:ar.cell? (Addr.add ⟨b,0,none⟩ 3)=some (.int .i64 x.bk):=eZ al rfl;have bX:ar.cell? (Addr.add ⟨b,0,none⟩ 4)=some (.int .i64 x.ad):=eZ al rfl;refine aQ ?_;refine K.ld c1 ?_;refine aQ ?_;refine K.cond (fun h1=>?_) (fun h1=>?_)
 ·refine aQ ?_;refine K.ld bN ?_;refine aQ ?_;refine K.ld bX ?_;refine aQ ?_;intro aW aF;simp only[o.bounds,h1,if_true];exact⟨trivial,aE.trans aF⟩
 ·refine aQ ?_;refine K.ld c1 ?_;refine aQ ?_;refine K.call (Jx x.scalar _ l ar (bE.ext o.h8.ext aE aN)) ?_;rintro _ _ ⟨rfl,rfl⟩;refine aQ ?_;simp only[o.bounds,h1,if_false];exact⟨trivial,aE⟩
theorem CV(x:o.Var)(v:Value)(l:List o.Scalar)(w:World)(aN:o.gW w v l) :
  bw Tryz.prog F.t #[.agg x.enc.toArray,v] w fun v w'=>v = .int .i64 (o.cells x l)∧Ext w w':=by
 obtain⟨bf,cap,rfl,hlen⟩:=aN.form;refine bO E.t ?_;refine bH ?_;refine aQ ?_;refine K.new fun ar b aA aE al=>?_;have c2:ar.cell? (Addr.add ⟨b,0,none⟩ 2)=some (.int .i64 x.over):=eZ al rfl;refine aQ ?_;refine K.ld c2 ?_;refine aQ ?_;refine K.cond (fun h1=>?_) (fun h1=>?_)
 ·refine aQ ?_;simp only[o.cells,h1,if_true];exact⟨trivial,aE⟩
 ·refine aQ ?_;refine K.ld c2 ?_;refine aQ ?_;refine K.call (Jx x.over _ l ar (bE.ext o.h8.ext aE aN)) ?_;rintro _ _ ⟨rfl,rfl⟩;refine aQ ?_;simp only[o.cells,h1,if_false];exact⟨trivial,aE⟩
theorem aeG(i:Nat)(b:Nat)(v:Value)(l:List o.Var)(w:World)(aN:o.gL w v l)(aA:w.cell? ⟨b,0,none⟩=some v)(ad:i<l.length) :
  bw Tryz.prog F.wP #[.int .i64 i,.pointer (some ⟨b,0,none⟩)] w fun v w'=>v = .string (o.nameAt (·.name) l i)∧Ext w w':=by
 obtain⟨bf,cap,rfl,hlen⟩:=aN.form;refine bO E.wP ?_;refine bH ?_;refine aQ ?_;refine K.ld aA ?_;refine aQ ?_;obtain⟨a,rfl⟩:=aN.addr (by omega);have ay:=(aN.at i ad).cells 0 _ rfl;refine K.du i rfl ad ?_;refine aQ ?_;refine K.ld ay ?_;refine aQ ?_;rw[o9 _ _ _ ad];exact⟨rfl,Ext.refl w⟩
theorem aeH(i:Nat)(b ch:Nat)(v v2:Value)(l:List o.Var)(s:List o.Scalar)(w:World)(aN:o.gL w v l)(aw:o.gW w v2 s)(aA:w.cell? ⟨b,0,none⟩=some v)(en:w.cell? ⟨ch,0,none⟩=some v2)
  (ad:i<l.length):bw Tryz.prog F.be #[.int .i64 i,.pointer (some ⟨b,0,none⟩),.pointer (some ⟨ch,0,none⟩)] w fun v w'=>v = .int .i64 (o.mT l s i)∧Ext w w':=by
 obtain⟨bf,cap,rfl,hlen⟩:=aN.form;obtain⟨tU,zd,rfl,HI⟩:=aw.form;refine bO E.be ?_;refine bH ?_;refine aQ ?_;refine K.ld aA ?_;refine aQ ?_;obtain⟨a,rfl⟩:=aN.addr (by omega);have ay:=(aN.at i ad).cells;have ba:o.mT l s i=if o.there l[i].scalar s=false∨o.there l[i].over s=false then 8
  else if (l[i].scalar=0∧o.narrow l[i].bk l[i].ad=false)∨l[i].init<(o.bounds l[i] s).1∨l[i].init > (o.bounds l[i] s).2 then 10 else 0:=by simp[o.mT,ad]
 rw[ba];clear ba;generalize l[i]=x at ay;refine K.du i rfl ad ?_;refine aQ ?_;refine K.jd ay rfl ?_;refine aQ ?_;refine K.new fun ar q aJ aE al=>?_;refine aQ ?_;refine K.jh al rfl rfl (by simp[o.Var.enc,Value.oneCell']) fun aW hw aO=>?_;have aF:Ext w aW:=hw.ext aE aJ;clear hw al aE ar;have c1:aW.cell? (Addr.add ⟨q,0,none⟩ 1)=some (.int .i64 x.scalar):=eZ aO rfl;have c2:aW.cell? (Addr.add ⟨q,0,none⟩ 2)=some (.int .i64 x.over):=eZ aO rfl;have n0:aW.cell? (Addr.add ⟨q,0,none⟩ 5)=some (.int .i64 x.init):=eZ aO rfl;have d2:=aF.cell en;have jt:=bE.ext o.h8.ext aF aw;refine aQ ?_;refine K.ld c1 ?_;refine aQ ?_;refine K.ld d2 ?_;refine aQ ?_;refine K.call (JL x.scalar _ s aW jt) ?_;rintro _ _ ⟨rfl,rfl⟩;refine aQ ?_;refine K.c3 (fun h1=>?_) (fun h1=>?_);rotate_left
 ·refine aQ ?_;simp only[h1,true_or,if_true];exact⟨trivial,aF⟩
 refine aQ ?_;refine K.ld c2 ?_;refine aQ ?_;refine K.ld d2 ?_;refine aQ ?_;refine K.call (JL x.over _ s _ jt) ?_;rintro _ _ ⟨rfl,rfl⟩;refine aQ ?_;refine K.c3 (fun U=>?_) (fun U=>?_);rotate_left
 ·refine aQ ?_;simp only[U,or_true,if_true];exact⟨trivial,aF⟩
 refine aQ ?_;refine K.jd (gM aO) rfl ?_;refine aQ ?_;refine K.ld d2 ?_;refine aQ ?_;refine K.call (F3 x _ s _ jt) ?_;rintro _ bh ⟨rfl,av⟩;rename_i aho;have bS:=av.cell c1;have cf:=av.cell n0;have he:=aF.trans av;refine aQ ?_;refine K.ld bS ?_;have eT:¬(o.there x.scalar s=false∨o.there x.over s=false):=by simp[h1,U]
 refine aQ ?_;refine K.cond (fun ai=>?_) (fun ai=>?_)
 ·refine aQ ?_;have XE:o.bounds x s=(x.bk,x.ad):=by simp[o.bounds,ai]
  rw[XE];refine K.call (Rh x.bk x.ad bh) ?_;rintro _ _ ⟨rfl,rfl⟩;refine aQ ?_;refine K.c3 (fun aL=>?_) (fun aL=>?_);rotate_left
  ·refine aQ ?_;rw[if_neg eT,if_pos (.inl ⟨ai,aL⟩)];exact⟨rfl,he⟩
  refine aQ ?_;refine K.ld cf ?_;refine aQ ?_;refine K.cond (fun bt=>?_) (fun bt=>?_)
  ·refine aQ ?_;rw[if_neg eT,if_pos (.inr (.inl bt))];exact⟨rfl,he⟩
  refine aQ ?_;refine K.ld cf ?_;refine aQ ?_;refine K.cond (fun bM=>?_) (fun bM=>?_)
  ·refine aQ ?_;rw[if_neg eT,if_pos (.inr (.inr bM))];exact⟨rfl,he⟩
  ·refine aQ ?_;rw[if_neg eT,if_neg (by rw[aL];simp;omega)];exact⟨rfl,he⟩
 ·refine aQ ?_;refine K.ld cf ?_;refine aQ ?_;refine K.cond (fun bt=>?_) (fun bt=>?_)
  ·refine aQ ?_;rw[if_neg eT,if_pos (.inr (.inl bt))];exact⟨rfl,he⟩
  refine aQ ?_;refine K.ld cf ?_;refine aQ ?_;refine K.cond (fun bM=>?_) (fun bM=>?_)
  ·refine aQ ?_;rw[if_neg eT,if_pos (.inr (.inr bM))];exact⟨rfl,he⟩
  ·refine aQ ?_;rw[if_neg eT,if_neg (by simp[ai];omega)];exact⟨rfl,he⟩
theorem S1(v v2:Value)(l:List o.Var)(s:List o.Scalar)(eV:Int)(w:World)(a1:gf w)(aN:o.gL w v l)(aw:o.gW w v2 s) :
  bw Tryz.prog F.ll #[v,v2,.int .i64 eV] w fun v w'=>v = .tuple #[.int .i64 (o.vars l s eV).1,.int .i64 (o.vars l s eV).2]∧Ext w w':=by
 obtain⟨bf,cap,rfl,hlen⟩:=aN.form;obtain⟨tU,zd,rfl,HI⟩:=aw.form;refine bO E.ll ?_;refine bH ?_;refine aQ ?_;refine K.new fun ar b aA aE al=>?_;refine aQ ?_;refine K.new fun aW ch en aF aO=>?_;have he:=aE.trans aF;have oj:=bE.ext o.nO.ext he aN;have HZ:=bE.ext o.h8.ext he aw;have d1:aW.cell? ⟨b,0,none⟩=some (.slice bf l.length cap):=w5 (aF.obj al) rfl;have d2:aW.cell? ⟨ch,0,none⟩=some (.slice tU s.length zd):=w5 aO rfl;refine aQ ?_;refine K.ld d1 ?_;refine aQ ?_;refine K.call (IN l.length (max eV 0) (by omega) (o.nameAt (·.name) l) (o.mT l s) F.wP F.be [_] [_,_] (by kernel_rfl) (by kernel_rfl) aW (a1.ext he)
  (fun i ad=>by rw[o9 _ _ _ (by omega)];obtain⟨a,rfl⟩:=aN.addr (by omega);exact(aN.at i (by omega)).ok)
  (fun i w' ad he=>aeG i b _ l w' (bE.ext o.nO.ext he oj) (he.cell d1) (by omega))
  (fun i w' ad he=>aeH i b ch _ _ l s w' (bE.ext o.nO.ext he oj) (bE.ext o.h8.ext he HZ) (he.cell d1) (he.cell d2) (by omega))) ?_
 rintro _ bh ⟨rfl,av⟩;refine aQ ?_;exact⟨rfl,he.trans av⟩
theorem U9(i:Nat)(b:Nat)(v:Value)(l:List o.dh)(w:World)(aN:o.mf w v l)(aA:w.cell? ⟨b,0,none⟩=some v)(ad:i<l.length) :
  bw Tryz.prog F.wS #[.int .i64 i,.pointer (some ⟨b,0,none⟩)] w fun v w'=>v = .string (o.nameAt (·.name) l i)∧Ext w w':=by
 obtain⟨bf,cap,rfl,hlen⟩:=aN.form;refine bO E.wS ?_;refine bH ?_;refine aQ ?_;refine K.ld aA ?_;refine aQ ?_;obtain⟨a,rfl⟩:=aN.addr (by omega);have ay:=(aN.at i ad).cells 0 _ rfl;refine K.du i rfl ad ?_;refine aQ ?_;refine K.ld ay ?_;refine aQ ?_;rw[o9 _ _ _ ad];exact⟨rfl,Ext.refl w⟩
theorem Va(i:Nat)(b ch:Nat)(v v2:Value)(l:List o.dh)(s:List o.Scalar)(w:World)(aN:o.mf w v l)(aw:o.gW w v2 s)(aA:w.cell? ⟨b,0,none⟩=some v)(en:w.cell? ⟨ch,0,none⟩=some v2)
  (ad:i<l.length):bw Tryz.prog F.wT #[.int .i64 i,.pointer (some ⟨b,0,none⟩),.pointer (some ⟨ch,0,none⟩)] w fun v w'=>v = .int .i64 (o.mw l s i)∧Ext w w':=by
 obtain⟨bf,cap,rfl,hlen⟩:=aN.form;obtain⟨tU,zd,rfl,HI⟩:=aw.form;refine bO E.wT ?_;refine bH ?_;refine aQ ?_;refine K.ld aA ?_;refine aQ ?_;obtain⟨a,rfl⟩:=aN.addr (by omega);have ay:=(aN.at i ad).cells;have ba:o.mw l s i=if o.there l[i].scalar s=false then 8
  else if l[i].cap<1∨l[i].cap > 4∨(l[i].scalar=0∧o.narrow l[i].bk l[i].ad=false) then 10 else 0:=by simp[o.mw,ad]
 rw[ba];clear ba;generalize l[i]=x at ay;refine K.du i rfl ad ?_;refine aQ ?_;refine K.jd ay rfl ?_;refine aQ ?_;refine K.new fun ar q aJ aE al=>?_;refine aQ ?_;refine K.jh al rfl rfl (by simp[o.dh.enc,Value.oneCell']) fun aW hw aO=>?_;have aF:Ext w aW:=hw.ext aE aJ;clear hw al aE ar;have c1:aW.cell? (Addr.add ⟨q,0,none⟩ 1)=some (.int .i64 x.scalar):=eZ aO rfl;have c2:aW.cell? (Addr.add ⟨q,0,none⟩ 2)=some (.int .i64 x.cap):=eZ aO rfl;have bN:aW.cell? (Addr.add ⟨q,0,none⟩ 3)=some (.int .i64 x.bk):=eZ aO rfl;have bX:aW.cell? (Addr.add ⟨q,0,none⟩ 4)=some (.int .i64 x.ad):=eZ aO rfl;have d2:=aF.cell en;have jt:=bE.ext o.h8.ext aF aw;refine aQ ?_;refine K.ld c1 ?_;refine aQ ?_;refine K.ld d2 ?_;refine aQ ?_;refine K.call (JL x.scalar _ s aW jt) ?_;rintro _ _ ⟨rfl,rfl⟩;refine aQ ?_;refine K.c3 (fun h1=>?_) (fun h1=>?_);rotate_left
 ·refine aQ ?_;simp only[h1,if_true];exact⟨trivial,aF⟩
 have eT:¬(o.there x.scalar s=false):=by simp[h1]
 refine aQ ?_;refine K.ld c2 ?_;refine aQ ?_;refine K.cond (fun U=>?_) (fun U=>?_)
 ·refine aQ ?_;rw[if_neg eT,if_pos (.inl U)];exact⟨rfl,aF⟩
 refine aQ ?_;refine K.ld c2 ?_;refine aQ ?_;refine K.cond (fun ai=>?_) (fun ai=>?_)
 ·refine aQ ?_;rw[if_neg eT,if_pos (.inr (.inl ai))];exact⟨rfl,aF⟩
 refine aQ ?_;refine K.ld c1 ?_;refine aQ ?_;refine K.cond (fun aL=>?_) (fun aL=>?_)
 ·refine aQ ?_;refine K.ld bN ?_;refine aQ ?_;refine K.ld bX ?_;refine aQ ?_;refine K.call (Rh x.bk x.ad _) ?_;rintro _ _ ⟨rfl,rfl⟩;refine aQ ?_;refine K.c3 (fun bt=>?_) (fun bt=>?_)
  ·refine aQ ?_;rw[if_neg eT,if_neg (by rw[bt];simp;omega)];exact⟨rfl,aF⟩
  ·refine aQ ?_;rw[if_neg eT,if_pos (.inr (.inr ⟨aL,bt⟩))];exact⟨rfl,aF⟩
 ·refine aQ ?_;rw[if_neg eT,if_neg (by simp[aL];omega)];exact⟨rfl,aF⟩
theorem Vc(v v2:Value)(l:List o.dh)(s:List o.Scalar)(w:World)(a1:gf w)(aN:o.mf w v l)(aw:o.gW w v2 s) :
  bw Tryz.prog F.oR #[v,v2] w fun v w'=>v = .tuple #[.int .i64 (o.aK l s).1,.int .i64 (o.aK l s).2]∧Ext w w':=by
 obtain⟨bf,cap,rfl,hlen⟩:=aN.form;obtain⟨tU,zd,rfl,HI⟩:=aw.form;refine bO E.oR ?_;refine bH ?_;refine aQ ?_;refine K.new fun ar b aA aE al=>?_;refine aQ ?_;refine K.new fun aW ch en aF aO=>?_;have he:=aE.trans aF;have oj:=bE.ext o.nN.ext he aN;have HZ:=bE.ext o.h8.ext he aw;have d1:aW.cell? ⟨b,0,none⟩=some (.slice bf l.length cap):=w5 (aF.obj al) rfl;have d2:aW.cell? ⟨ch,0,none⟩=some (.slice tU s.length zd):=w5 aO rfl;refine aQ ?_;refine K.ld d1 ?_;refine aQ ?_;refine K.call (IN l.length 4 (by omega) (o.nameAt (·.name) l) (o.mw l s) F.wS F.wT [_] [_,_] (by kernel_rfl) (by kernel_rfl) aW (a1.ext he)
  (fun i ad=>by rw[o9 _ _ _ (by omega)];obtain⟨a,rfl⟩:=aN.addr (by omega);exact(aN.at i (by omega)).ok)
  (fun i w' ad he=>U9 i b _ l w' (bE.ext o.nN.ext he oj) (he.cell d1) (by omega))
  (fun i w' ad he=>Va i b ch _ _ l s w' (bE.ext o.nN.ext he oj) (bE.ext o.h8.ext he HZ) (he.cell d1) (he.cell d2) (by omega))) ?_
 rintro _ bh ⟨rfl,av⟩;refine aQ ?_;exact⟨rfl,he.trans av⟩
end Go.Proofs.R
end
section
set_option linter.unusedSimpArgs false
end
section
set_option linter.unusedSimpArgs false
namespace Go.Proofs.R
open Go Go.RowKit bn
theorem yb(k:Int)(v:Value)(l:List o.Scalar)(w:World)(aN:o.gW w v l) :
  bw Tryz.prog F.o5 #[v,.int .i64 k] w fun v w'=>v = .int .i64 (o.size k l)∧w'=w:=by
 obtain⟨bf,cap,rfl,hlen⟩:=aN.form;refine bO E.o5 ?_;refine bH ?_;refine aQ ?_;refine K.cond (fun h1=>?_) (fun h1=>?_)
 ·refine aQ ?_;rw[EK (.inl h1)];exact⟨rfl,trivial⟩
 refine aQ ?_;refine K.cond (fun U=>?_) (fun U=>?_)
 ·refine aQ ?_;rw[EK (.inr U)];exact⟨rfl,trivial⟩
 obtain⟨a,rfl⟩:=aN.addr (by omega);have ay:=(aN.at (k.toNat - 1) (by omega)).cells 1 _ rfl;have hk:(k - 1).toNat*2=(k.toNat - 1)*2:=by omega
 rw[Sm (by omega) (by omega)];rw[←hk] at ay;generalize l[k.toNat - 1].size=z at ay
 (repeat' first
  | (refine K.cond (fun _=>?_) (fun _=>?_)<;>try (exfalso;omega))
  | (refine K.c3 (fun _=>?_) (fun _=>?_))
  | (refine K.wrap (by omega) ?_)
  | (refine K.ld (by assumption) ?_)
  | (refine K.gQ (by omega) ?_)
  | simp -dsimp only[bU,bQ,Nat.reduceAdd,Nat.reduceEqDiff,reduceIte,reduceCtorEq,bZ])
 ·rw[if_neg (by omega)];exact⟨rfl,trivial⟩
 ·rw[if_neg (by omega)];exact⟨rfl,trivial⟩
 ·rw[if_pos (by omega)];exact⟨rfl,trivial⟩
theorem Ji(x:o.Var)(v:Value)(l:List o.Scalar)(w:World)(aN:o.gW w v l) :
  bw Tryz.prog F.vE #[.agg x.enc.toArray,v] w fun v w'=>v = .tuple #[.int .i64 (o.bounds x l).1,.int .i64 (o.bounds x l).2]∧Ext w w':=by
 obtain⟨bf,cap,rfl,hlen⟩:=aN.form;refine bO E.vE ?_;refine bH ?_;refine aQ ?_;refine K.new fun ar b aA aE al=>?_;have c1:ar.cell? (Addr.add ⟨b,0,none⟩ 1)=some (.int .i64 x.scalar):=eZ al rfl;have bN:ar.cell? (Addr.add ⟨b,0,none⟩ 3)=some (.int .i64 x.bk):=eZ al rfl;have bX:ar.cell? (Addr.add ⟨b,0,none⟩ 4)=some (.int .i64 x.ad):=eZ al rfl;refine aQ ?_;refine K.ld c1 ?_;refine aQ ?_;refine K.cond (fun h1=>?_) (fun h1=>?_)
 ·refine aQ ?_;refine K.ld bN ?_;refine aQ ?_;refine K.ld bX ?_;refine aQ ?_;intro aW aF;simp only[o.bounds,h1,if_true];exact⟨trivial,aE.trans aF⟩
 ·refine aQ ?_;refine K.ld c1 ?_;refine aQ ?_;refine K.call (yb x.scalar _ l ar (bE.ext o.h8.ext aE aN)) ?_;rintro _ _ ⟨rfl,rfl⟩;refine aQ ?_;simp only[o.bounds,h1,if_false];exact⟨trivial,aE⟩
theorem EF(x:o.Var)(v:Value)(l:List o.Scalar)(w:World)(aN:o.gW w v l) :
  bw Tryz.prog F.tN #[.agg x.enc.toArray,v] w fun v w'=>v = .int .i64 (o.cells x l)∧Ext w w':=by
 obtain⟨bf,cap,rfl,hlen⟩:=aN.form;refine bO E.tN ?_;refine bH ?_;refine aQ ?_;refine K.new fun ar b aA aE al=>?_;have c2:ar.cell? (Addr.add ⟨b,0,none⟩ 2)=some (.int .i64 x.over):=eZ al rfl;refine aQ ?_;refine K.ld c2 ?_;refine aQ ?_;refine K.cond (fun h1=>?_) (fun h1=>?_)
 ·refine aQ ?_;simp only[o.cells,h1,if_true];exact⟨trivial,aE⟩
 ·refine aQ ?_;refine K.ld c2 ?_;refine aQ ?_;refine K.call (yb x.over _ l ar (bE.ext o.h8.ext aE aN)) ?_;rintro _ _ ⟨rfl,rfl⟩;refine aQ ?_;simp only[o.cells,h1,if_false];exact⟨trivial,aE⟩
end Go.Proofs.R
end
section
set_option linter.unusedSimpArgs false
namespace Go.Proofs.R
open Go Go.RowKit bn
theorem RS(n:Int)(w:World):bw Tryz.prog F.xS #[.int .u8 n] w fun v w'=>v = .bool (o.letter n)∧w'=w:=by
 refine bO E.xS ?_;refine bH ?_
 (repeat' first
  | (refine K.cond (fun _=>?_) (fun _=>?_)<;>try (exfalso;omega))
  | (refine K.c3 (fun _=>?_) (fun _=>?_))
  | (refine K.wrap (by omega) ?_)
  | (refine K.ld (by assumption) ?_)
  | (refine K.gQ (by omega) ?_)
  | simp -dsimp only[bU,bQ,Nat.reduceAdd,Nat.reduceEqDiff,reduceIte,reduceCtorEq,bZ])
 all_goals (refine⟨?_,by first | rfl | trivial⟩;congr 1;rw[Bool.eq_iff_iff];simp[o.letter];omega)
theorem Jg(n:Int)(w:World):bw Tryz.prog F.vC #[.int .u8 n] w fun v w'=>v = .bool (o.digit n)∧w'=w:=by
 refine bO E.vC ?_;refine bH ?_
 (repeat' first
  | (refine K.cond (fun _=>?_) (fun _=>?_)<;>try (exfalso;omega))
  | (refine K.c3 (fun _=>?_) (fun _=>?_))
  | (refine K.wrap (by omega) ?_)
  | (refine K.ld (by assumption) ?_)
  | (refine K.gQ (by omega) ?_)
  | simp -dsimp only[bU,bQ,Nat.reduceAdd,Nat.reduceEqDiff,reduceIte,reduceCtorEq,bZ])
 all_goals (refine⟨?_,by first | rfl | trivial⟩;congr 1;rw[Bool.eq_iff_iff];simp[o.digit];omega)
def su:List ByteArray:=[⟨#[58,61]⟩,⟨#[61,61]⟩,⟨#[33,61]⟩,⟨#[60,61]⟩,⟨#[45,62]⟩,⟨#[38,38]⟩,⟨#[124,124]⟩,⟨#[61,62]⟩,⟨#[40]⟩,⟨#[41]⟩,⟨#[91]⟩,⟨#[93]⟩,⟨#[123]⟩,⟨#[125]⟩,⟨#[59]⟩,⟨#[44]⟩,⟨#[58]⟩,⟨#[46]⟩,⟨#[60]⟩,⟨#[43]⟩,⟨#[45]⟩,⟨#[42]⟩,⟨#[33]⟩,⟨#[63]⟩,⟨#[64]⟩]
theorem adG(w:World):bw Tryz.prog F.AO #[] w fun v w'=>(∃b,v = .slice (some ⟨b,0,none⟩) 25 25∧e2 w' ⟨b,0,none⟩ (su.map Value.string))∧Ext w w':=by
 refine bO E.AO ?_;refine bH ?_;refine aQ ?_;refine K.j3 (cs:=su.map Value.string) (by simp[List.range,List.range.loop,ep,lay,eS,mA,ca,Value.cells,su]) fun ar bz cN aE al=>?_;refine aQ ?_;exact⟨⟨bz,rfl,gM al⟩,aE⟩
theorem Ul(s:ByteArray)(w:World)(h:0<s.size)(aw:s.size≤16) :
  bw Tryz.prog F.AN #[.string s,.int .i64 0] w fun v w'=>(∃n k:Int,v = .tuple #[.int .i64 n,.int .i64 k]∧if o.letter (o.pK s 0:Nat)=true then n=o.run o.part s∧k=1 else k≠1)∧Ext w w':=by
 refine bO E.AN ?_;refine bH ?_;refine aQ ?_;refine K.ke (s.get! 0) (by decide) (o.get?_eq s 0 h) ?_;refine aQ ?_;refine K.call (RS _ w) ?_;rintro _ w ⟨rfl,rfl⟩;refine aQ ?_;refine K.c3 (fun h1=>?_) (fun h1=>?_)
 ·have oc:o.letter (o.pK s 0:Nat)=true:=h1;refine aQ ?_;refine K.loop (fun S w' => ∃i:Nat,i≤s.size∧S 6 = .int .i64 i∧(∀j (aP:j<s.size),j<i→o.part s[j].toNat=true)∧w'=w)
   (fun S _=>(s.size - intOf (S 6)).toNat) ⟨0,by omega,by refine aQ ?_;rfl,fun _ _ h=>absurd h (Nat.not_lt_zero _),rfl⟩ ?_
  rintro S w cn ⟨i,ad,bM,c6,rfl⟩;have ak:=cn 0 rfl;have h1:=cn 1 rfl;simp only[ca,Nat.reduceAdd,Nat.reduceEqDiff,reduceIte,ie,kJ] at ak h1;clear cn;refine b3 (And.intro ak (And.intro h1 bM)) ?_;refine K.cond (fun U=>?_) (fun U=>?_)
  ·have cr:i<s.size:=by omega
   refine b3 (And.intro ak (And.intro h1 bM)) ?_;refine K.ke (s.get! i) (by omega) (o.get?_eq s i cr) ?_;rw[o.get_eq s i cr];refine b3 (And.intro ak (And.intro h1 bM)) ?_;refine K.call (RS _ _) ?_;rintro _ w ⟨rfl,rfl⟩;refine b3 (And.intro ak (And.intro h1 bM)) ?_;refine K.c3 (fun ai=>?_) (fun ai=>?_)
   ·refine b3 (And.intro ak (And.intro h1 bM)) ?_;refine K.wrap (by omega) ?_;refine b3 (And.intro ak (And.intro h1 bM)) ?_;refine⟨⟨i+1,by omega,rfl,fun j aP gl=>?_,trivial⟩,by simp[intOf];omega⟩;by_cases ly:j<i
    ·exact c6 j aP ly
    ·have:j=i:=by omega
     subst this;simp[o.part,ai]
   refine b3 (And.intro ak (And.intro h1 bM)) ?_;refine K.ke (s.get! i) (by omega) (o.get?_eq s i cr) ?_;rw[o.get_eq s i cr];refine b3 (And.intro ak (And.intro h1 bM)) ?_;refine K.call (Jg _ _) ?_;rintro _ w ⟨rfl,rfl⟩;refine b3 (And.intro ak (And.intro h1 bM)) ?_;refine K.c3 (fun aL=>?_) (fun aL=>?_)
   ·refine b3 (And.intro ak (And.intro h1 bM)) ?_;refine K.wrap (by omega) ?_;refine b3 (And.intro ak (And.intro h1 bM)) ?_;refine⟨⟨i+1,by omega,rfl,fun j aP gl=>?_,trivial⟩,by simp[intOf];omega⟩;by_cases ly:j<i
    ·exact c6 j aP ly
    ·have:j=i:=by omega
     subst this;simp[o.part,aL]
   refine b3 (And.intro ak (And.intro h1 bM)) ?_;refine K.ke (s.get! i) (by omega) (o.get?_eq s i cr) ?_;rw[o.get_eq s i cr];refine b3 (And.intro ak (And.intro h1 bM)) ?_;refine K.cond (fun bt=>?_) (fun bt=>?_)
   ·refine b3 (And.intro ak (And.intro h1 bM)) ?_;refine K.wrap (by omega) ?_;refine b3 (And.intro ak (And.intro h1 bM)) ?_;refine⟨⟨i+1,by omega,rfl,fun j aP gl=>?_,trivial⟩,by simp[intOf];omega⟩;by_cases ly:j<i
    ·exact c6 j aP ly
    ·have:j=i:=by omega
     subst this;simp[o.part];omega
   ·refine b3 (And.intro ak (And.intro h1 bM)) ?_;refine K.wrap (by omega) ?_;refine b3 (And.intro ak (And.intro h1 bM)) ?_;refine⟨⟨_,_,rfl,?_⟩,Ext.refl _⟩;rw[if_pos oc];rw[o.Sb o.part s i cr (fun j aP=>c6 j (by omega) aP) (by simp only[o.part,ai,aL,Bool.false_or,decide_eq_false_iff_not];omega)];exact⟨by omega,rfl⟩
  ·refine b3 (And.intro ak (And.intro h1 bM)) ?_;refine K.wrap (by omega) ?_;refine b3 (And.intro ak (And.intro h1 bM)) ?_;refine⟨⟨_,_,rfl,?_⟩,Ext.refl _⟩;rw[if_pos oc];rw[o.R3 o.part s (fun j aP=>c6 j aP (by omega))];exact⟨by omega,rfl⟩
 have oc:o.letter (o.pK s 0:Nat)=false:=h1;have o1:¬o.letter (o.pK s 0:Nat)=true:=by simp[oc]
 refine aQ ?_;refine K.ke (s.get! 0) (by decide) (o.get?_eq s 0 h) ?_;refine aQ ?_;refine K.call (Jg _ w) ?_;rintro _ w ⟨rfl,rfl⟩;refine aQ ?_;refine K.c3 (fun U=>?_) (fun U=>?_)
 ·refine aQ ?_;refine K.loop (fun S w' => ∃i:Nat,i≤s.size∧S 6 = .int .i64 i∧w'=w)
   (fun S _=>(s.size - intOf (S 6)).toNat) ⟨0,by omega,by refine aQ ?_;rfl,rfl⟩ ?_
  rintro S w cn ⟨i,ad,bM,rfl⟩;have ak:=cn 0 rfl;have h1:=cn 1 rfl;simp only[ca,Nat.reduceAdd,Nat.reduceEqDiff,reduceIte,ie,kJ] at ak h1;clear cn;refine b3 (And.intro ak (And.intro h1 bM)) ?_;refine K.cond (fun U=>?_) (fun U=>?_)
  ·have cr:i<s.size:=by omega
   refine b3 (And.intro ak (And.intro h1 bM)) ?_;refine K.ke (s.get! i) (by omega) (o.get?_eq s i cr) ?_;refine b3 (And.intro ak (And.intro h1 bM)) ?_;refine K.call (Jg _ _) ?_;rintro _ w ⟨rfl,rfl⟩;refine b3 (And.intro ak (And.intro h1 bM)) ?_;refine K.c3 (fun aL=>?_) (fun aL=>?_)
   ·refine b3 (And.intro ak (And.intro h1 bM)) ?_;refine K.wrap (by omega) ?_;refine b3 (And.intro ak (And.intro h1 bM)) ?_;exact⟨⟨i+1,by omega,rfl,trivial⟩,by simp[intOf];omega⟩
   ·refine b3 (And.intro ak (And.intro h1 bM)) ?_;refine K.wrap (by omega) ?_;refine b3 (And.intro ak (And.intro h1 bM)) ?_;exact⟨⟨_,_,rfl,by rw[if_neg o1];decide⟩,Ext.refl _⟩
  ·refine b3 (And.intro ak (And.intro h1 bM)) ?_;refine K.wrap (by omega) ?_;refine b3 (And.intro ak (And.intro h1 bM)) ?_;exact⟨⟨_,_,rfl,by rw[if_neg o1];decide⟩,Ext.refl _⟩
 refine aQ ?_;refine K.call (adG w) ?_;rintro _ ar ⟨⟨b,rfl,ay⟩,he⟩;refine aQ ?_;refine K.loop (fun S w' => ∃i:Nat,i≤25∧S 8 = .int .i64 i∧Ext ar w')
  (fun S _=>(25 - intOf (S 8)).toNat) ⟨0,by omega,by refine aQ ?_;rfl,Ext.refl _⟩ ?_
 rintro S w' cn ⟨i,ad,c9,aF⟩;have ak:=cn 0 rfl;have h1:=cn 1 rfl;have b6:=cn 7 rfl;simp only[ca,Nat.reduceAdd,Nat.reduceEqDiff,reduceIte,ie,kJ] at ak h1 b6;clear cn;refine b3 (And.intro ak (And.intro h1 (And.intro b6 c9))) ?_;refine K.cond (fun U=>?_) (fun U=>?_)
 ·have cr:i<su.length:=by simp[su];omega
  have kP:w'.cell? (Addr.add ⟨b,0,none⟩ (i*1))=some (.string su[i]):=by
   rw[Nat.mul_one];exact ay.ext aF i _ (by rw[List.getElem?_map,List.getElem?_eq_getElem cr];rfl)
  have bK:su[i].size≤2:=by
   have:∀x∈su,x.size≤2:=by decide
   exact this _ (List.getElem_mem _)
  generalize su[i]=x at kP bK;refine b3 (And.intro ak (And.intro h1 (And.intro b6 c9))) ?_;refine K.wrap (by omega) ?_;refine b3 (And.intro ak (And.intro h1 (And.intro b6 c9))) ?_;refine K.du i rfl (by omega) ?_;refine b3 (And.intro ak (And.intro h1 (And.intro b6 c9))) ?_;refine K.ld kP ?_;refine b3 (And.intro ak (And.intro h1 (And.intro b6 c9))) ?_;refine K.cond (fun ai=>?_) (fun ai=>?_)
  ·refine b3 (And.intro ak (And.intro h1 (And.intro b6 c9))) ?_;refine K.du i rfl (by omega) ?_;refine b3 (And.intro ak (And.intro h1 (And.intro b6 c9))) ?_;refine K.ld kP ?_;refine b3 (And.intro ak (And.intro h1 (And.intro b6 c9))) ?_;refine K.wrap (by omega) ?_;refine b3 (And.intro ak (And.intro h1 (And.intro b6 c9))) ?_;refine K.ub 0 x.size (by simp[e7,eS,ca,h1]) (by simp[e7,eS,ca,h1]) (by omega) ?_;refine b3 (And.intro ak (And.intro h1 (And.intro b6 c9))) ?_;refine K.du i rfl (by omega) ?_;refine b3 (And.intro ak (And.intro h1 (And.intro b6 c9))) ?_;refine K.ld kP ?_;refine b3 (And.intro ak (And.intro h1 (And.intro b6 c9))) ?_;intro aW av;refine K.cond (fun aL=>?_) (fun aL=>?_)
   ·refine b3 (And.intro ak (And.intro h1 (And.intro b6 c9))) ?_;refine K.du i rfl (by omega) ?_;refine b3 (And.intro ak (And.intro h1 (And.intro b6 c9))) ?_;refine K.ld (av.cell kP) ?_;refine b3 (And.intro ak (And.intro h1 (And.intro b6 c9))) ?_;exact⟨⟨_,_,rfl,by rw[if_neg o1];decide⟩,he.trans (aF.trans av)⟩
   ·refine b3 (And.intro ak (And.intro h1 (And.intro b6 c9))) ?_;refine K.wrap (by omega) ?_;refine b3 (And.intro ak (And.intro h1 (And.intro b6 c9))) ?_;exact⟨⟨i+1,by omega,rfl,aF.trans av⟩,by simp[intOf];omega⟩
  ·refine b3 (And.intro ak (And.intro h1 (And.intro b6 c9))) ?_;intro aW av;refine K.wrap (by omega) ?_;refine b3 (And.intro ak (And.intro h1 (And.intro b6 c9))) ?_;exact⟨⟨i+1,by omega,rfl,aF.trans av⟩,by simp[intOf];omega⟩
 ·refine b3 (And.intro ak (And.intro h1 (And.intro b6 c9))) ?_;exact⟨⟨_,_,rfl,by rw[if_neg o1];decide⟩,he.trans aF⟩
theorem ye(s:ByteArray)(w:World)(aw:s.size≤9223372036854775807):bw Tryz.prog F.qV #[.string s] w fun v w'=>v = .bool (o.isName s)∧Ext w w':=by
 refine bO E.qV ?_;refine bH ?_;refine aQ ?_;refine K.cond (fun ak=>?_) (fun ak=>?_)
 ·refine aQ ?_;refine⟨?_,Ext.refl w⟩;subst ak;rfl
 have bK:s.size≠0:=fun h=>ak (by
  cases s with | mk d =>
  have:d=#[]:=by simpa[ByteArray.size] using h
  rw[this])
 refine aQ ?_;refine K.cond (fun h1=>?_) (fun h1=>?_)
 ·refine aQ ?_;refine⟨?_,Ext.refl w⟩
  have:¬s.size≤16:=by omega
  simp[o.isName,this]
 have oc:s.size≤16:=by omega
 refine aQ ?_;refine K.cond (fun U=>?_) (fun U=>?_)
 ·refine aQ ?_;exact⟨by subst U;exact congrArg Value.bool (by decide +kernel),Ext.refl w⟩
 refine aQ ?_;refine K.cond (fun ai=>?_) (fun ai=>?_)
 ·refine aQ ?_;exact⟨by subst ai;exact congrArg Value.bool (by decide +kernel),Ext.refl w⟩
 refine aQ ?_;refine K.cond (fun aL=>?_) (fun aL=>?_)
 ·refine aQ ?_;exact⟨by subst aL;exact congrArg Value.bool (by decide +kernel),Ext.refl w⟩
 refine aQ ?_;refine K.cond (fun bt=>?_) (fun bt=>?_)
 ·refine aQ ?_;exact⟨by subst bt;exact congrArg Value.bool (by decide +kernel),Ext.refl w⟩
 have hm:s∉o.oy:=by simp[o.oy,U,ai,aL,bt]
 refine aQ ?_;refine K.call (Ul s w (by omega) oc) ?_;rintro _ ar ⟨⟨n,k,rfl,mJ⟩,he⟩;refine aQ ?_;refine K.cond (fun bM=>?_) (fun bM=>?_)
 ·refine aQ ?_;refine⟨?_,he⟩;have aN:o.letter (o.pK s 0:Nat)=true:=by
   by_cases aD:o.letter (o.pK s 0:Nat)=true
   ·exact aD
   ·rw[if_neg aD] at mJ;exact absurd bM mJ
  rw[if_pos aN] at mJ;congr 1;simp[o.isName,aN,bK,oc,hm,mJ.1];omega
 ·refine aQ ?_;refine⟨?_,he⟩;have aN:o.letter (o.pK s 0:Nat)=false:=by
   by_cases aD:o.letter (o.pK s 0:Nat)=true
   ·rw[if_pos aD] at mJ;exact absurd mJ.2 bM
   ·simpa using aD
  simp[o.isName,aN]
end Go.Proofs.R
end
section
set_option linter.unusedSimpArgs false
namespace Go.Proofs.R
open Go Go.RowKit bn
theorem uV{eV:Int}{fa:Nat→ByteArray}{mo:Nat→Int}{i:Nat}(h:eV≤i):o.err eV fa mo i=11:=by rw[o.err,if_pos h]
theorem w9{eV:Int}{fa:Nat→ByteArray}{mo:Nat→Int}{i:Nat}(h:¬eV≤i)(U:o.isName (fa i)=false):o.err eV fa mo i=6:=by rw[o.err,if_neg h,if_pos U]
theorem GI{eV:Int}{fa:Nat→ByteArray}{mo:Nat→Int}{i j:Nat}(h:¬eV≤i)(U:o.isName (fa i)=true)(aP:j<i)(he:fa j=fa i):o.err eV fa mo i=7:=by
 rw[o.err,if_neg h,if_neg (by simp[U]),if_pos ⟨j,aP,he⟩]
theorem GH{eV:Int}{fa:Nat→ByteArray}{mo:Nat→Int}{i:Nat}(h:¬eV≤i)(U:o.isName (fa i)=true)(aP:∀j,j<i→fa j≠fa i):o.err eV fa mo i=mo i:=by
 rw[o.err,if_neg h,if_neg (by simp[U]),if_neg (fun⟨j,h1,U⟩=>aP j h1 U)]
theorem Q4{eV:Int}{fa:Nat→ByteArray}{mo:Nat→Int}{i:Nat}(hm:0≤eV)(h:∀j,j<i→o.err eV fa mo j=0):(i:Int)≤eV:=by
 by_cases aD:(i:Int)≤eV
 ·exact aD
 ·have:=h eV.toNat (by omega)
  rw[uV (by omega)] at this;cases this
theorem acV(v:Value)(l:List o.Scalar)(w:World)(aN:o.gW w v l) :
  bw Tryz.prog F.AX #[v] w fun v w'=>v = .tuple #[.int .i64 (o.scalars l).1,.int .i64 (o.scalars l).2]∧Ext w w':=by
 obtain⟨bf,cap,rfl,hlen⟩:=aN.form;refine bO E.AX ?_;refine bH ?_;simp -dsimp only[bU,bQ,Nat.reduceAdd,Nat.reduceEqDiff,reduceIte,reduceCtorEq,bZ];refine K.loop (fun S w' => ∃i:Nat,i≤l.length∧S 4 = .int .i64 i∧(∀j,j<i→o.err 2 (o.nameAt (·.name) l) (o.q2 l) j=0)∧Ext w w')
  (fun S _=>(l.length - intOf (S 4)).toNat) ⟨0,by omega,by simp -dsimp only[bU,bQ,Nat.reduceAdd,Nat.reduceEqDiff,reduceIte,reduceCtorEq,bZ];rfl,fun _ h=>absurd h (Nat.not_lt_zero _),Ext.refl _⟩ ?_
 rintro S w' cn ⟨i,ad,aL,c6,he⟩;have ak:=cn 0 rfl;simp only[ca,Nat.reduceAdd,Nat.reduceEqDiff,reduceIte,ie,kJ] at ak;clear cn;have og:=Q4 (by omega) c6;refine b3 (And.intro ak aL) ?_;apply K.cond<;>intro g1;rotate_left
 ·refine b3 (And.intro ak aL) ?_;rw[o.scalars,o.lW (fun j aP=>c6 j (by omega))];exact⟨rfl,he⟩
 have cr:i<l.length:=by omega
 obtain⟨a,rfl⟩:=aN.addr (by omega);have hY:=bE.ext o.h8.ext he aN;have nm:=(hY.at i cr).cells 0 _ rfl;have al:=(hY.at i cr).cells 1 _ rfl;have c4:o.h2 l[i].name:=(hY.at i cr).ok;have e9:o.nameAt (fun x:o.Scalar=>x.name) l i=l[i].name:=o9 _ _ _ cr;refine b3 (And.intro ak aL) ?_;apply K.cond<;>intro g2
 ·refine b3 (And.intro ak aL) ?_;rw[o.scalars,o.hD cr c6 (by rw[uV (by omega)];decide),uV (by omega)];exact⟨rfl,he⟩
 have hm:¬(2:Int)≤(i:Int):=by omega
 refine b3 (And.intro ak aL) ?_;refine K.du i rfl cr ?_;refine b3 (And.intro ak aL) ?_;refine K.ld nm ?_;refine b3 (And.intro ak aL) ?_;refine K.call (ye _ _ c4) ?_;rintro _ aW ⟨rfl,aF⟩;refine b3 (And.intro ak aL) ?_;refine K.c3 (fun g3=>?_) (fun g3=>?_);rotate_left
 ·refine b3 (And.intro ak aL) ?_;rw[←e9] at g3;rw[o.scalars,o.hD cr c6 (by rw[w9 hm g3];decide),w9 hm g3];exact⟨rfl,he.trans aF⟩
 have ob:=g3;rw[←e9] at ob;replace aF:=he.trans aF;clear he hY;refine b3 (And.intro ak aL) ?_;refine K.loop (fun a6 w' => ∃k:Nat,k≤i∧a6 5 = .int .i64 k∧(∀j,j<k→o.nameAt (fun x:o.Scalar=>x.name) l j≠o.nameAt (fun x:o.Scalar=>x.name) l i)∧Ext w w')
  (fun S _=>(i - intOf (S 5)).toNat) ⟨0,by omega,by simp -dsimp only[bU,bQ,Nat.reduceAdd,Nat.reduceEqDiff,reduceIte,reduceCtorEq,bZ];rfl,fun _ h=>absurd h (Nat.not_lt_zero _),aF⟩ ?_
 rintro ko bh mC ⟨k,hk,bt,de,av⟩;have cG:=ak;have cP:=aL;have ak:=mC 0 rfl;have aL:=mC 4 rfl;simp only[ca,Nat.reduceAdd,Nat.reduceEqDiff,reduceIte,ie,kJ] at ak aL;clear mC;rw[cG] at ak;rw[cP] at aL;have hY:=bE.ext o.h8.ext av aN;have nm:=(hY.at i cr).cells 0 _ rfl;have al:=(hY.at i cr).cells 1 _ rfl;refine b3 (And.intro ak (And.intro aL bt)) ?_;apply K.cond<;>intro g4
 ·have bd:k<l.length:=by omega
  have jL:=(hY.at k bd).cells 0 _ rfl;have mJ:o.nameAt (fun x:o.Scalar=>x.name) l k=l[k].name:=o9 _ _ _ bd;refine b3 (And.intro ak (And.intro aL bt)) ?_;refine K.du k rfl bd ?_;refine b3 (And.intro ak (And.intro aL bt)) ?_;refine K.ld jL ?_;refine b3 (And.intro ak (And.intro aL bt)) ?_;refine K.du i rfl cr ?_;refine b3 (And.intro ak (And.intro aL bt)) ?_;refine K.ld nm ?_;refine b3 (And.intro ak (And.intro aL bt)) ?_;intro bj aH;apply K.cond<;>intro g5
  ·refine b3 (And.intro ak (And.intro aL bt)) ?_;have aG:=GI (mo:=o.q2 l) hm ob (show k<i by omega) (by rw[mJ,e9];exact g5);rw[o.scalars,o.hD cr c6 (by rw[aG];decide),aG];exact⟨rfl,av.trans aH⟩
  ·refine b3 (And.intro ak (And.intro aL bt)) ?_;refine K.wrap (by omega) ?_;refine b3 (And.intro ak (And.intro aL bt)) ?_;refine⟨⟨k+1,by omega,rfl,fun j aP=>?_,av.trans aH⟩,by simp[intOf];omega⟩;by_cases fL:j<k
   ·exact de j fL
   ·have:j=k:=by omega
    subst this;rw[mJ,e9];exact g5
 have fX:=GH (mo:=o.q2 l) hm ob (fun j aP=>de j (by omega));have Ay:o.q2 l i=if 1≤l[i].size∧l[i].size≤4 then 0 else 10:=by simp[o.q2,cr]
 rw[Ay] at fX;generalize l[i].size=z at al fX;refine b3 (And.intro ak (And.intro aL bt)) ?_;refine K.du i rfl cr ?_;refine b3 (And.intro ak (And.intro aL bt)) ?_;refine K.ld al ?_;refine b3 (And.intro ak (And.intro aL bt)) ?_;apply K.cond<;>intro g6
 ·refine b3 (And.intro ak (And.intro aL bt)) ?_;rw[if_neg (by omega)] at fX;rw[o.scalars,o.hD cr c6 (by rw[fX];decide),fX];exact⟨rfl,av⟩
 refine b3 (And.intro ak (And.intro aL bt)) ?_;refine K.du i rfl cr ?_;refine b3 (And.intro ak (And.intro aL bt)) ?_;refine K.ld al ?_;refine b3 (And.intro ak (And.intro aL bt)) ?_;apply K.cond<;>intro g7
 ·refine b3 (And.intro ak (And.intro aL bt)) ?_;rw[if_neg (by omega)] at fX;rw[o.scalars,o.hD cr c6 (by rw[fX];decide),fX];exact⟨rfl,av⟩
 ·refine b3 (And.intro ak (And.intro aL bt)) ?_;rw[if_pos (by omega)] at fX;refine K.wrap (by omega) ?_;refine b3 (And.intro ak (And.intro aL bt)) ?_;refine⟨⟨i+1,by omega,rfl,fun j aP=>?_,av⟩,by simp[intOf,cP];omega⟩;by_cases gl:j<i
  ·exact c6 j gl
  ·have:j=i:=by omega
   subst this;exact fX
end Go.Proofs.R
end
section
set_option linter.unusedSimpArgs false
namespace Go.Proofs.R
open Go Go.RowKit bn
theorem Sv(bk ad:Int)(w:World):bw Tryz.prog F.vF #[.int .i64 bk,.int .i64 ad] w fun v w'=>v = .bool (o.narrow bk ad)∧w'=w:=by
 refine bO E.vF ?_;refine bH ?_
 (repeat' first
  | (refine K.cond (fun _=>?_) (fun _=>?_)<;>try (exfalso;omega))
  | (refine K.c3 (fun _=>?_) (fun _=>?_))
  | (refine K.wrap (by omega) ?_)
  | (refine K.ld (by assumption) ?_)
  | (refine K.gQ (by omega) ?_)
  | simp -dsimp only[bU,bQ,Nat.reduceAdd,Nat.reduceEqDiff,reduceIte,reduceCtorEq,bZ])
 all_goals (refine⟨?_,by first | rfl | trivial⟩;congr 1;rw[Bool.eq_iff_iff];simp[o.narrow];omega)
def E4(v:o.Var)(s:List o.Scalar):Int :=
 if (v.scalar≠0∧o.size v.scalar s=0)∨(v.over≠0∧o.size v.over s=0) then 8
 else if v.scalar=0∧(o.narrow v.bk v.ad=false∨v.init<v.bk∨v.init > v.ad) then 10
 else if v.scalar≠0∧(v.init<0∨v.init > o.size v.scalar s) then 10 else 0
theorem aeE(l:List o.Var)(s:List o.Scalar)(i:Nat)(h:i<l.length):o.mT l s i=E4 l[i] s:=by
 rw[o.mT,List.getElem?_eq_getElem h];simp only[E4,o.there,o.bounds,decide_eq_false_iff_not];by_cases ak:l[i].scalar=0
 ·simp only[ak,if_true];by_cases h1:l[i].over=0
  ·simp[h1]
  ·simp[h1]
 ·simp only[ak,if_false];by_cases h1:l[i].over=0
  ·simp[ak,h1]
  ·simp[ak,h1]
theorem acX(x:o.Var)(v:Value)(l:List o.Scalar)(w:World)(aN:o.gW w v l) :
  bw Tryz.prog F.AY #[.agg x.enc.toArray,v] w fun v w'=>v = .int .i64 (E4 x l)∧Ext w w':=by
 obtain⟨bf,cap,rfl,hlen⟩:=aN.form;refine bO E.AY ?_;refine bH ?_;simp -dsimp only[bU,bQ,Nat.reduceAdd,Nat.reduceEqDiff,reduceIte,reduceCtorEq,bZ];refine K.new fun ar b aA aE al=>?_;have oj:=bE.ext o.h8.ext aE aN;have c1:ar.cell? (Addr.add ⟨b,0,none⟩ 1)=some (.int .i64 x.scalar):=eZ al rfl;have c2:ar.cell? (Addr.add ⟨b,0,none⟩ 2)=some (.int .i64 x.over):=eZ al rfl;have bN:ar.cell? (Addr.add ⟨b,0,none⟩ 3)=some (.int .i64 x.bk):=eZ al rfl;have bX:ar.cell? (Addr.add ⟨b,0,none⟩ 4)=some (.int .i64 x.ad):=eZ al rfl;have n0:ar.cell? (Addr.add ⟨b,0,none⟩ 5)=some (.int .i64 x.init):=eZ al rfl;have aJ:∀k w',Ext ar w'→bw Tryz.prog F.o5 #[.slice bf l.length cap,.int .i64 k] w' fun u bW=>u = .int .i64 (o.size k l)∧Ext w' bW:=fun k w' he =>
  (yb k _ l w' (bE.ext o.h8.ext he oj)).mono fun v bW h=>⟨h.1,h.2 ▸ Ext.refl _⟩
 (repeat' first
  | (refine K.cond (fun _=>?_) (fun _=>?_)<;>try (exfalso;omega))
  | (refine K.c3 (fun _=>?_) (fun _=>?_))
  | (refine K.ld (by assumption) ?_)
  | (refine K.call (yb _ _ l _ oj) ?_;rintro _ ar ⟨rfl,rfl⟩)
  | (refine K.call (Sv _ _ _) ?_;rintro _ ar ⟨rfl,rfl⟩)
  | (refine K.fj _ (aJ _) ?_)
  | simp -dsimp only[bU,bQ,Nat.reduceAdd,Nat.reduceEqDiff,reduceIte,reduceCtorEq,bZ]
  | (intro aW aF;replace aF:=aE.trans aF))
 all_goals (refine⟨?_,by assumption⟩;congr 1;unfold E4;simp only[o.narrow,decide_eq_false_iff_not])
 all_goals (repeat' split)
 all_goals first | rfl | (exfalso;omega)
theorem RP(v v2:Value)(l:List o.Var)(s:List o.Scalar)(eV:Int)(w:World)(aN:o.gL w v l)(aw:o.gW w v2 s) :
  bw Tryz.prog F.xW #[v,v2,.int .i64 eV] w fun v w'=>v = .tuple #[.int .i64 (o.vars l s eV).1,.int .i64 (o.vars l s eV).2]∧Ext w w':=by
 obtain⟨bf,cap,rfl,hlen⟩:=aN.form;refine bO E.xW ?_;refine bH ?_;simp -dsimp only[bU,bQ,Nat.reduceAdd,Nat.reduceEqDiff,reduceIte,reduceCtorEq,bZ];refine K.loop (fun S w' => ∃i:Nat,i≤l.length∧S 8 = .int .i64 i∧(∀j,j<i→o.err (max eV 0) (o.nameAt (·.name) l) (o.mT l s) j=0)∧Ext w w')
  (fun S _=>(l.length - intOf (S 8)).toNat) ⟨0,by omega,by simp -dsimp only[bU,bQ,Nat.reduceAdd,Nat.reduceEqDiff,reduceIte,reduceCtorEq,bZ];rfl,fun _ h=>absurd h (Nat.not_lt_zero _),Ext.refl _⟩ ?_
 rintro S w' cn ⟨i,ad,c9,c6,he⟩;have ak:=cn 0 rfl;have h1:=cn 1 rfl;have U:=cn 2 rfl;simp only[ca,Nat.reduceAdd,Nat.reduceEqDiff,reduceIte,ie,kJ] at ak h1 U;clear cn;refine b3 (And.intro ak (And.intro h1 (And.intro U c9))) ?_;apply K.cond<;>intro g1;rotate_left
 ·refine b3 (And.intro ak (And.intro h1 (And.intro U c9))) ?_;rw[o.vars,o.lW (fun j aP=>c6 j (by omega))];exact⟨rfl,he⟩
 have cr:i<l.length:=by omega
 obtain⟨a,rfl⟩:=aN.addr (by omega);have hY:=bE.ext o.nO.ext he aN;have nm:=(hY.at i cr).cells 0 _ rfl;have c4:o.h2 l[i].name:=(hY.at i cr).ok;have e9:o.nameAt (fun x:o.Var=>x.name) l i=l[i].name:=o9 _ _ _ cr;refine b3 (And.intro ak (And.intro h1 (And.intro U c9))) ?_;apply K.cond<;>intro g2
 ·refine b3 (And.intro ak (And.intro h1 (And.intro U c9))) ?_;rw[o.vars,o.hD cr c6 (by rw[uV (by omega)];decide),uV (by omega)];exact⟨rfl,he⟩
 have hm:¬(max eV 0:Int)≤(i:Int):=by omega
 refine b3 (And.intro ak (And.intro h1 (And.intro U c9))) ?_;refine K.du i rfl cr ?_;refine b3 (And.intro ak (And.intro h1 (And.intro U c9))) ?_;refine K.ld nm ?_;refine b3 (And.intro ak (And.intro h1 (And.intro U c9))) ?_;refine K.call (ye _ _ c4) ?_;rintro _ aW ⟨rfl,aF⟩;refine b3 (And.intro ak (And.intro h1 (And.intro U c9))) ?_;refine K.c3 (fun g3=>?_) (fun g3=>?_);rotate_left
 ·refine b3 (And.intro ak (And.intro h1 (And.intro U c9))) ?_;rw[←e9] at g3;rw[o.vars,o.hD cr c6 (by rw[w9 hm g3];decide),w9 hm g3];exact⟨rfl,he.trans aF⟩
 have ob:=g3;rw[←e9] at ob;replace aF:=he.trans aF;clear he hY;refine b3 (And.intro ak (And.intro h1 (And.intro U c9))) ?_;refine K.loop (fun a6 w' => ∃k:Nat,k≤i∧a6 9 = .int .i64 k∧(∀j,j<k→o.nameAt (fun x:o.Var=>x.name) l j≠o.nameAt (fun x:o.Var=>x.name) l i)∧Ext w w')
  (fun S _=>(i - intOf (S 9)).toNat) ⟨0,by omega,by simp -dsimp only[bU,bQ,Nat.reduceAdd,Nat.reduceEqDiff,reduceIte,reduceCtorEq,bZ];rfl,fun _ h=>absurd h (Nat.not_lt_zero _),aF⟩ ?_
 rintro ko bh mC ⟨k,hk,hE,de,av⟩;have cG:=ak;have cu:=h1;have cA:=U;have Rn:=c9;have ak:=mC 0 rfl;have h1:=mC 1 rfl;have U:=mC 2 rfl;have c9:=mC 8 rfl;simp only[ca,Nat.reduceAdd,Nat.reduceEqDiff,reduceIte,ie,kJ] at ak h1 U c9;clear mC;rw[cG] at ak;rw[cu] at h1;rw[cA] at U;rw[Rn] at c9;have hY:=bE.ext o.nO.ext av aN;have nm:=(hY.at i cr).cells 0 _ rfl;refine b3 (And.intro ak (And.intro h1 (And.intro U (And.intro c9 hE)))) ?_;apply K.cond<;>intro g4
 ·have bd:k<l.length:=by omega
  have jL:=(hY.at k bd).cells 0 _ rfl;have mJ:o.nameAt (fun x:o.Var=>x.name) l k=l[k].name:=o9 _ _ _ bd;refine b3 (And.intro ak (And.intro h1 (And.intro U (And.intro c9 hE)))) ?_;refine K.du k rfl bd ?_;refine b3 (And.intro ak (And.intro h1 (And.intro U (And.intro c9 hE)))) ?_;refine K.ld jL ?_;refine b3 (And.intro ak (And.intro h1 (And.intro U (And.intro c9 hE)))) ?_;refine K.du i rfl cr ?_;refine b3 (And.intro ak (And.intro h1 (And.intro U (And.intro c9 hE)))) ?_;refine K.ld nm ?_;refine b3 (And.intro ak (And.intro h1 (And.intro U (And.intro c9 hE)))) ?_;intro bj aH;apply K.cond<;>intro g5
  ·refine b3 (And.intro ak (And.intro h1 (And.intro U (And.intro c9 hE)))) ?_;have aG:=GI (mo:=o.mT l s) hm ob (show k<i by omega) (by rw[mJ,e9];exact g5);rw[o.vars,o.hD cr c6 (by rw[aG];decide),aG];exact⟨rfl,av.trans aH⟩
  ·refine b3 (And.intro ak (And.intro h1 (And.intro U (And.intro c9 hE)))) ?_;refine K.wrap (by omega) ?_;refine b3 (And.intro ak (And.intro h1 (And.intro U (And.intro c9 hE)))) ?_;refine⟨⟨k+1,by omega,rfl,fun j aP=>?_,av.trans aH⟩,by simp[intOf];omega⟩;by_cases fL:j<k
   ·exact de j fL
   ·have:j=k:=by omega
    subst this;rw[mJ,e9];exact g5
 have fX:=GH (mo:=o.mT l s) hm ob (fun j aP=>de j (by omega));rw[aeE l s i cr] at fX;have r1:=bE.ext o.h8.ext av aw;have jK:=(hY.at i cr).cells;generalize l[i]=x at jK fX;refine b3 (And.intro ak (And.intro h1 (And.intro U (And.intro c9 hE)))) ?_;refine K.du i rfl cr ?_;refine b3 (And.intro ak (And.intro h1 (And.intro U (And.intro c9 hE)))) ?_;refine K.jd jK rfl ?_;refine b3 (And.intro ak (And.intro h1 (And.intro U (And.intro c9 hE)))) ?_;refine K.call (acX x _ s _ r1) ?_;rintro _ bj ⟨rfl,aH⟩;replace aH:=av.trans aH;refine b3 (And.intro ak (And.intro h1 (And.intro U (And.intro c9 hE)))) ?_;apply K.cond<;>intro g6;rotate_left
 ·refine b3 (And.intro ak (And.intro h1 (And.intro U (And.intro c9 hE)))) ?_;rw[o.vars,o.hD cr c6 (by rw[fX];exact g6),fX];exact⟨rfl,aH⟩
 ·refine b3 (And.intro ak (And.intro h1 (And.intro U (And.intro c9 hE)))) ?_;rw[g6] at fX;refine K.wrap (by omega) ?_;refine b3 (And.intro ak (And.intro h1 (And.intro U (And.intro c9 hE)))) ?_;refine⟨⟨i+1,by omega,rfl,fun j aP=>?_,aH⟩,by simp[intOf,Rn];omega⟩;by_cases gl:j<i
  ·exact c6 j gl
  ·have:j=i:=by omega
   subst this;exact fX
end Go.Proofs.R
end
section
set_option linter.unusedSimpArgs false
namespace Go.Proofs.R
open Go Go.RowKit bn
theorem acM(v v2:Value)(l:List o.dh)(s:List o.Scalar)(w:World)(aN:o.mf w v l)(aw:o.gW w v2 s) :
  bw Tryz.prog F.AW #[v,v2] w fun v w'=>v = .tuple #[.int .i64 (o.aK l s).1,.int .i64 (o.aK l s).2]∧Ext w w':=by
 obtain⟨bf,cap,rfl,hlen⟩:=aN.form;refine bO E.AW ?_;refine bH ?_;refine aQ ?_;refine K.loop (fun S w' => ∃i:Nat,i≤l.length∧S 6 = .int .i64 i∧(∀j,j<i→o.err 4 (o.nameAt (·.name) l) (o.mw l s) j=0)∧Ext w w')
  (fun S _=>(l.length - intOf (S 6)).toNat) ⟨0,by omega,by refine aQ ?_;rfl,fun _ h=>absurd h (Nat.not_lt_zero _),Ext.refl _⟩ ?_
 rintro S w' cn ⟨i,ad,bM,c6,he⟩;have ak:=cn 0 rfl;have h1:=cn 1 rfl;simp only[ca,Nat.reduceAdd,Nat.reduceEqDiff,reduceIte,ie,kJ] at ak h1;clear cn;have og:=Q4 (by omega) c6;simp -dsimp only[bU,bQ,Nat.reduceAdd,Nat.reduceEqDiff,reduceIte,reduceCtorEq,bZ,ak,h1,bM];apply K.cond<;>intro g1;rotate_left
 ·simp -dsimp only[bU,bQ,Nat.reduceAdd,Nat.reduceEqDiff,reduceIte,reduceCtorEq,bZ,ak,h1,bM];rw[o.aK,o.lW (fun j aP=>c6 j (by omega))];exact⟨rfl,he⟩
 have cr:i<l.length:=by omega
 obtain⟨a,rfl⟩:=aN.addr (by omega);have hY:=bE.ext o.nN.ext he aN;have nm:=(hY.at i cr).cells 0 _ rfl;have c4:o.h2 l[i].name:=(hY.at i cr).ok;have e9:o.nameAt (fun x:o.dh=>x.name) l i=l[i].name:=o9 _ _ _ cr;simp -dsimp only[bU,bQ,Nat.reduceAdd,Nat.reduceEqDiff,reduceIte,reduceCtorEq,bZ,ak,h1,bM];apply K.cond<;>intro g2
 ·simp -dsimp only[bU,bQ,Nat.reduceAdd,Nat.reduceEqDiff,reduceIte,reduceCtorEq,bZ,ak,h1,bM];rw[o.aK,o.hD cr c6 (by rw[uV (by omega)];decide),uV (by omega)];exact⟨rfl,he⟩
 have hm:¬(4:Int)≤(i:Int):=by omega
 simp -dsimp only[bU,bQ,Nat.reduceAdd,Nat.reduceEqDiff,reduceIte,reduceCtorEq,bZ,ak,h1,bM];refine K.du i rfl cr ?_;simp -dsimp only[bU,bQ,Nat.reduceAdd,Nat.reduceEqDiff,reduceIte,reduceCtorEq,bZ,ak,h1,bM];refine K.ld nm ?_;simp -dsimp only[bU,bQ,Nat.reduceAdd,Nat.reduceEqDiff,reduceIte,reduceCtorEq,bZ,ak,h1,bM];refine K.call (ye _ _ c4) ?_;rintro _ aW ⟨rfl,aF⟩;simp -dsimp only[bU,bQ,Nat.reduceAdd,Nat.reduceEqDiff,reduceIte,reduceCtorEq,bZ,ak,h1,bM];refine K.c3 (fun g3=>?_) (fun g3=>?_);rotate_left
 ·simp -dsimp only[bU,bQ,Nat.reduceAdd,Nat.reduceEqDiff,reduceIte,reduceCtorEq,bZ,ak,h1,bM];rw[←e9] at g3;rw[o.aK,o.hD cr c6 (by rw[w9 hm g3];decide),w9 hm g3];exact⟨rfl,he.trans aF⟩
 have ob:=g3;rw[←e9] at ob;replace aF:=he.trans aF;clear he hY;simp -dsimp only[bU,bQ,Nat.reduceAdd,Nat.reduceEqDiff,reduceIte,reduceCtorEq,bZ,ak,h1,bM];refine K.loop (fun a6 w' => ∃k:Nat,k≤i∧a6 7 = .int .i64 k∧(∀j,j<k→o.nameAt (fun x:o.dh=>x.name) l j≠o.nameAt (fun x:o.dh=>x.name) l i)∧Ext w w')
  (fun S _=>(i - intOf (S 7)).toNat) ⟨0,by omega,by refine aQ ?_;rfl,fun _ h=>absurd h (Nat.not_lt_zero _),aF⟩ ?_
 rintro ko bh mC ⟨k,hk,b6,de,av⟩;have cG:=ak;have cu:=h1;have Rm:=bM;have ak:=mC 0 rfl;have h1:=mC 1 rfl;have bM:=mC 6 rfl;simp only[ca,Nat.reduceAdd,Nat.reduceEqDiff,reduceIte,ie,kJ] at ak h1 bM;clear mC;rw[cG] at ak;rw[cu] at h1;rw[Rm] at bM;have hY:=bE.ext o.nN.ext av aN;have nm:=(hY.at i cr).cells 0 _ rfl;simp -dsimp only[bU,bQ,Nat.reduceAdd,Nat.reduceEqDiff,reduceIte,reduceCtorEq,bZ,ak,h1,bM,b6];apply K.cond<;>intro g4
 ·have bd:k<l.length:=by omega
  have jL:=(hY.at k bd).cells 0 _ rfl;have mJ:o.nameAt (fun x:o.dh=>x.name) l k=l[k].name:=o9 _ _ _ bd;simp -dsimp only[bU,bQ,Nat.reduceAdd,Nat.reduceEqDiff,reduceIte,reduceCtorEq,bZ,ak,h1,bM,b6];refine K.du k rfl bd ?_;simp -dsimp only[bU,bQ,Nat.reduceAdd,Nat.reduceEqDiff,reduceIte,reduceCtorEq,bZ,ak,h1,bM,b6];refine K.ld jL ?_;simp -dsimp only[bU,bQ,Nat.reduceAdd,Nat.reduceEqDiff,reduceIte,reduceCtorEq,bZ,ak,h1,bM,b6];refine K.du i rfl cr ?_;simp -dsimp only[bU,bQ,Nat.reduceAdd,Nat.reduceEqDiff,reduceIte,reduceCtorEq,bZ,ak,h1,bM,b6];refine K.ld nm ?_;simp -dsimp only[bU,bQ,Nat.reduceAdd,Nat.reduceEqDiff,reduceIte,reduceCtorEq,bZ,ak,h1,bM,b6];intro bj aH;apply K.cond<;>intro g5
  ·simp -dsimp only[bU,bQ,Nat.reduceAdd,Nat.reduceEqDiff,reduceIte,reduceCtorEq,bZ,ak,h1,bM,b6];have aG:=GI (mo:=o.mw l s) hm ob (show k<i by omega) (by rw[mJ,e9];exact g5);rw[o.aK,o.hD cr c6 (by rw[aG];decide),aG];exact⟨rfl,av.trans aH⟩
  ·simp -dsimp only[bU,bQ,Nat.reduceAdd,Nat.reduceEqDiff,reduceIte,reduceCtorEq,bZ,ak,h1,bM,b6];refine K.wrap (by omega) ?_;simp -dsimp only[bU,bQ,Nat.reduceAdd,Nat.reduceEqDiff,reduceIte,reduceCtorEq,bZ,ak,h1,bM,b6];refine⟨⟨k+1,by omega,rfl,fun j aP=>?_,av.trans aH⟩,by simp[intOf];omega⟩;by_cases fL:j<k
   ·exact de j fL
   ·have:j=k:=by omega
    subst this;rw[mJ,e9];exact g5
 have fX:=GH (mo:=o.mw l s) hm ob (fun j aP=>de j (by omega));have jJ:o.mw l s i=if o.there l[i].scalar s=false then 8 else if l[i].cap<1∨l[i].cap > 4∨(l[i].scalar=0∧o.narrow l[i].bk l[i].ad=false) then 10 else 0:=by simp[o.mw,cr]
 rw[jJ] at fX;have r1:=bE.ext o.h8.ext av aw;have c1:=(hY.at i cr).cells 1 _ rfl;have c2:=(hY.at i cr).cells 2 _ rfl;have bN:=(hY.at i cr).cells 3 _ rfl;have bX:=(hY.at i cr).cells 4 _ rfl;simp only[o.there,o.narrow,decide_eq_false_iff_not] at fX;generalize l[i].scalar=xs at c1 fX;generalize l[i].cap=ahz at c2 fX;generalize l[i].bk=J4 at bN fX;generalize l[i].ad=J3 at bX fX;clear jJ;have aJ:∀w',Ext bh w'→bw Tryz.prog F.vF #[.int .i64 J4,.int .i64 J3] w' fun u bW=>u = .bool (o.narrow J4 J3)∧Ext w' bW:=fun w' he =>
  (Sv J4 J3 w').mono fun v bW h=>⟨h.1,h.2 ▸ Ext.refl _⟩
 simp -dsimp only[bU,bQ,Nat.reduceAdd,Nat.reduceEqDiff,reduceIte,reduceCtorEq,bZ,ak,h1,bM,b6]
 (repeat' first
  | (refine K.cond (fun _=>?_) (fun _=>?_)<;>try (exfalso;omega))
  | (refine K.c3 (fun _=>?_) (fun _=>?_))
  | (refine K.du i rfl cr ?_)
  | (refine K.ld (by assumption) ?_)
  | (refine K.call (yb _ _ s _ r1) ?_;rintro _ bh ⟨rfl,rfl⟩)
  | (refine K.fj _ aJ ?_)
  | simp -dsimp only[bU,bQ,Nat.reduceAdd,Nat.reduceEqDiff,reduceIte,reduceCtorEq,bZ,ak,h1,bM,b6]
  | (intro bj aH;replace aH:=av.trans aH))
 all_goals first
  | (rw[if_pos (by omega)] at fX
     rw[o.aK,o.hD cr c6 (by rw[fX];decide),fX];exact⟨rfl,by assumption⟩)
  | (rw[if_neg (by omega),if_pos (by omega)] at fX
     rw[o.aK,o.hD cr c6 (by rw[fX];decide),fX];exact⟨rfl,by assumption⟩)
  | (rw[if_neg (by omega),if_neg (by omega)] at fX
     refine K.wrap (by omega) ?_;simp -dsimp only[bU,bQ,Nat.reduceAdd,Nat.reduceEqDiff,reduceIte,reduceCtorEq,bZ,ak,h1,bM,b6];refine⟨⟨i+1,by omega,rfl,fun j aP=>?_,by assumption⟩,by simp[intOf,Rm];omega⟩;by_cases gl:j<i
     ·exact c6 j gl
     ·have:j=i:=by omega
      subst this;exact fX)
end Go.Proofs.R
end
section
namespace o
theorem TX(m:Model)(i:Nat):rr m 2 i=o8 m i:=by
 have bS:cx 1 2 i m.vars.length=min m.vars.length i:=by unfold cx;rw[if_pos (by decide),if_neg (by decide)];simp
 have aZ:cx 2 2 i m.aK.length=0:=by unfold cx;rw[if_neg (by decide)]
 have bJ:cx 3 2 i m.procs.length=0:=by unfold cx;rw[if_neg (by decide)]
 have b5:gE 2 i m.props.length=0:=by unfold gE;rw[if_neg (by decide)]
 unfold rr;rw[bS,aZ,bJ,b5];simp only[o8,Bs,vK,List.take_zero,List.map_nil,List.append_nil];rw[Nat.min_comm,←List.take_take];simp only[List.take_length]
theorem TV(m:Model)(i:Nat):rr m 3 i=k0 m i:=by
 have bS:cx 1 3 i m.vars.length=m.vars.length:=by unfold cx;rw[if_pos (by decide),if_pos (by decide)]
 have aZ:cx 2 3 i m.aK.length=min m.aK.length i:=by unfold cx;rw[if_pos (by decide),if_neg (by decide)];simp
 have bJ:cx 3 3 i m.procs.length=0:=by unfold cx;rw[if_neg (by decide)]
 have b5:gE 3 i m.props.length=0:=by unfold gE;rw[if_neg (by decide)]
 unfold rr;rw[bS,aZ,bJ,b5];simp only[k0,o8,Bs,vK,vJ,List.take_zero,List.map_nil,List.append_nil];rw[Nat.min_comm,←List.take_take];simp only[List.take_length]
theorem TW(m:Model)(i:Nat):rr m 4 i=hx m i:=by
 have bS:cx 1 4 i m.vars.length=m.vars.length:=by unfold cx;rw[if_pos (by decide),if_pos (by decide)]
 have aZ:cx 2 4 i m.aK.length=m.aK.length:=by unfold cx;rw[if_pos (by decide),if_pos (by decide)]
 have bJ:cx 3 4 i m.procs.length=min m.procs.length i:=by unfold cx;rw[if_pos (by decide),if_neg (by decide)];simp
 have b5:gE 4 i m.props.length=0:=by unfold gE;rw[if_neg (by decide)]
 unfold rr;rw[bS,aZ,bJ,b5];simp only[hx,k0,o8,Bs,vK,vJ,tR,List.take_zero,List.map_nil,List.append_nil];rw[Nat.min_comm,←List.take_take];simp only[List.take_length]
theorem M1(m:Model)(i:Nat):rr m 5 i=mP m i:=by
 have bS:cx 1 5 i m.vars.length=m.vars.length:=by unfold cx;rw[if_pos (by decide),if_pos (by decide)]
 have aZ:cx 2 5 i m.aK.length=m.aK.length:=by unfold cx;rw[if_pos (by decide),if_pos (by decide)]
 have bJ:cx 3 5 i m.procs.length=m.procs.length:=by unfold cx;rw[if_pos (by decide),if_pos (by decide)]
 have b5:gE 5 i m.props.length=min m.props.length i:=by unfold gE;rw[if_pos (by decide)];simp
 unfold rr;rw[bS,aZ,bJ,b5];simp only[mP,hx,k0,o8,Bs,vK,vJ,tR,En];rw[Nat.min_comm,←List.take_take];simp only[List.take_length]
theorem sE(q p i:Int)(len:Nat):cx q p i len≤len:=by unfold cx; (repeat' split)<;>omega
end o
namespace Go.Proofs.R
open Go Go.RowKit bn
def uW(f:o.ps):Value:=.agg #[.int .i64 f.cY,.int .i64 f.part,.int .i64 f.item,.int .i64 f.sub]
theorem acN(cs:List Value)(m:o.Model)(w:World)(h:o.eh w cs m) :
  bw Tryz.prog F.A7 #[.agg cs.toArray] w fun v w'=>v=uW (o.data m)∧Ext w w':=by
 have bP:=h;obtain⟨cG,bR,cu,c1,cA,c2,cw,bN,cP,bX,rfl,ak,h1,U,ai,aL,et,dY,eg,dK,ed⟩:=h.form;refine bO E.A7 ?_;refine bH ?_;refine aa ?_;intro ar bz cN aE al;refine aa ?_;intro aW ch en aF aO;replace al:=aF.obj al;have aZ:=aE.trans aF;have fx:=cL al;have z2:=aE.size;refine aa ?_;refine K.call (acV _ m.scalars aW (ak.ext aZ)) ?_;rintro _ bh ⟨rfl,av⟩;replace al:=av.obj al;replace aO:=av.obj aO;have bJ:=aZ.trans av;clear aZ;refine aa ?_;apply K.cond<;>intro g1;rotate_left
 ·have bx:=o.NJ g1;refine aa ?_;intro bj ew b0;refine aa ?_;exact⟨by rw[bx];rfl,ew.ext bJ (by omega)⟩
 have cn:(o.scalars m.scalars).2=0:=by simpa using g1
 have mC:=o.Sg cn;have tk:=al;have va:=aO;refine aa ?_;refine K.cV 5 m.vars.length [1,2] (fun _:Unit=>[]) () (fun k _ w'=>Ext bh w'∧∀j,j<k→o.hV m j=0) bp bp ⟨Ext.refl _,fun j h=>absurd h (Nat.not_lt_zero _)⟩ ?_;clear al aO;rintro k _ S bj hk ⟨aH,bK⟩;have al:=aH.obj tk;have aO:=aH.obj va;have b5:=bJ.trans aH;refine aa ?_;apply K.cond<;>intro g2
 ·have bd:k<m.vars.length:=by omega
  have oX:=(bE.len h1).2;have Hb:=oX.2;unfold maxLen at Hb;obtain⟨a,rfl⟩:=h1.addr (by omega);have e9:=o.x3 (f:=fun x:o.Var=>x.name) bd;have ev:=((h1.at k bd).cells).ext b5;have Ih:∀j,j<k→o.lK m j=0:=fun j aP=>o.Fb (bK j aP);refine aa ?_;refine K.q5 (k:=.i64) (k+1) (by simp[eS,ca]) (by omega) ?_;refine aa ?_;refine K.fj (.tuple #[.int .i64 (o.vars (m.vars.take (k+1)) m.scalars 12).1,.int .i64 (o.vars (m.vars.take (k+1)) m.scalars 12).2]) (fun w' e=>RP _ _ (m.vars.take (k+1)) m.scalars 12 w' ((h1.head (k+1) (by omega)).ext o.nO.ext (b5.trans e)) (ak.ext (b5.trans e))) ?_;refine aa ?_;intro bF a8;replace al:=a8.obj al;replace aO:=a8.obj aO;replace ev:=ev.ext a8;have cf:=b5.trans a8;rw[o.aeJ bd Ih];refine aa ?_;apply K.cond<;>intro g3;rotate_left
  ·have jb:o.hV m k=o.lK m k:=by unfold o.hV;rw[if_pos g3]
   have bx:=o.C6 cn bd bK (by rw[jb];exact g3);rw[jb] at bx;refine aa ?_;intro bV fY cW;refine aa ?_;exact⟨by rw[bx];rfl,fY.ext cf (by omega)⟩
  have kV:o.lK m k=0:=by simpa using g3
  have agl:k<12:=by
   apply Classical.byContradiction;intro aM;have h:=kV;unfold o.lK o.err at h;rw[if_pos (by omega)] at h;cases h
  refine aa ?_;intro bV bo;replace al:=bo.obj al;replace aO:=bo.obj aO;refine aa ?_;refine K.call (y0 _ m 2 k bV (bP.ext (cf.trans bo)) (by omega) (by omega) (by
   have dS:o.cx 1 2 k m.vars.length≤k:=by unfold o.cx; (repeat' split)<;>omega
   have dP:o.cx 2 2 k m.aK.length=0:=by unfold o.cx;rw[if_neg (by decide)]
   have dD:o.cx 3 2 k m.procs.length=0:=by unfold o.cx;rw[if_neg (by decide)]
   have gT:o.gE 2 k m.props.length=0:=by unfold o.gE;rw[if_neg (by decide)]
   omega)) ?_
  rintro _ cc ⟨⟨v,rfl,gA⟩,bY⟩;refine⟨bY,?_⟩;rw[o.TX] at gA;refine aa ?_;refine K.call (zU v _ m.vars[k].name _ cc gA) ?_;rintro _ lL ⟨rfl,rfl⟩;replace al:=bY.obj al;replace aO:=bY.obj aO;have Pa:=bo.trans bY;have eM:=cf.trans Pa;refine aa ?_;apply K.cond<;>intro g4
  ·have jb:o.hV m k=7:=by unfold o.hV;rw[if_neg (by simpa using kV),e9,if_pos g4]
   have bx:=o.C6 cn bd bK (by rw[jb];decide);rw[jb] at bx;refine aa ?_;intro dq kd fp;refine aa ?_;exact⟨by rw[bx];rfl,kd.ext eM (by omega)⟩
  ·refine aa ?_;refine⟨bd,bq,(),trivial,(aH.trans a8).trans Pa,fun j aP=>?_⟩;by_cases fL:j=k
   ·subst fL;unfold o.hV;rw[if_neg (by simpa using kV),e9,if_neg g4]
   ·exact bK j (by omega)
 have lr:∀j,j<m.vars.length→o.hV m j=0:=fun j aP=>bK j (by omega);have afO:m.vars.length≤12:=by
  apply Classical.byContradiction;intro aM
  have:=o.N7 (lr 12 (by omega))
  omega
 clear al aO;refine aa ?_;refine K.cV 8 m.aK.length [1,2] (fun _:Unit=>[]) () (fun k _ w'=>Ext bh w'∧∀j,j<k→o.iJ m j=0) bp bp ⟨aH,fun j h=>absurd h (Nat.not_lt_zero _)⟩ ?_;clear b5;rintro k _ a6 bF hk ⟨a8,bK⟩;have al:=a8.obj tk;have aO:=a8.obj va;have b5:=bJ.trans a8;refine aa ?_;apply K.cond<;>intro g2
 ·have bd:k<m.aK.length:=by omega
  have oX:=(bE.len U).2;have Hb:=oX.2;unfold maxLen at Hb;obtain⟨a,rfl⟩:=U.addr (by omega);have e9:=o.x3 (f:=fun x:o.dh=>x.name) bd;have ev:=((U.at k bd).cells).ext b5;have Ih:∀j,j<k→o.lo m j=0:=fun j aP=>o.CW (bK j aP);refine aa ?_;refine K.q5 (k:=.i64) (k+1) (by simp[eS,ca]) (by omega) ?_;refine aa ?_;refine K.fj (.tuple #[.int .i64 (o.aK (m.aK.take (k+1)) m.scalars).1,.int .i64 (o.aK (m.aK.take (k+1)) m.scalars).2]) (fun w' e=>acM _ _ (m.aK.take (k+1)) m.scalars w' ((U.head (k+1) (by omega)).ext o.nN.ext (b5.trans e)) (ak.ext (b5.trans e))) ?_;refine aa ?_;intro bV bo;replace al:=bo.obj al;replace aO:=bo.obj aO;replace ev:=ev.ext bo;have cf:=b5.trans bo;rw[o.Vd bd Ih];refine aa ?_;apply K.cond<;>intro g3;rotate_left
  ·have jb:o.iJ m k=o.lo m k:=by unfold o.iJ;rw[if_pos g3]
   have bx:=o.C4 cn lr bd bK (by rw[jb];exact g3);rw[jb] at bx;refine aa ?_;intro bV fY cW;refine aa ?_;exact⟨by rw[bx];rfl,fY.ext cf (by omega)⟩
  have kV:o.lo m k=0:=by simpa using g3
  have agm:k<4:=by
   apply Classical.byContradiction;intro aM;have h:=kV;unfold o.lo o.err at h;rw[if_pos (by omega)] at h;cases h
  refine aa ?_;intro cc bY;replace al:=bY.obj al;replace aO:=bY.obj aO;refine aa ?_;refine K.call (y0 _ m 3 k cc (bP.ext (cf.trans bY)) (by omega) (by omega) (by
   have dS:=o.sE 1 3 k m.vars.length;have dP:o.cx 2 3 k m.aK.length≤k:=by unfold o.cx; (repeat' split)<;>omega
   have dD:o.cx 3 3 k m.procs.length=0:=by unfold o.cx;rw[if_neg (by decide)]
   have gT:o.gE 3 k m.props.length=0:=by unfold o.gE;rw[if_neg (by decide)]
   omega)) ?_
  rintro _ dq ⟨⟨v,rfl,gA⟩,cj⟩;refine⟨cj,?_⟩;rw[o.TV] at gA;refine aa ?_;refine K.call (zU v _ m.aK[k].name _ dq gA) ?_;rintro _ lL ⟨rfl,rfl⟩;replace al:=cj.obj al;replace aO:=cj.obj aO;have rR:=bY.trans cj;have eM:=cf.trans rR;refine aa ?_;apply K.cond<;>intro g4
  ·have jb:o.iJ m k=7:=by unfold o.iJ;rw[if_neg (by simpa using kV),e9,if_pos g4]
   have bx:=o.C4 cn lr bd bK (by rw[jb];decide);rw[jb] at bx;refine aa ?_;intro dq kd fp;refine aa ?_;exact⟨by rw[bx];rfl,kd.ext eM (by omega)⟩
  ·refine aa ?_;refine⟨bd,bq,(),trivial,(a8.trans bo).trans rR,fun j aP=>?_⟩;by_cases fL:j=k
   ·subst fL;unfold o.iJ;rw[if_neg (by simpa using kV),e9,if_neg g4]
   ·exact bK j (by omega)
 have bx:=o.NH cn lr fun j aP=>bK j (by omega);refine aa ?_;intro bV fY cW;refine aa ?_;exact⟨by rw[bx];rfl,fY.ext b5 (by omega)⟩
end Go.Proofs.R
end
section
namespace o
structure rh(m:Model):Prop where
 v:m.vars.length≤1000000
 c:m.aK.length≤1000000
 p:m.procs.length≤1000000
 i:∀p∈m.procs,p.vars.length≤1000000∧p.c7.length≤1000000
def c1(m:Model)(k:Nat):Int:=hg ((m.vars.take k).map fun v=>cells v m.scalars)
def c2(m:Model)(k:Nat):Int:=hg ((m.aK.take k).map n2)
def i1(m:Model)(k:Nat):Int:=hg ((m.procs.take k).map (jg m))
def i2(m:Model)(k:Nat):Int:=hg ((m.procs.take k).map fun p=>jg m p*p.c7.length)
def i3(m:Model)(k:Nat):Int:=hg ((m.procs.take k).map fun p=>jg m p*(1+p.vars.length))
theorem Ra{α:Type}{l:List α}{k:Nat}{x:α}(h:x∈l.take k):x∈l:=List.mem_of_mem_take h
theorem w3{m:Model}(h:rh m)(k:Nat):0≤c1 m k∧c1 m k≤4000000:=by
 have:=BW (fun v=>cells v m.scalars) 4 (by decide) (m.vars.take k) fun v _=>s4 v _
 have h1:=h.v;have U:(m.vars.take k).length≤m.vars.length:=by simp;omega
 unfold c1;omega
theorem CQ{m:Model}(h:rh m)(k:Nat):0≤c2 m k∧c2 m k≤5000000:=by
 have:=BW n2 5 (by decide) (m.aK.take k) fun c _=>by have:=Gc c;omega
 have h1:=h.c;have U:(m.aK.take k).length≤m.aK.length:=by simp;omega
 unfold c2;omega
theorem PZ{m:Model}(h:rh m)(k:Nat):0≤i1 m k∧i1 m k≤4000000:=by
 have:=BW (jg m) 4 (by decide) (m.procs.take k) fun p _=>Bx m p
 have h1:=h.p;have U:(m.procs.take k).length≤m.procs.length:=by simp;omega
 unfold i1;omega
theorem x2{a b:Int}(bD:0≤a∧a≤4)(aA:0≤b∧b≤1000001):0≤a*b∧a*b≤4000004:=by
 have:a=0∨a=1∨a=2∨a=3∨a=4:=by omega
 rcases this with rfl | rfl | rfl | rfl | rfl<;>omega
theorem P1{m:Model}(h:rh m)(k:Nat):0≤i2 m k∧i2 m k≤4000004000000:=by
 have:=BW (fun p=>jg m p*p.c7.length) 4000004 (by decide) (m.procs.take k) fun p bg=>x2 (Bx m p) (by have:=(h.i p (Ra bg)).2;omega)
 have h1:=h.p;have U:(m.procs.take k).length≤m.procs.length:=by simp;omega
 unfold i2;omega
theorem P3{m:Model}(h:rh m)(k:Nat):0≤i3 m k∧i3 m k≤4000004000000:=by
 have:=BW (fun p=>jg m p*(1+p.vars.length)) 4000004 (by decide) (m.procs.take k) fun p bg=>x2 (Bx m p) (by have:=(h.i p (Ra bg)).1;omega)
 have h1:=h.p;have U:(m.procs.take k).length≤m.procs.length:=by simp;omega
 unfold i3;omega
theorem Nl{m:Model}{k:Nat}(h:k<m.vars.length):c1 m (k+1)=c1 m k+cells m.vars[k] m.scalars:=BX _ _ h
theorem Nn{m:Model}{k:Nat}(h:k<m.aK.length):c2 m (k+1)=c2 m k+n2 m.aK[k]:=BX _ _ h
theorem P0{m:Model}{k:Nat}(h:k<m.procs.length):i1 m (k+1)=i1 m k+jg m m.procs[k]:=BX _ _ h
theorem P2{m:Model}{k:Nat}(h:k<m.procs.length):i2 m (k+1)=i2 m k+jg m m.procs[k]*m.procs[k].c7.length:=BX _ _ h
theorem P4{m:Model}{k:Nat}(h:k<m.procs.length):i3 m (k+1)=i3 m k+jg m m.procs[k]*(1+m.procs[k].vars.length):=BX _ _ h
theorem Rv(m:Model){a b c:Nat}(bD:m.vars.length≤a)(aA:m.aK.length≤b)(ay:m.procs.length≤c):pieces m=(i1 m c,i2 m c,c1 m a+c2 m b+i3 m c):=by
 unfold pieces i1 i2 i3 c1 c2;rw[List.take_of_length_le bD,List.take_of_length_le aA,List.take_of_length_le ay]
end o
namespace Go.Proofs.R
open Go Go.RowKit bn
theorem abV(cs:List Value)(m:o.Model)(w:World)(h:o.eh w cs m)(aI:o.rh m) :
  bw Tryz.prog F.ci #[.agg cs.toArray] w fun v w'=>v = .tuple #[.int .i64 (o.pieces m).1,.int .i64 (o.pieces m).2.1,.int .i64 (o.pieces m).2.2]∧Ext w w':=by
 obtain⟨cG,bR,cu,c1,cA,c2,cw,bN,cP,bX,rfl,ak,h1,U,ai,aL,et,dY,eg,dK,ed⟩:=h.form;refine bO E.ci ?_;refine bH ?_;refine aa ?_;intro ar bz cN aE al;have vc:=al;clear al;refine aa ?_;refine K.cV 18 m.vars.length [1,5,6,16,17] (fun s:Int=>[(7,.int .i64 s)]) 0 (fun k s w'=>Ext ar w'∧s=o.c1 m k) bp bp ⟨Ext.refl _,by simp[o.c1,o.hg]⟩ ?_;rintro k _ S aW hk ⟨aF,rfl⟩;have al:=aF.obj vc;have cQ:∀{w'},Ext aW w'→Ext w w':=fun e=>(aE.trans aF).trans e;refine aa ?_;apply K.cond<;>intro g1
 ·have bd:k<m.vars.length:=by omega
  obtain⟨a,rfl⟩:=h1.addr (by omega);have ev:=((h1.at k bd).cells).ext (cQ (Ext.refl _));refine aa ?_;intro bh cE gh av bA;replace al:=av.obj al;refine aa ?_;refine K.call (CV m.vars[k] _ m.scalars bh (ak.ext (cQ av))) ?_;rintro _ bj ⟨rfl,aH⟩;have dS:=o.w3 aI k;have dP:=o.s4 m.vars[k] m.scalars;refine aa ?_;exact⟨bd,bq,_,bp,(aF.trans av).trans aH,(o.Nl bd).symm⟩
 have j9:m.vars.length≤k:=by omega
 refine aa ?_;refine K.cV 32 m.aK.length [1,5,6,30,31] (fun s:Int=>[(7,.int .i64 s)]) (o.c1 m k) (fun j s w'=>Ext ar w'∧s=o.c1 m k+o.c2 m j) bp bp ⟨aF,by simp[o.c2,o.hg]⟩ ?_;clear al cQ;rintro j _ a6 bh aP ⟨av,rfl⟩;have al:=av.obj vc;have eG:∀{w'},Ext bh w'→Ext w w':=fun e=>(aE.trans av).trans e;refine aa ?_;apply K.cond<;>intro g2
 ·have eH:j<m.aK.length:=by omega
  obtain⟨a,rfl⟩:=U.addr (by omega);have ev:=((U.at j eH).cells).ext (eG (Ext.refl _));refine aa ?_;intro bj cE gh aH bA;have dS:=o.w3 aI k;have dP:=o.CQ aI j;have dD:=o.Gc m.aK[j];unfold o.n2 at dD;refine aa ?_;exact⟨eH,bq,_,bp,av.trans aH,by rw[o.Nn eH];unfold o.n2;omega⟩
 have HC:m.aK.length≤j:=by omega
 refine aa ?_;refine K.cV 47 m.procs.length [1,45,46] (fun s:Int×Int×Int=>[(5,.int .i64 s.1),(6,.int .i64 s.2.1),(7,.int .i64 s.2.2)]) (0,0,o.c1 m k+o.c2 m j)
  (fun i s w'=>Ext ar w'∧s=(o.i1 m i,o.i2 m i,o.c1 m k+o.c2 m j+o.i3 m i)) bp bp ⟨av,by simp[o.i1,o.i2,o.i3,o.hg]⟩ ?_
 clear al eG;rintro i _ ff bj ad ⟨aH,rfl⟩;have al:=aH.obj vc;have ej:∀{w'},Ext bj w'→Ext w w':=fun e=>(aE.trans aH).trans e;refine aa ?_;apply K.cond<;>intro g3
 ·have cr:i<m.procs.length:=by omega
  obtain⟨a,rfl⟩:=ai.addr (by omega);obtain⟨_,cF,ei,bg,eO,dR⟩:=ai.at i cr;obtain⟨e4,gN,rfl,fA⟩:=eO.form;obtain⟨mQ,mv,rfl,lc⟩:=dR.form;replace bg:=bg.ext (ej (Ext.refl _));have Ym:=aI.i _ (List.getElem_mem cr);refine aa ?_;intro bF cE gh a8 bA;replace al:=a8.obj al;refine aa ?_;refine K.call (CV ⟨⟨#[]⟩,0,m.procs[i].over,0,0,0⟩ _ m.scalars bF (ak.ext (ej a8))) ?_;rintro _ bV ⟨rfl,bo⟩;have Zb:o.cells ⟨⟨#[]⟩,0,m.procs[i].over,0,0,0⟩ m.scalars=o.jg m m.procs[i]:=rfl;rw[Zb];replace bA:=bo.obj bA;have dS:=o.w3 aI k;have dP:=o.CQ aI j;have dD:=o.PZ aI i;have gT:=o.P1 aI i;have pc:=o.P3 aI i;have sj:=o.Bx m m.procs[i];have Jb:=o.x2 sj (b:=m.procs[i].c7.length) (by omega);have BE:=o.x2 sj (b:=1+m.procs[i].vars.length) (by omega);refine aa ?_;exact⟨cr,bq,(_,_,_),(by first | exact⟨rfl,rfl,rfl,trivial⟩ | exact⟨rfl,rfl,trivial⟩ | (simp -dsimp only[bU,sx,sw,r8,r7,rM,rL,Nat.reduceAdd,Nat.reduceEqDiff,reduceIte,and_self];exact⟨rfl,rfl,rfl,trivial⟩) | (simp -dsimp only[bU,sx,sw,r8,r7,rM,rL,Nat.reduceAdd,Nat.reduceEqDiff,reduceIte,and_self];exact⟨rfl,rfl,trivial⟩)),(aH.trans a8).trans bo,by rw[o.P0 cr,o.P2 cr,o.P4 cr];exact Prod.ext rfl (Prod.ext rfl (Int.add_assoc _ _ _))⟩
 have Hz:m.procs.length≤i:=by omega
 refine aa ?_;exact⟨by rw[o.Rv m j9 HC Hz],ej (Ext.refl _)⟩
theorem ZW(cs:List Value)(m:o.Model)(p:o.dx)(cF ei:Value)(w:World)(h:o.eh w cs m) :
  bw Tryz.prog F.A5 #[.agg cs.toArray,.agg (p.enc cF ei).toArray] w fun v w'=>v = .int .i64 (o.jg m p)∧Ext w w':=by
 obtain⟨cG,bR,cu,c1,cA,c2,cw,bN,cP,bX,rfl,ak,_⟩:=h.form;refine bO E.A5 ?_;refine bH ?_;refine aa ?_;intro ar bz cN aE al;refine aa ?_;intro aW ch en aF aO;refine aa ?_;refine K.cond (fun g=>?_) (fun g=>?_)
 ·refine aa ?_;exact⟨by rw[o.jg,if_pos g],aE.trans aF⟩
 refine aa ?_;refine K.call (yb p.over _ m.scalars aW (ak.ext (aE.trans aF))) ?_;rintro _ _ ⟨rfl,rfl⟩;refine aa ?_;exact⟨by rw[o.jg,if_neg g],aE.trans aF⟩
theorem acS(cs:List Value)(m:o.Model)(w:World)(h:o.eh w cs m)(aI:o.rh m) :
  bw Tryz.prog F.A6 #[.agg cs.toArray] w fun v w'=>v = .tuple #[.int .i64 (o.pieces m).1,.int .i64 (o.pieces m).2.1,.int .i64 (o.pieces m).2.2]∧Ext w w':=by
 have bP:=h;obtain⟨cG,bR,cu,c1,cA,c2,cw,bN,cP,bX,rfl,ak,h1,U,ai,aL,et,dY,eg,dK,ed⟩:=h.form;refine bO E.A6 ?_;refine bH ?_;refine aa ?_;intro ar bz cN aE al;have vc:=al;clear al;refine aa ?_;refine K.cV 8 m.vars.length [1,5,6] (fun s:Int=>[(7,.int .i64 s)]) 0 (fun k s w'=>Ext ar w'∧s=o.c1 m k) bp bp ⟨Ext.refl _,by simp[o.c1,o.hg]⟩ ?_;rintro k _ S aW hk ⟨aF,rfl⟩;have al:=aF.obj vc;have cQ:∀{w'},Ext aW w'→Ext w w':=fun e=>(aE.trans aF).trans e;refine aa ?_;apply K.cond<;>intro g1
 ·have bd:k<m.vars.length:=by omega
  obtain⟨a,rfl⟩:=h1.addr (by omega);have ev:=((h1.at k bd).cells).ext (cQ (Ext.refl _));have dS:=o.w3 aI k;have dP:=o.s4 m.vars[k] m.scalars;refine aa ?_;refine K.fj (.int .i64 (o.cells m.vars[k] m.scalars)) (fun w' e=>EF m.vars[k] _ m.scalars w' (ak.ext (cQ e))) ?_;refine aa ?_;intro bj aH;refine aa ?_;exact⟨bd,bq,_,bp,aF.trans aH,(o.Nl bd).symm⟩
 have j9:m.vars.length≤k:=by omega
 refine aa ?_;refine K.cV 9 m.aK.length [1,5,6] (fun s:Int=>[(7,.int .i64 s)]) (o.c1 m k) (fun j s w'=>Ext ar w'∧s=o.c1 m k+o.c2 m j) bp bp ⟨aF,by simp[o.c2,o.hg]⟩ ?_;clear al cQ;rintro j _ a6 bh aP ⟨av,rfl⟩;have al:=av.obj vc;have eG:∀{w'},Ext bh w'→Ext w w':=fun e=>(aE.trans av).trans e;refine aa ?_;apply K.cond<;>intro g2
 ·have eH:j<m.aK.length:=by omega
  obtain⟨a,rfl⟩:=U.addr (by omega);have ev:=((U.at j eH).cells).ext (eG (Ext.refl _));have dS:=o.w3 aI k;have dP:=o.CQ aI j;have dD:=o.Gc m.aK[j];unfold o.n2 at dD;refine aa ?_;exact⟨eH,bq,_,bp,av,by rw[o.Nn eH];unfold o.n2;omega⟩
 have HC:m.aK.length≤j:=by omega
 refine aa ?_;refine K.cV 10 m.procs.length [1] (fun s:Int×Int×Int=>[(5,.int .i64 s.1),(6,.int .i64 s.2.1),(7,.int .i64 s.2.2)]) (0,0,o.c1 m k+o.c2 m j)
  (fun i s w'=>Ext ar w'∧s=(o.i1 m i,o.i2 m i,o.c1 m k+o.c2 m j+o.i3 m i)) bp bp ⟨av,by simp[o.i1,o.i2,o.i3,o.hg]⟩ ?_
 clear al eG;rintro i _ ff bj ad ⟨aH,rfl⟩;have al:=aH.obj vc;have ej:∀{w'},Ext bj w'→Ext w w':=fun e=>(aE.trans aH).trans e;refine aa ?_;apply K.cond<;>intro g3
 ·have cr:i<m.procs.length:=by omega
  obtain⟨a,rfl⟩:=ai.addr (by omega);obtain⟨_,cF,ei,bg,eO,dR⟩:=ai.at i cr;obtain⟨e4,gN,rfl,fA⟩:=eO.form;obtain⟨mQ,mv,rfl,lc⟩:=dR.form;replace bg:=bg.ext (ej (Ext.refl _));have Ym:=aI.i _ (List.getElem_mem cr);refine aa ?_;refine K.fj (.int .i64 (o.jg m m.procs[i])) (fun w' e=>ZW _ m m.procs[i] _ _ w' (bP.ext (ej e))) ?_;refine aa ?_;intro bV bo;replace al:=bo.obj al;replace bg:=bg.ext bo;have dS:=o.w3 aI k;have dP:=o.CQ aI j;have dD:=o.PZ aI i;have gT:=o.P1 aI i;have pc:=o.P3 aI i;have sj:=o.Bx m m.procs[i];have Jb:=o.x2 sj (b:=m.procs[i].c7.length) (by omega);have BE:=o.x2 sj (b:=1+m.procs[i].vars.length) (by omega);refine aa ?_;exact⟨cr,bq,(_,_,_),(by first | exact⟨rfl,rfl,rfl,trivial⟩ | exact⟨rfl,rfl,trivial⟩ | (simp -dsimp only[bU,sx,sw,r8,r7,rM,rL,Nat.reduceAdd,Nat.reduceEqDiff,reduceIte,and_self];exact⟨rfl,rfl,rfl,trivial⟩) | (simp -dsimp only[bU,sx,sw,r8,r7,rM,rL,Nat.reduceAdd,Nat.reduceEqDiff,reduceIte,and_self];exact⟨rfl,rfl,trivial⟩)),aH.trans bo,by rw[o.P0 cr,o.P2 cr,o.P4 cr];exact Prod.ext rfl (Prod.ext rfl (Int.add_assoc _ _ _))⟩
 have Hz:m.procs.length≤i:=by omega
 refine aa ?_;exact⟨by rw[o.Rv m j9 HC Hz],ej (Ext.refl _)⟩
end Go.Proofs.R
end
section
namespace o
structure ae9(m:Model):Prop where
 s:m.scalars.length≤10
 v:m.vars.length≤30
 c:m.aK.length≤20
 p:m.procs.length≤20
 q:m.props.length≤20
 i:∀p∈m.procs,p.vars.length≤20∧p.c7.length≤30∧∀c∈p.c7,c.di.length≤20∧c.guard.length≤60
end o
end