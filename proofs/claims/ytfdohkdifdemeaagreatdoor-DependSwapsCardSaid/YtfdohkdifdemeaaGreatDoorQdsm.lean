/- Parts. -/
import Derived.Test.YtfdohkdifdemeaaGreatDoorQdsl
set_option linter.all false
set_option maxRecDepth 8000
set_option maxHeartbeats 16000000
section
namespace o
theorem ajd{m:Model}(h:(oF m).c3=0):oF m=sO:=Nr (Iv h)
end o
namespace Go.Proofs.R
open Go Go.RowKit bt
theorem abq(b:Nat)(w:World):CallsD Tryz.prog F.t #[.pointer (some ⟨b,0,none⟩)] .returning w fun e jL w'=>jL = .returning/\∃v,e = .returned v/\w'=w:=by
 refine K.Yw mC Ps.t (args:=[_]) (Nat.le_of_ble_eq_true rfl) ?_;dsimp only[Jj.t];refine bG ?_;dsimp only[oH];refine aa ?_;refine K.aib (by kernel_rfl) ?_
 (repeat' first
 | assumption
 | exact Ext.refl _
 | refine Ext.trans ?_ (by assumption)
 | refine K.wrap (by omega) ?_
 | refine K.ti (by assumption) ?_ rfl ?_
 | refine K.q1 (by assumption) ?_ rfl ?_
 | refine K.uU (by assumption) ?_ (by omega) rfl ?_
 | refine K.uV (by assumption) ?_ (by omega) rfl ?_
 | refine K.uT (by assumption) ?_ (by omega) rfl ?_
 | refine K.uL (by omega) ?_
 | refine K.sF (by first | assumption | omega) ?_
 | refine K.tS (by first | assumption | omega) ?_
 | refine K.qB (by assumption) ?_
 | refine K.rL (by assumption) ?_
 | simp -dsimp only[c4,cF,Nat.reduceAdd,Nat.reduceEqDiff,reduceIte,reduceCtorEq,db])
theorem abp(f:o.ru)(b:Nat)(w:World)(aC:w.heap[b]? = some (.cells #[.int .i64 0,.int .i64 0,.int .i64 0,.int .i64 0] T.w)) :
  CallsD Tryz.prog F.t #[.pointer (some ⟨b,0,none⟩)] (.panicking (vj f)) w fun e jL w'=>jL=(oH (.panicking (vj f))).2/\∃v,e = .returned v /\
   (w'.heap[b]? = some (.cells #[.int .i64 f.c3,.int .i64 f.part,.int .i64 f.item,.int .i64 f.sub] T.w)/\∀w0,Ext w0 w->w0.heap.size<=b->Ext w0 w'):=by
 refine K.Yw mC Ps.t (args:=[_]) (Nat.le_of_ble_eq_true rfl) ?_;dsimp only[Jj.t];refine bG ?_;dsimp only[oH,vj];refine aa ?_;refine K.aic (by kernel_rfl) ?_;refine aa ?_;refine K.aac rfl (by kernel_rfl) ?_;refine aa ?_;intro av bC cR aB aq;have FK:=cG aC;replace aC:=aB.obj aC;refine aa ?_;intro aU s9 aQ;refine aa ?_;exact⟨aQ,fun w0 e aS=>s9.ext (e.trans aB) aS⟩
theorem A4(cs:List Value)(m:o.Model)(w:World)(h:o.dY w cs m)(a1:m.cQ)(ba:ht w) :
  bu Tryz.prog F.h #[.agg cs.toArray] w fun v w'=>v = .agg #[.int .i64 (o.check m).c3,.int .i64 (o.check m).part,.int .i64 (o.check m).item,.int .i64 (o.check m).sub]/\Ext w w':=by
 obtain⟨cy,bP,b9,c1,ck,c2,cn,bQ,cB,bX,rfl,_⟩:=h.form;refine K.alk mC Zn.h (args:=[_]) (Nat.le_of_ble_eq_true rfl) ?_;dsimp only[Pq.h];refine bG ?_;refine aa ?_;intro av bC cR aB aq;refine aa ?_;intro aU cp dR aA aQ;replace aq:=aA.obj aq;have gl:=cG aq;have z5:=cG aQ;refine aa ?_;refine K.defer (by kernel_rfl) ?_;refine aa ?_;refine K.A8 fun bb er Ac ax im=>?_;replace aq:=ax.obj aq;replace aQ:=ax.obj aQ;have z2:=cG aQ;have z3:=aA.size;have z4:=aB.size;have bJ:=(aB.trans aA).trans ax;have J0:∀(f:o.ru) (w':World) (S:Fr),Ext w w'->w'.heap[cp]? = some (.cells #[.int .i64 0,.int .i64 0,.int .i64 0,.int .i64 0] T.w)->S 2 = .pointer (some ⟨cp,0,none⟩)->f=o.check m ->
   CI Tryz.prog [.ie 4 2] F.t #[.pointer (some ⟨cp,0,none⟩)] (fun v w'=>v = .agg #[.int .i64 (o.check m).c3,.int .i64 (o.check m).part,.int .i64 (o.check m).item,.int .i64 (o.check m).sub]/\Ext w w') (.fV (vj f)) S w':=by
  rintro f w' S e aw cq rfl;refine K.abY (su.of (abp (o.check m) cp w' aw) rfl ?_);rintro bq ⟨aC,he⟩;simp -dsimp only[c4,cF,Nat.reduceAdd,Nat.reduceEqDiff,reduceIte,reduceCtorEq,db,cq];refine K.gV aC (Ext.refl _) rfl ?_;simp -dsimp only[c4,cF,Nat.reduceAdd,Nat.reduceEqDiff,reduceIte,reduceCtorEq,db];exact⟨bk,he _ e (by omega)⟩
 refine aa ?_;refine K.ff (adu _ m er bb h bJ (by omega) ba (fF.empty im)) ?_ ?_;rotate_left
 .rintro c bq ⟨h1,rfl,bZ,m4⟩;refine aa ?_;exact J0 _ bq _ bZ (m4.obj (by omega) aQ) rfl (by rw[o.check,if_pos h1])
 rintro _ bq ⟨h1,bZ,m4,oK⟩;replace aq:=m4.obj (by omega) aq;replace aQ:=m4.obj (by omega) aQ;refine aa ?_;refine K.ff (ai8 _ m er bq h a1 bZ (by omega) ba h1 oK) ?_ ?_;rotate_left
 .rintro c bT ⟨U,rfl,b5,m5⟩;refine aa ?_;exact J0 _ bT _ b5 (m5.obj (by omega) aQ) rfl (by rw[o.check,if_neg (by simpa using h1),if_pos U])
 rintro _ bT ⟨U,b5,m5,nV⟩;replace aq:=m5.obj (by omega) aq;replace aQ:=m5.obj (by omega) aQ;refine aa ?_;refine K.ff (ajc _ m er bT h a1 b5 (by omega) ba nV) ?_ ?_;rotate_left
 .rintro c bV ⟨ag,rfl,cM,m6⟩;refine aa ?_;exact J0 _ bV _ cM (m6.obj (by omega) aQ) rfl (by rw[o.check,if_neg (by simpa using h1),if_neg (by simpa using U)])
 rintro _ bV ⟨ag,cM,m6⟩;replace aq:=m6.obj (by omega) aq;replace aQ:=m6.obj (by omega) aQ;have kY:o.check m=o.sO:=by rw[o.check,if_neg (by simpa using h1),if_neg (by simpa using U),o.ajd ag]
 refine aa ?_;intro cc dx cU;refine aa ?_;refine K.abZ (su.of (abq cp cc) rfl ?_);rintro _ rfl;refine aa ?_;exact⟨by rw[kY];rfl,dx.ext cM (by omega)⟩
end Go.Proofs.R
end
section
namespace o
open Go
def dG.enc(b:dG):List Value:=[.int .i64 b.bf,.int .i64 b.ad,.int .i64 b.kind]
def Cell.slot(x:Cell):List Value:=[.int .i64 x.sort,.int .i64 x.vn,.int .i64 x.place,.int .i64 x.kind]
def Cell.enc(x:Cell):List Value:=[.int .i64 x.sort,.int .i64 x.vn,.int .i64 x.place,.int .i64 x.bf,.int .i64 x.ad,.int .i64 x.kind]
theorem vK:∀(y:dG),∀u∈y.enc,u.oneCell'=true:=by intro y u hu;simp[dG.enc] at hu;rcases hu with rfl | rfl | rfl<;>rfl
theorem akX:∀(y:Cell),∀u∈y.slot,u.oneCell'=true:=by intro y u hu;simp[Cell.slot] at hu;rcases hu with rfl | rfl | rfl | rfl<;>rfl
theorem Cl:∀(y:Cell),∀u∈y.enc,u.oneCell'=true:=by intro y u hu;simp[Cell.enc] at hu;rcases hu with rfl | rfl | rfl | rfl | rfl | rfl<;>rfl
end o
namespace Go.Proofs.R
open Go Go.RowKit bt
theorem ahK(k:Int)(w:World)(h:o.eG (k+1)):bu Tryz.prog F.ig #[.int .i64 k] w fun v w'=>v = .int .i64 (o.kindOf k)/\w'=w:=by
 unfold o.eG at h;refine bL E.ig ?_;refine bG ?_;unfold o.kindOf;refine aa ?_;apply K.cond<;>intro g1
 .refine aa ?_;exact⟨by rw[if_pos g1],bk⟩
 .refine aa ?_;exact⟨by rw[if_neg g1],bk⟩
theorem NQ(k:Int)(w:World)(h:o.eG (k+1)):bu Tryz.prog F.yI #[.int .i64 k] w fun v w'=>v = .int .i64 (o.kindOf k)/\w'=w:=by
 unfold o.eG at h;refine bL E.yI ?_;refine bG ?_;unfold o.kindOf;refine aa ?_;apply K.cond<;>intro g1
 .refine aa ?_;exact⟨by rw[if_pos g1],bk⟩
 .refine aa ?_;exact⟨by rw[if_neg g1,Int.add_comm],bk⟩
theorem MZ(x:o.Var)(v:Value)(l:List o.Scalar)(w:World)(aS:o.hI w v l)(h:o.eG (x.scalar+1)) :
  bu Tryz.prog F.o0 #[.agg x.enc.toArray,v] w fun v w'=>v = .agg (o.fb x.scalar x.bf x.ad l).enc.toArray/\Ext w w':=by
 obtain⟨al,c,rfl,_⟩:=aS.form;rw[o.Ce];refine bL E.o0 ?_;refine bG ?_;refine aa ?_;intro av bC cR aB aq;refine aa ?_;intro aU cp dR aA aQ;replace aq:=aA.obj aq;have gl:=cG aq;have z2:=cG aQ;have aW:=aB.trans aA;refine aa ?_;refine K.call (R0 x _ l aU (aS.ext aW)) ?_;rintro _ bb ⟨rfl,ax⟩;replace aq:=ax.obj aq;replace aQ:=ax.obj aQ;have bJ:=aW.trans ax;refine aa ?_;refine K.call (ahK x.scalar bb h) ?_;rintro _ nv ⟨rfl,rfl⟩;refine aa ?_;intro bq eu bw;refine aa ?_;exact⟨bk,eu.ext bJ (by have:=aB.size;omega)⟩
theorem ahW(cs:List Value)(m:o.Model)(w:World)(h:o.dY w cs m)(a1:m.cQ)(ba:ht w) :
  bu Tryz.prog F.d5 #[.agg cs.toArray] w fun v w'=>v = .bool (decide ((o.check m).c3=0))/\Ext w w':=by
 obtain⟨cy,bP,b9,c1,ck,c2,cn,bQ,cB,bX,rfl,_⟩:=h.form;refine bL E.d5 ?_;refine bG ?_;refine aa ?_;intro av bC cR aB aq;refine aa ?_;refine K.call (A4 _ m av (h.ext aB) a1 (ba.ext aB)) ?_;rintro _ aU ⟨rfl,aA⟩;refine aa ?_;refine K.jg (v:=.int .i64 (o.check m).c3) rfl ?_;refine aa ?_;exact⟨bk,aB.trans aA⟩
theorem adv(cs:List Value)(m:o.Model)(w:World)(h:o.dY w cs m)(a1:m.cQ) :
  bu Tryz.prog F.EI #[.agg cs.toArray] w fun v w'=>v = .bool (decide ((o.check m).c3=0))/\Ext w w':=by
 obtain⟨cy,bP,b9,c1,ck,c2,cn,bQ,cB,bX,rfl,_⟩:=h.form;refine bL E.EI ?_;refine bG ?_;refine aa ?_;intro av bC cR aB aq;refine aa ?_;refine K.call (NO _ m av (h.ext aB) a1) ?_;rintro _ aU ⟨rfl,aA⟩;unfold wa;refine aa ?_;refine K.jg (v:=.int .i64 (o.check m).c3) rfl ?_;refine aa ?_;exact⟨bk,aB.trans aA⟩
end Go.Proofs.R
end
section
namespace bt
open Go Go.RowKit
theorem hU.congr{α:Type}{enc:α->List Value}{e:TypeId}{sz base n:Nat}{w:World}{vs sn:Nat->Option Addr×Nat×Nat}{xs FG:Nat->List α}(h:hU enc e sz base w n vs xs)(aT:∀i,i<n->vs i=sn i)(ar:∀i,i<n->xs i=FG i):hU enc e sz base w n sn FG :=
 ⟨fun i ad=>by rw[<-aT i ad,<-ar i ad];exact h.own i ad,fun i j k ad aR cI he=>by rw[<-aT j aR];rw[<-aT i ad] at he;exact h.apart i j k ad aR cI he⟩
theorem KE{S:Fr}{t:Nat}{n:Int}(h:S t = .int .i64 n):eP S ((List.range 1).map fun i=>(i*1,1)) [(0,.tmp t)] [.int .i64 0]=some [.int .i64 n]:=by
 simp[eP,lay,fu,h,Value.cells,List.range,List.range.loop]
structure ep(cJ:List TypeId)(w w':World):Prop where
 size:w.heap.size<=w'.heap.size
 aX:∀(k:Nat) (c:Array Value) (t:TypeId),w.heap[k]? = some (.cells c t)->t∉cJ->w'.heap[k]? = some (.cells c t)
section
variable{cJ:List TypeId}{a b w w':World}
theorem ep.refl:ep cJ w w:=⟨Nat.le_refl _,fun _ _ _ h _=>h⟩
theorem ep.trans{c:World}(h:ep cJ a b)(k:ep cJ b c):ep cJ a c:=⟨Nat.le_trans h.size k.size,fun i c t aw aO=>k.aX i c t (h.aX i c t aw aO) aO⟩
theorem ep.ext(h:Ext a b):ep cJ a b:=⟨h.size,fun _ _ _ aw _=>h.obj aw⟩
theorem ep.mod{A:Nat->Prop}(h:Mod A a b)(eJ:∀(k:Nat) (c:Array Value) (t:TypeId),a.heap[k]? = some (.cells c t)->A k->t∈cJ):ep cJ a b:=⟨h.size,fun k c t aw aO=>h.obj (fun hk=>aO (eJ k c t aw hk)) aw⟩
theorem ep.wr{k:Nat}{c:Array Value}{t:TypeId}{f:Nat×Nat}(h:dA k a b)(aw:a.heap[k]? = some (.cells c t f))(aO:t∈cJ):ep cJ a b:=ep.mod (h.mod (A:=fun i=>i=k) rfl) fun i mW hg my e=>by
 subst e;rw[aw] at my;injection my with my;injection my with _ e;exact e ▸ aO
theorem bs.hB{α:Type}{enc:α->List Value}{e:TypeId}{sz base:Nat}{v:Value}{xs:List α}(h:bs enc e sz base a v xs)(k:ep cJ a b)(he:e∉cJ):bs enc e sz base b v xs:=by
 refine⟨h.1,?_⟩;rcases h.2 with aE | ⟨g,cap,cur,rfl,aC,a1,rest⟩
 .exact .inl aE
 .exact .inr ⟨g,cap,cur,rfl,aC,k.aX _ _ _ a1 he,rest⟩
end
end bt
namespace o
structure gI where
 V:List Int
 C:List Int
 eo:List Int
 n:Nat
 L:List Int
 H:List Int
 Z:List Cell
def gI.of(V C eo:List Int)(cs:List Cell):gI:=⟨V,C,eo,cs.length,cs.map (·.bf),cs.map (·.ad),cs⟩
def gI.rows(s:gI):Nat->List Int:=fun i=>if i=0 then s.V else if i=1 then s.C else if i=2 then s.eo else if i=3 then s.L else s.H
end o
namespace Go.Proofs.R
open Go Go.RowKit bt
def r7:List TypeId:=[T.a,T.v,T.g,T.sy]
structure kc(av:World)(bW b3:Nat)(s:o.gI)(W:World):Prop where
 mod:Mod (fun k=>k=bW\/k=b3) av W
 ex:∃(vs:Nat->gQ) (u:gQ),W.heap[bW]? = some (.cells #[cz (vs 0),cz (vs 1),cz (vs 2),.int .i64 s.n,cz (vs 3),cz (vs 4)] T.g)/\hU ey T.a 1 av.heap.size W 5 vs s.rows /\
  W.heap[b3]? = some (.cells #[cz u] T.sy)/\bs o.Cell.slot T.v 4 av.heap.size W (cz u) s.Z
theorem kc.move{av:World}{bW b3:Nat}{s:o.gI}{W b8:World}{A:Nat->Prop}(h:kc av bW b3 s W)(m:Mod A W b8)(eJ:∀(k:Nat) (c:Array Value) (t:TypeId),W.heap[k]? = some (.cells c t)->t∈r7->¬A k)(jB:∀k,A k->av.heap.size<=k):kc av bW b3 s b8:=by
 obtain⟨vs,u,h1,U,ag,aJ⟩:=h.ex;refine⟨h.mod.comp m (fun _ _ a=>a) fun k hk a=>absurd (jB k a) (by omega),vs,u,m.obj (eJ _ _ _ h1 (by decide)) h1,U.mod m fun i k ad hk=>?_,m.obj (eJ _ _ _ ag (by decide)) ag,aJ.mod m fun k hk=>?_⟩
 .obtain⟨cur,aw⟩:=(U.own i ad).aX k hk;exact eJ _ _ _ aw (by decide)
 .obtain⟨cur,aw⟩:=aJ.aX k hk;exact eJ _ _ _ aw (by decide)
theorem kc.ext{av:World}{bW b3:Nat}{s:o.gI}{W b8:World}(h:kc av bW b3 s W)(e:Ext W b8):kc av bW b3 s b8:=h.move (A:=fun _=>False) e.mod (fun _ _ _ _ _ h=>h) fun _ h=>h.elim
structure mT(av:World)(s:o.gI)(x:o.dG)(nF:Fr)(w0:World)(vs:Nat->gQ)(a33:Addr)(d25 d26 d31 d32 d33:Bool)(S:Fr)(w:World):Prop where
 kB:∀t,t∉[25,26,31,32,33,34]->S t=nF t
 mod:Mod (fun k=>(cz (vs 3)).ownBlock=some k\/(cz (vs 4)).ownBlock=some k) w0 w
 rows:∃v3 v4,hU ey T.a 1 av.heap.size w 5 (dF (dF vs 3 v3) 4 v4) (dF (dF s.rows 3 (if d26 then s.L++[x.bf] else s.L)) 4 (if d32 then s.H++[x.ad] else s.H))/\(d26=false->v3=vs 3)/\(d32=false->v4=vs 4) /\
  (d26=true->S 26=cz v3)/\(d32=true->S 32=cz v4)
 Bg:d25=true->d26=false->∃b,S 25 = .slice (some ⟨b,0,none⟩) 1 1/\w0.heap.size<=b/\w.heap[b]? = some (.cells #[.int .i64 x.bf] T.a)
 E8:d31=true->d32=false->∃b,S 31 = .slice (some ⟨b,0,none⟩) 1 1/\w0.heap.size<=b/\w.heap[b]? = some (.cells #[.int .i64 x.ad] T.a)
 E9:d33=true->S 33 = .pointer (some a33)
section
variable{av w0 w:World}{s:o.gI}{x:o.dG}{nF S:Fr}{vs:Nat->gQ}{a33:Addr}{d25 d26 d31 d32 d33:Bool}{K:Value->World->Prop}
theorem mT.WO(h:mT av s x nF w0 vs a33 false false d31 d32 d33 S w)(uf:nF 24 = .int .i64 x.bf)(hk:∀v w',mT av s x nF w0 vs a33 true false d31 d32 d33 (put S (some 25) v) w'->K v w') :
  mL Tryz.prog (.dj T.a 1 1 [.int .i64 0] [(0,.tmp 24)]) S w K:=by
 have he:Ext w (w.alloc (.cells #[.int .i64 x.bf] T.a)):=(Ext.refl w).alloc _;refine Cf (KE (by rw[h.kB 24 (by decide),uf])) (hk _ _ ⟨fun t aO=>?_,h.mod.trans he.mod,?_,fun _ _=>⟨_,by simp[h6,cu],h.mod.size,heap_alloc_new w _⟩,fun a b=>?_,fun a=>by rw[h6,cu,if_neg (by decide)];exact h.E9 a⟩)
 .rw[h6,cu,if_neg (by intro e;subst e;simp at aO)];exact h.kB t aO
 .obtain⟨v3,v4,h1,U,ag,aJ,bg⟩:=h.rows;exact⟨v3,v4,h1.ext he,U,ag,fun e=>(by cases e),fun e=>by rw[h6,cu,if_neg (by decide)];exact bg e⟩
 .obtain⟨b,h1,U,ag⟩:=h.E8 a b;exact⟨b,by rw[h6,cu,if_neg (by decide)];exact h1,U,he.obj ag⟩
theorem mT.M7(h:mT av s x nF w0 vs a33 d25 d26 false false d33 S w)(adI:nF 30 = .int .i64 x.ad)(hk:∀v w',mT av s x nF w0 vs a33 d25 d26 true false d33 (put S (some 31) v) w'->K v w') :
  mL Tryz.prog (.dj T.a 1 1 [.int .i64 0] [(0,.tmp 30)]) S w K:=by
 have he:Ext w (w.alloc (.cells #[.int .i64 x.ad] T.a)):=(Ext.refl w).alloc _;refine Cf (KE (by rw[h.kB 30 (by decide),adI])) (hk _ _ ⟨fun t aO=>?_,h.mod.trans he.mod,?_,fun a b=>?_,fun _ _=>⟨_,by simp[h6,cu],h.mod.size,heap_alloc_new w _⟩,fun a=>by rw[h6,cu,if_neg (by decide)];exact h.E9 a⟩)
 .rw[h6,cu,if_neg (by intro e;subst e;simp at aO)];exact h.kB t aO
 .obtain⟨v3,v4,h1,U,ag,aJ,bg⟩:=h.rows;exact⟨v3,v4,h1.ext he,U,ag,fun e=>by rw[h6,cu,if_neg (by decide)];exact aJ e,fun e=>by cases e⟩
 .obtain⟨b,h1,U,ag⟩:=h.Bg a b;exact⟨b,by rw[h6,cu,if_neg (by decide)];exact h1,U,he.obj ag⟩
theorem mT.JK(h:mT av s x nF w0 vs a33 true false d31 d32 d33 S w)(adG:nF 22=cz (vs 3))(cv:∀i k,i<5->(cz (vs i)).ownBlock=some k->k<w0.heap.size)(aC:av.heap.size<=w0.heap.size)(hm:s.L.length<=100000)
  (hk:∀v w',mT av s x nF w0 vs a33 true true d31 d32 d33 (put S (some 26) v) w'->K v w') :
  mL Tryz.prog (.app T.c T.a 1 8 (.tmp 22) (.tmp 25)) S w K:=by
 obtain⟨b,bR,aW,bJ⟩:=h.Bg rfl rfl;obtain⟨v3,v4,h1,U,ag,aJ,bg⟩:=h.rows;obtain rfl:=U rfl;show xa Tryz.prog T.c T.a 1 8 (S 22) (S 25) w K;rw[h.kB 22 (by decide),adG,bR];have uC:=h.mod.size;refine hU.app (vs:=dF (dF vs 3 (vs 3)) 4 v4) (xs:=dF (dF s.rows 3 (if false=true then s.L++[x.bf] else s.L)) 4 (if d32=true then s.H++[x.ad] else s.H)) (y:=x.bf) 3 (by decide) h1 (fun _=>rfl) (hj bJ) mm (by simp[dF];omega) (by simp[dF];unfold maxLen;omega) (by omega) fun cf w' ba a1 _=>?_;have br:Mod (fun k=>(cz (vs 3)).ownBlock=some k) w w':=Mod.grown a1 fun k hk=>hk;refine hk _ _ ⟨fun t aO=>?_,h.mod.trans (br.I8 fun k hk=>.inl hk),?_,fun _ e=>(by cases e),fun a b=>?_,fun a=>by rw[h6,cu,if_neg (by decide)];exact h.E9 a⟩
 .rw[h6,cu,if_neg (by intro e;subst e;simp at aO)];exact h.kB t aO
 .refine⟨cf,v4,ba.congr (fun i ad=>?_) (fun i ad=>?_),fun e=>(by cases e),ag,fun _=>by simp[h6,cu],fun e=>by rw[h6,cu,if_neg (by decide)];exact bg e⟩
  .unfold dF;by_cases a:i=3
   .subst a;simp
   .simp[a]
  .unfold dF;by_cases a:i=3
   .subst a;simp
   .simp[a]
 .obtain⟨gm,h1,U,ag⟩:=h.E8 a b;exact⟨gm,by rw[h6,cu,if_neg (by decide)];exact h1,U,br.obj (fun e=>by have:=cv 3 gm (by decide) e;omega) ag⟩
theorem mT.JL(h:mT av s x nF w0 vs a33 true true true false d33 S w)(adH:nF 28=cz (vs 4))(aC:av.heap.size<=w0.heap.size)(hm:s.H.length<=100000)
  (hk:∀v w',mT av s x nF w0 vs a33 true true true true d33 (put S (some 32) v) w'->K v w') :
  mL Tryz.prog (.app T.c T.a 1 8 (.tmp 28) (.tmp 31)) S w K:=by
 obtain⟨b,bR,aW,bJ⟩:=h.E8 rfl rfl;obtain⟨v3,v4,h1,U,ag,aJ,bg⟩:=h.rows;obtain rfl:=ag rfl;show xa Tryz.prog T.c T.a 1 8 (S 28) (S 31) w K;rw[h.kB 28 (by decide),adH,bR];have uC:=h.mod.size;refine hU.app (vs:=dF (dF vs 3 v3) 4 (vs 4)) (xs:=dF (dF s.rows 3 (if true=true then s.L++[x.bf] else s.L)) 4 (if false=true then s.H++[x.ad] else s.H)) (y:=x.ad) 4 (by decide) h1 (fun _=>rfl) (hj bJ) mm (by simp[dF];omega) (by simp[dF];unfold maxLen;omega) (by omega) fun cf w' ba a1 _=>?_;have br:Mod (fun k=>(cz (vs 4)).ownBlock=some k) w w':=Mod.grown a1 fun k hk=>hk;refine hk _ _ ⟨fun t aO=>?_,h.mod.trans (br.I8 fun k hk=>.inr hk),?_,fun _ e=>(by cases e),fun _ e=>(by cases e),fun a=>by rw[h6,cu,if_neg (by decide)];exact h.E9 a⟩
 .rw[h6,cu,if_neg (by intro e;subst e;simp at aO)];exact h.kB t aO
 .refine⟨v3,cf,ba.congr (fun i ad=>?_) (fun i ad=>?_),fun e=>(by cases e),fun e=>(by cases e),fun e=>by rw[h6,cu,if_neg (by decide)];exact aJ e,fun _=>by simp[h6,cu]⟩
  .unfold dF;by_cases a:i=4
   .subst a;simp
   .simp[a]
  .unfold dF;by_cases a:i=4
   .subst a;simp
   .simp[a]
theorem mT.Oh(h:mT av s x nF w0 vs a33 d25 d26 d31 d32 d33 S w):mT av s x nF w0 vs a33 d25 d26 d31 d32 true (cm S 33 (.pointer (some a33))) w:=by
 have q:∀t,t≠33->cm S 33 (.pointer (some a33)) t=S t:=fun t aO=>by rw[cu,if_neg aO]
 refine⟨fun t aO=>?_,h.mod,?_,fun a b=>?_,fun a b=>?_,fun _=>by simp[cu]⟩
 .rw[q t (by intro e;subst e;simp at aO)];exact h.kB t aO
 .obtain⟨v3,v4,h1,U,ag,aJ,bg⟩:=h.rows;exact⟨v3,v4,h1,U,ag,fun e=>by rw[q _ (by decide)];exact aJ e,fun e=>by rw[q _ (by decide)];exact bg e⟩
 .obtain⟨gm,h1,U⟩:=h.Bg a b;exact⟨gm,by rw[q _ (by decide)];exact h1,U⟩
 .obtain⟨gm,h1,U⟩:=h.E8 a b;exact⟨gm,by rw[q _ (by decide)];exact h1,U⟩
end
end Go.Proofs.R
end
section
namespace Go.Proofs.R
open Go Go.RowKit bt
def kb(b:Nat)(w w':World):Prop := ∀j,j<3->w'.cell? (Addr.add ⟨b,0,none⟩ j)=w.cell? (Addr.add ⟨b,0,none⟩ j)
theorem kb.refl{b:Nat}{w:World}:kb b w w:=fun _ _=>rfl
theorem kb.trans{b:Nat}{w w' b1:World}(h:kb b w w')(k:kb b w' b1):kb b w b1:=fun j aR=>(k j aR).trans (h j aR)
theorem kb.of{b:Nat}{w w':World}{bP c1 c2:Value}{l uS:List Value}{t hg:TypeId}{f sN:Nat×Nat}(h:w.heap[b]? = some (.cells (bP :: c1 :: c2 :: l).toArray t f))(bF:w'.heap[b]? = some (.cells (bP :: c1 :: c2 :: uS).toArray hg sN)):kb b w w':=fun j aR=>by
 have:j=0\/j=1\/j=2:=by omega
 rcases this with rfl | rfl | rfl
 .rw[e2 h (v:=bP) rfl,e2 bF (v:=bP) rfl]
 .rw[e2 h (v:=c1) rfl,e2 bF (v:=c1) rfl]
 .rw[e2 h (v:=c2) rfl,e2 bF (v:=c2) rfl]
theorem kb.ext{b:Nat}{w w':World}(he:Ext w w')(h:b<w.heap.size):kb b w w':=fun j _=>by
 rw[add_eq];simp only[World.cell?,he.heap h]
def RN:eX:=(.take (ah 21 4 3) (.take (ae 22 21) (.take (ah 23 0 11) (.take (ae 24 23) (.take (ah 27 5 3) (.take (ae 28 27) (.take (ah 29 1 11) (.take (ae 30 29) (.alt (aG 25 (.dj T.a 1 1 [(.int .i64 0)] [(0,(ab 24))])) (.alt (aG 26 (.app T.c T.a 1 8 (ab 22) (ab 25))) (.take (ah 33 4 3) (.alt (aG 31 (.dj T.a 1 1 [(.int .i64 0)] [(0,(ab 30))])) (.b0 (aG 32 (.app T.c T.a 1 8 (ab 28) (ab 31))) (.b0 (ys 33 26) (.take (ah 34 5 3) (.b0 (ys 34 32) .done .nil)) .nil) .nil) .nil)) (.alt (aG 31 (.dj T.a 1 1 [(.int .i64 0)] [(0,(ab 30))])) (.alt (aG 26 (.app T.c T.a 1 8 (ab 22) (ab 25))) (.take (ah 33 4 3) (.b0 (aG 32 (.app T.c T.a 1 8 (ab 28) (ab 31))) (.b0 (ys 33 26) (.take (ah 34 5 3) (.b0 (ys 34 32) .done .nil)) .nil) .nil)) .nil) .nil)) (.alt (aG 31 (.dj T.a 1 1 [(.int .i64 0)] [(0,(ab 30))])) (.alt (aG 25 (.dj T.a 1 1 [(.int .i64 0)] [(0,(ab 24))])) (.alt (aG 26 (.app T.c T.a 1 8 (ab 22) (ab 25))) (.take (ah 33 4 3) (.b0 (aG 32 (.app T.c T.a 1 8 (ab 28) (ab 31))) (.b0 (ys 33 26) (.take (ah 34 5 3) (.b0 (ys 34 32) .done .nil)) .nil) .nil)) .nil) .nil) .nil))))))))))
theorem lQ{S:Fr}{n m:Nat}{v u:Value}(h:S m=u)(aE:m≠n):cm S n v m=u:=by rw[cu,if_neg aE];exact h
theorem ZW{av w:World}{bW b3 b4:Nat}{s:o.gI}{x:o.dG}{S:Fr}{c9:Fr->World->Prop}(cI:bW≠b3)(jB:bW<av.heap.size/\b3<av.heap.size)(ay:kc av bW b3 s w)(ag:S 3 = .pointer (some ⟨bW,0,none⟩))(G2:S 11 = .pointer (some ⟨b4,0,none⟩))
  (aw:w.heap[b4]? = some (.cells x.enc.toArray T.m))(hm:s.L.length<=100000)(LY:s.H.length<=100000)
  (hk:∀bh w',kc av bW b3 ⟨s.V,s.C,s.eo,s.n,s.L++[x.bf],s.H++[x.ad],s.Z⟩ w'->ep r7 w w'->kb bW w w'->c9 bh w'):∃C:World->Prop,C w/\dT Tryz.prog C RN S w c9:=by
 obtain⟨vs,u,g1,g2,g3,g4⟩:=ay.ex;have Bb:=g2.not g1 (by decide);have nU:=g2.not aw (by decide);refine⟨Mod (fun k=>(cz (vs 3)).ownBlock=some k\/(cz (vs 4)).ownBlock=some k) w,Mod.refl _ _,?_⟩;have rx:∀w',Mod (fun k=>(cz (vs 3)).ownBlock=some k\/(cz (vs 4)).ownBlock=some k) w w'->w'.heap[bW]? = some (.cells #[cz (vs 0),cz (vs 1),cz (vs 2),.int .i64 s.n,cz (vs 3),cz (vs 4)] T.g) :=
  fun w' m=>m.obj (fun h=>h.elim (Bb 3 (by decide)) (Bb 4 (by decide))) g1
 have ix:∀w',Mod (fun k=>(cz (vs 3)).ownBlock=some k\/(cz (vs 4)).ownBlock=some k) w w'->w'.heap[b4]? = some (.cells x.enc.toArray T.m) :=
  fun w' m=>m.obj (fun h=>h.elim (nU 3 (by decide)) (nU 4 (by decide))) aw
 have dm:av.heap.size<=w.heap.size:=ay.mod.size;unfold RN;refine dT.iE ag ?_;refine dT.ld (v:=cz (vs 3)) (by simp[cu];rfl) (fun w' m=>e2 (rx w' m) rfl) ?_;refine dT.iE (a:=⟨b4,0,none⟩) (by simp[cu,G2]) ?_;refine dT.ld (v:=.int .i64 x.bf) (by simp[cu];rfl) (fun w' m=>e2 (ix w' m) rfl) ?_;refine dT.iE (a:=⟨bW,0,none⟩) (by simp[cu,ag]) ?_;refine dT.ld (v:=cz (vs 4)) (by simp[cu];rfl) (fun w' m=>e2 (rx w' m) rfl) ?_;refine dT.iE (a:=⟨b4,0,none⟩) (by simp[cu,G2]) ?_;refine dT.ld (v:=.int .i64 x.ad) (by simp[cu];rfl) (fun w' m=>e2 (ix w' m) rfl) ?_;generalize x5:cm _ 30 _=vE;have bJ:vE 3 = .pointer (some ⟨bW,0,none⟩):=by subst x5;simp[cu,ag]
 have Kq:vE 22=cz (vs 3):=by subst x5;simp[cu]
 have GQ:vE 24 = .int .i64 x.bf:=by subst x5;simp[cu]
 have Kr:vE 28=cz (vs 4):=by subst x5;simp[cu]
 have Ks:vE 30 = .int .i64 x.ad:=by subst x5;simp[cu]
 have eD:∀i,vs i=dF (dF vs 3 (vs 3)) 4 (vs 4) i:=fun i=>by
  unfold dF;by_cases a:i=4
  .subst a;simp
  .by_cases b:i=3
   .subst b;simp
   .simp[a,b]
 have fC:∀i,s.rows i=dF (dF s.rows 3 (if false=true then s.L++[x.bf] else s.L)) 4 (if false=true then s.H++[x.ad] else s.H) i:=fun i=>by
  unfold dF;by_cases a:i=4
  .subst a;simp[o.gI.rows]
  .by_cases b:i=3
   .subst b;simp[o.gI.rows]
   .simp[a,b]
 have t0:mT av s x vE w vs (Addr.add ⟨bW,0,none⟩ 4) false false false false false vE w :=
  ⟨fun _ _=>rfl,Mod.refl _ _,⟨vs 3,vs 4,g2.congr (fun i ad=>eD i) (fun i ad=>fC i),
   fun _=>rfl,fun _=>rfl,fun e=>(by cases e),fun e=>(by cases e)⟩,fun e=>(by cases e),fun e=>(by cases e),fun e=>(by cases e)⟩
 have cv:∀i k,i<5->(cz (vs i)).ownBlock=some k->k<w.heap.size:=fun i k ad he=>(g2.lt i k ad he).2;have fin:∀S aU,mT av s x vE w vs (Addr.add ⟨bW,0,none⟩ 4) true true true true true S aU->dT Tryz.prog (Mod (fun k=>(cz (vs 3)).ownBlock=some k\/(cz (vs 4)).ownBlock=some k) w) (.b0 (ys 33 26) (.take (ah 34 5 3) (.b0 (ys 34 32) .done .nil)) .nil) S aU c9:=by
  intro S aU t;obtain⟨v3,v4,dH,_,_,hd,qh⟩:=t.rows;have ar:=rx aU t.mod;refine dT.xY ?_;show xv (S 33) (S 26) aU _;rw[t.E9 rfl,hd rfl];refine Oc fun rl=>K.st1 ar (by simp) rfl fun bb fT bA=>?_;show dT _ _ _ S _ _;refine dT.iE (a:=⟨bW,0,none⟩) (by rw[t.kB 3 (by decide),bJ]) ?_;refine dT.xY ?_;show xv (cm S 34 _ 34) (cm S 34 _ 32) bb _;rw[show cm S 34 (.pointer (some (Addr.add ⟨bW,0,none⟩ 5))) 34 = .pointer (some (Addr.add ⟨bW,0,none⟩ 5)) from by simp[cu],lQ (qh rfl) (by decide)];refine Oc fun rl=>K.st1 bA (by simp) rfl fun bq eu bw=>?_;have hw:=fT.trans eu;have jm:=dH.not ar (by decide);obtain⟨us,aol⟩:∃us,us=cz u:=⟨_,rfl⟩;refine hk _ _ ⟨?_,dF (dF vs 3 v3) 4 v4,u,?_,(dH.mod (hw.mod (A:=fun k=>k=bW) rfl) fun i k ad hk e=>jm i ad (by rw[<-e];exact hk)).congr (fun _ _=>rfl) (fun i ad=>?_),?_,?_⟩ ?_ ?_
  .refine(ay.mod.comp t.mod (B:=fun k=>k=bW\/k=b3) (fun _ _ a=>a) fun i ad a=>?_).trans (hw.mod (A:=fun k=>k=bW\/k=b3) (.inl rfl));rcases a with a | a
   .have:=(g2.lt 3 i (by decide) a).1;omega
   .have:=(g2.lt 4 i (by decide) a).1;omega
  .exact bw
  .have:i=0\/i=1\/i=2\/i=3\/i=4:=by omega
   rcases this with rfl | rfl | rfl | rfl | rfl<;>simp[dF,o.gI.rows]
  .exact hw.obj (t.mod.obj (fun h=>h.elim (g2.not g3 (by decide) 3 (by decide)) (g2.not g3 (by decide) 4 (by decide))) g3) (Ne.symm cI)
  .refine(g4.mod t.mod fun k hk h=>?_).mod (hw.mod (A:=fun k=>k=bW) rfl) fun k hk e=>?_
   .obtain⟨cur,gX⟩:=g4.aX k hk;exact h.elim (g2.not gX (by decide) 3 (by decide)) (g2.not gX (by decide) 4 (by decide))
   .obtain⟨cur,gX⟩:=g4.aX k hk;subst e;rw[g1] at gX;injection gX with gX;injection gX with _ e;exact absurd e (by decide)
  .refine(ep.mod t.mod fun k c hg aw a=>?_).trans (ep.wr hw ar (by decide));rcases a with a | a
   .obtain⟨cur,gX⟩:=(g2.own 3 (by decide)).aX k a;rw[aw] at gX;injection gX with gX;injection gX with _ e;rw[e];decide
   .obtain⟨cur,gX⟩:=(g2.own 4 (by decide)).aX k a;rw[aw] at gX;injection gX with gX;injection gX with _ e;rw[e];decide
  .exact kb.of g1 bw
 clear hk;refine⟨lq.e (t0.WO GQ fun v2 aU t2=>⟨t2.mod,?_,?_,trivial⟩),lq.e (t0.M7 Ks fun v2 aU t2=>⟨t2.mod,?_⟩),trivial⟩
 .refine lq.e (t2.JK Kq cv dm hm fun v3 bb t3=>⟨t3.mod,?_⟩);refine dT.iE (a:=⟨bW,0,none⟩) (by rw[t3.kB 3 (by decide),bJ]) ?_;refine dT.zx (lq.e (t3.Oh.M7 Ks fun v4 bq t4=>⟨t4.mod,?_⟩));exact dT.xY (ou.e (t4.JL Kr dm LY fun v5 bT t5=>fin _ _ t5))
 .refine lq.e (t2.M7 Ks fun v3 bb t3=>⟨t3.mod,?_⟩);refine dT.zx (lq.e (t3.JK Kq cv dm hm fun v4 bq t4=>⟨t4.mod,?_⟩));refine dT.iE (a:=⟨bW,0,none⟩) (by rw[t4.kB 3 (by decide),bJ]) ?_;exact dT.xY (ou.e (t4.Oh.JL Kr dm LY fun v5 bT t5=>fin _ _ t5))
 .refine dT.zx (lq.e (t2.WO GQ fun v3 bb t3=>⟨t3.mod,?_⟩));refine dT.zx (lq.e (t3.JK Kq cv dm hm fun v4 bq t4=>⟨t4.mod,?_⟩));refine dT.iE (a:=⟨bW,0,none⟩) (by rw[t4.kB 3 (by decide),bJ]) ?_;exact dT.xY (ou.e (t4.Oh.JL Kr dm LY fun v5 bT t5=>fin _ _ t5))
end Go.Proofs.R
end
section
namespace Go.Proofs.R
open Go Go.RowKit bt
section
variable{av:World}{bW b3:Nat}{s:o.gI}{W b8:World}
theorem akW{vs:Nat->gQ}{u:gQ}{rC lY qw:World}{y:o.Cell}{cf:Value}(cI:bW≠b3)(hm:Mod (fun k=>k=bW\/k=b3) av W)(g1:W.heap[bW]? = some (.cells #[cz (vs 0),cz (vs 1),cz (vs 2),.int .i64 s.n,cz (vs 3),cz (vs 4)] T.g))(g2:hU ey T.a 1 av.heap.size W 5 vs s.rows)
  (g3:W.heap[b3]? = some (.cells #[cz u] T.sy))(g4:bs o.Cell.slot T.v 4 av.heap.size W (cz u) s.Z)(he:Ext W rC)(a1:rC.grownBy lY (cz u).ownBlock)(ba:bs o.Cell.slot T.v 4 av.heap.size lY cf (s.Z++[y]))
  (hw:dA b3 lY qw)(aw:qw.heap[b3]? = some (.cells #[cf] T.sy)):kc av bW b3 ⟨s.V,s.C,s.eo,s.n,s.L,s.H,s.Z++[y]⟩ qw/\ep r7 W qw/\kb bW W qw:=by
 obtain⟨bm,cap,rfl,_⟩:=ba.form;have wP:Mod (fun k=>(cz u).ownBlock=some k) rC lY:=Mod.grown a1 fun k hk=>hk;have mH:∀{k:Nat} {c:Array Value} {t:TypeId},W.heap[k]? = some (.cells c t)->t≠T.v->¬(cz u).ownBlock=some k:=fun {k c t} hk aO e=>by
  obtain⟨cur,h⟩:=g4.aX k e;rw[hk] at h;injection h with h;injection h with _ h;exact aO h
 have m6:∀{k:Nat} {c:Array Value} {t:TypeId},W.heap[k]? = some (.cells c t)->t≠T.v->lY.heap[k]? = some (.cells c t):=fun hk aO=>wP.obj (mH hk aO) (he.obj hk);have sb:Mod (fun k=>k=b3) lY qw:=hw.mod rfl;refine⟨⟨?_,vs,(bm,_,cap),sb.obj cI (m6 g1 (by decide)),?_,aw,ba.mod sb fun k hk e=>?_⟩,?_,kb.of g1 (sb.obj cI (m6 g1 (by decide)))⟩
 .have h1:Mod (fun k=>k=bW\/k=b3) av rC:=hm.comp (A':=fun _=>False) he.mod (fun _ _ a=>a) fun _ _ a=>a.elim;have U:Mod (fun k=>k=bW\/k=b3) av lY:=h1.comp wP (fun _ _ a=>a) fun i ad a=>by have:=(g4.lt i a).1;omega
  exact U.trans (hw.mod (.inr rfl))
 .refine((g2.ext he).mod wP fun i k ad hk e=>?_).mod sb fun i k ad hk e=>?_
  .obtain⟨cur,h⟩:=(g2.own i ad).aX k hk;exact mH h (by decide) e
  .subst e;obtain⟨cur,h⟩:=(g2.own i ad).aX k hk;rw[g3] at h;injection h with h;injection h with _ h;exact absurd h (by decide)
 .subst e;obtain⟨cur,h⟩:=ba.aX k hk;rw[m6 g3 (by decide)] at h;injection h with h;injection h with _ h;exact absurd h (by decide)
 .refine((ep.ext he).trans (ep.mod wP fun k c t aw a=>?_)).trans (ep.wr hw (m6 g3 (by decide)) (by decide));obtain⟨cur,h⟩:=(g4.ext he).aX k a;rw[aw] at h;injection h with h;injection h with _ h;rw[h];decide
theorem abE{vs:Nat->gQ}{u:gQ}{n:Int}(cI:bW≠b3)(hm:Mod (fun k=>k=bW\/k=b3) av W)(g1:W.heap[bW]? = some (.cells #[cz (vs 0),cz (vs 1),cz (vs 2),.int .i64 s.n,cz (vs 3),cz (vs 4)] T.g))(g2:hU ey T.a 1 av.heap.size W 5 vs s.rows)
  (g3:W.heap[b3]? = some (.cells #[cz u] T.sy))(g4:bs o.Cell.slot T.v 4 av.heap.size W (cz u) s.Z)(hw:dA bW W b8)(aE:n=((s.n+1:Nat):Int))
  (aw:b8.heap[bW]? = some (.cells #[cz (vs 0),cz (vs 1),cz (vs 2),.int .i64 n,cz (vs 3),cz (vs 4)] T.g)):kc av bW b3 ⟨s.V,s.C,s.eo,s.n+1,s.L,s.H,s.Z⟩ b8/\ep r7 W b8/\kb bW W b8:=by
 subst aE;have sb:Mod (fun k=>k=bW) W b8:=hw.mod rfl;refine⟨⟨hm.trans (hw.mod (.inl rfl)),vs,u,aw,g2.mod sb fun i k ad hk e=>?_,sb.obj (Ne.symm cI) g3,g4.mod sb fun k hk e=>?_⟩,ep.wr hw g1 (by decide),kb.of g1 aw⟩
 .subst e;exact g2.not g1 (by decide) i ad hk
 .subst e;obtain⟨cur,h⟩:=g4.aX k hk;rw[g1] at h;injection h with h;injection h with _ h;exact absurd h (by decide)
end
theorem ahn(so ia:Int)(v:Value)(l:List o.dG)(oW oO oR:List Int)(cs:List o.Cell)(base:Nat)(av:World)(bW b3:Nat)(w:World)(cI:bW≠b3)(jB:bW<av.heap.size/\b3<av.heap.size)(ay:kc av bW b3 (o.gI.of oW oO oR cs) w)(aT:bs o.dG.enc T.m 3 base w v l)
  (hm:cs.length+l.length<=100000) :
  bu Tryz.prog F.lr #[.int .i64 so,.int .i64 ia,v,.pointer (some ⟨bW,0,none⟩),.pointer (some ⟨b3,0,none⟩)] w fun v w'=>v = .int .i64 cs.length/\kc av bW b3 (o.gI.of oW oO oR (cs++o.fh so ia l 0)) w'/\ep r7 w w'/\kb bW w w':=by
 obtain⟨bm,cap,rfl,_⟩:=aT.form;obtain⟨al7,IZ,g1,g2,g3,g4⟩:=ay.ex;refine bL E.lr ?_;refine bG ?_;refine aa ?_;refine K.dk 16 l.length [0,1,2,3,4,9,14,15] (fun _:Unit=>[]) () (fun k _ w'=>kc av bW b3 (o.gI.of oW oO oR (cs++o.fh so ia (l.take k) 0)) w'/\ep r7 w w'/\kb bW w w') bz bz ⟨by simpa[o.fh] using ay,ep.refl,kb.refl⟩ ?_;clear g1 g2 g3 g4 ay;rintro k _ S aU hk ⟨ay,nj,jY⟩;have kF:bE 3 (Flat o.dG.enc) aU (.slice bm l.length cap) l:=bs.jI (enc:=o.dG.enc) (fun _=>rfl) (aT.hB nj (by decide));refine aa ?_;apply K.cond<;>intro g1
 .have bp:k<l.length:=by omega
  obtain⟨a,rfl⟩:=kF.addr (by omega);have K4:(o.fh so ia (l.take k) 0).length=k:=by rw[o.th,List.length_take];omega
  have uE:=o.vK l[k];refine ee ?_;simp -dsimp only[cF];refine ee ?_;simp -dsimp only[cF];refine ee ?_;intro wn b4 fp gL fX;refine ee ?_;intro bb fT bA;have ax:=fT.ext gL fp;have h4:=ay.ext ax;clear fT gL fX;refine ee ?_;refine K.hl [0,1,2,3,4,9,10,11,14,15,16] (fun _:Unit=>[]) (fun _ w'=>kc av bW b3 ⟨oW,oO,oR,(cs++o.fh so ia (l.take k) 0).length,(cs++o.fh so ia (l.take k) 0).map (·.bf)++[l[k].bf],(cs++o.fh so ia (l.take k) 0).map (·.ad)++[l[k].ad],cs++o.fh so ia (l.take k) 0⟩ w'/\ep r7 bb w'/\kb bW bb w') ?_ ?_
  .refine aa ?_;intro bq aM;refine K.wide (ZW cI jB (h4.ext aM) (by simp[cu]) (by simp[cu]) (aM.obj bA) (by simp[o.gI.of,K4];omega) (by simp[o.gI.of,K4];omega) fun bh w' h k bx=>?_);refine aa ?_;exact⟨(),trivial,h,(ep.ext aM).trans k,(kb.ext aM (by have:=h4.mod.size;omega)).trans bx⟩
  have Hu:kb bW aU bb:=kb.ext ax (by have:=ay.mod.size;omega);clear h4;rintro _ S bq ⟨k2,Wb,Af⟩;obtain⟨vs,⟨IZ,FE,vk⟩,g1,g2,g3,g4⟩:=k2.ex;have bw:=Wb.aX _ _ _ bA (by decide);refine aa ?_;intro bT dO kX aZ cC;replace cC:bT.heap[dO]? = some (.cells (o.Cell.slot ⟨so,ia,k,l[k].bf,l[k].ad,l[k].kind⟩).toArray T.v):=cC;have eC:=g4.ext aZ;have gl:=k2.mod.size;have z2:=aZ.size;have aS:(cs++o.fh so ia (l.take k) 0).length=cs.length+k:=by rw[List.length_append,K4]
  refine K.mV (y:=⟨so,ia,k,l[k].bf,l[k].ad,l[k].kind⟩) eC cC rfl (fun _=>rfl) o.akX (by simp only[aS];omega) (by unfold maxLen;simp only[aS];omega) (by omega) fun bm n c bV dL jZ=>?_;have gq:=eC.box jZ (aZ.obj g3) (by decide);refine aa ?_;intro cc dx cU;obtain⟨jC,tg,aeR⟩:=akW cI k2.mod g1 g2 g3 g4 aZ jZ dL dx cU;dsimp only at jC;obtain⟨sn,jL,dH,dN,eb,hd⟩:=jC.ex;clear g1 g2 g3 g4 k2 eC dL jZ gq cU cC;have ajk:=dH;dsimp only[cz] at dH;refine aa ?_;intro di iJ cL;obtain⟨HQ,ahe,aeS⟩:=abE cI jC.mod ajk dN eb hd iJ (by dsimp only;omega) cL;refine aa ?_;refine⟨bp,bk,(),trivial,?_,((((nj.trans (ep.ext ax)).trans Wb).trans tg).trans ahe),((((jY.trans Hu).trans Af).trans aeR).trans aeS)⟩;rw[o.aho bp,<-List.append_assoc];have e:o.gI.of oW oO oR ((cs++o.fh so ia (l.take k) 0)++[⟨so,ia,k,l[k].bf,l[k].ad,l[k].kind⟩])=⟨oW,oO,oR,(cs++o.fh so ia (l.take k) 0).length+1,(cs++o.fh so ia (l.take k) 0).map (·.bf)++[l[k].bf],(cs++o.fh so ia (l.take k) 0).map (·.ad)++[l[k].ad],cs++o.fh so ia (l.take k) 0++[⟨so,ia,k,l[k].bf,l[k].ad,l[k].kind⟩]⟩:=by
   simp[o.gI.of,List.map_append,Nat.add_assoc]
  rw[e];exact HQ
 .refine aa ?_;rw[List.take_of_length_le (by omega)] at ay;exact⟨bk,ay,nj,jY⟩
end Go.Proofs.R
end
section
namespace bt
open Go Go.RowKit
section
variable{P:Program}{C:World->Prop}{S:Fr}{w:World}{K:Fr->World->Prop}
theorem dT.qd{d m:Nat}{r:eX}{v:Value}(ar:S m=v)(h:dT P C r (cm S d v) w K):dT P C (.take ⟨some d,none,.p (.qd (.tmp m))⟩ r) S w K:=by subst ar;exact h
theorem lq.c{i:pC}{d:Nat}{k:Fr->World->Prop}(h:rn P i S w fun v w'=>C w'/\k (put S (some d) v) w'):lq P C ⟨some d,none,.c i⟩ S w k:=h
end
end bt
namespace o
def gI.add(s:gI)(off:Nat)(y:Int):gI:=if off=0 then { s with V:=s.V++[y] } else if off=1 then { s with C:=s.C++[y] } else { s with eo:=s.eo++[y] }
end o
namespace Go.Proofs.R
open Go Go.RowKit bt
def R7(n x y off:Nat)(so:Int):eX :=
 (.take (ah n off 4) (.take (ae (n+1) n) (.take (I (n+2) 6) (.take (I (n+3) x) (.take (I (n+4) y)
 (.alt (dd (n+5) (.val (ab (n+2)) [(aj so),(ab (n+3)),(ab (n+4))]))
 (.alt (aG (n+6) (.dj T.a 1 1 [(.int .i64 0)] [(0,(ab (n+5)))]))
 (.b0 (aG (n+7) (.app T.c T.a 1 8 (ab (n+1)) (ab (n+6))))
 (.take (ah (n+8) off 4) (.b0 (ys (n+8) (n+7)) .done .nil)) .nil) .nil) .nil))))))
theorem JY{av w:World}{bW b3 n x y off base:Nat}{so ia:Int}{mc:Value}{l:List o.dG}{oW oO oR:List Int}{cs:List o.Cell}{S:Fr}{c9:Fr->World->Prop}(L4:off<3)(aE:20<=n)(ar:x<20)(b2:y<20)
  (cI:bW≠b3)(jB:bW<av.heap.size/\b3<av.heap.size)(aJ:S 4 = .pointer (some ⟨bW,0,none⟩))(bS:S 6 = .func (.func F.lr) #[] #[.pointer (some ⟨bW,0,none⟩),.pointer (some ⟨b3,0,none⟩)])(ta:S x = .int .i64 ia)(MC:S y=mc)
  (ay:kc av bW b3 (o.gI.of oW oO oR cs) w)(aT:bs o.dG.enc T.m 3 base w mc l)(hm:cs.length+l.length<=100000)(a6:oW.length<=100000/\oO.length<=100000/\oR.length<=100000)
  (hk:∀bh w',(∀t,t<n\/n+8<t->bh t=S t)->kc av bW b3 ((o.gI.of oW oO oR (cs++o.fh so ia l 0)).add off cs.length) w'->ep r7 w w'->c9 bh w'):∃C:World->Prop,C w/\dT Tryz.prog C (R7 n x y off so) S w c9:=by
 obtain⟨vs,u,g1,g2,g3,g4⟩:=ay.ex;have bP:w.cell? (Addr.add ⟨bW,0,none⟩ off)=some (cz (vs off)):=by
  have:off=0\/off=1\/off=2:=by omega
  rcases this with rfl | rfl | rfl<;>exact e2 g1 rfl
 refine⟨fun w'=>w'.cell? (Addr.add ⟨bW,0,none⟩ off)=some (cz (vs off)),bP,?_⟩;unfold R7;refine dT.iE aJ ?_;refine dT.ld (v:=cz (vs off)) (by simp[cu]) (fun w' m=>m) ?_;refine dT.qd (lQ (lQ bS (by omega)) (by omega)) ?_;refine dT.qd (lQ (lQ (lQ ta (by omega)) (by omega)) (by omega)) ?_;refine dT.qd (lQ (lQ (lQ (lQ MC (by omega)) (by omega)) (by omega)) (by omega)) ?_;generalize ow:cm _ (n+4) _=qu;have ac0:∀t,t<n\/n+8<t->qu t=S t:=by
  subst ow;intro t aO;simp only[cu];rw[if_neg (by omega),if_neg (by omega),if_neg (by omega),if_neg (by omega),if_neg (by omega)]
 have bZ:qu 4 = .pointer (some ⟨bW,0,none⟩):=by subst ow;exact lQ (lQ (lQ (lQ (lQ aJ (by omega)) (by omega)) (by omega)) (by omega)) (by omega)
 have f1:qu (n+1)=cz (vs off):=by subst ow;simp[cu]
 have f2:qu (n+2) = .func (.func F.lr) #[] #[.pointer (some ⟨bW,0,none⟩),.pointer (some ⟨b3,0,none⟩)]:=by subst ow;simp[cu]
 have f3:qu (n+3) = .int .i64 ia:=by subst ow;simp[cu]
 have f4:qu (n+4)=mc:=by subst ow;simp[cu]
 refine dT.zx (lq.c ?_);show za _ (qu (n+2)) [.int .i64 so,qu (n+3),qu (n+4)] w _;rw[f2,f3,f4];refine JX (first:=[]) (cap:=[.pointer (some ⟨bW,0,none⟩),.pointer (some ⟨b3,0,none⟩)]) (by kernel_rfl) (ahn so ia mc l oW oO oR cs base av bW b3 w cI jB ay aT hm) ?_;rintro _ aU ⟨rfl,ez,nj,jY⟩;refine⟨(jY off L4).trans bP,?_⟩;refine dT.zx (lq.e ?_);have he:Ext aU (aU.alloc (.cells #[.int .i64 cs.length] T.a)):=(Ext.refl aU).alloc _;rw[ab6];refine Cf (cs:=[.int .i64 cs.length]) (KE (by simp[h6,cu])) ?_;refine⟨he.cell ((jY off L4).trans bP),?_⟩;have bA:=heap_alloc_new aU (.cells #[.int .i64 cs.length] T.a);have bQ:=he.cell ((jY off L4).trans bP);have h4:=ez.ext he;have Wa:ep r7 w (aU.alloc (.cells #[.int .i64 cs.length] T.a)):=nj.trans (ep.ext he);show dT _ _ _ _ (aU.alloc (.cells #[.int .i64 cs.length] T.a)) _;generalize aU.alloc (.cells #[.int .i64 cs.length] T.a)=bb at bA bQ h4 Wa;clear he g1 g2 g3 g4;obtain⟨sn,jL,g1,g2,g3,g4⟩:=h4.ex;have acr:cz (vs off)=cz (sn off):=by
  have:off=0\/off=1\/off=2:=by omega
  rcases this with rfl | rfl | rfl
  .rw[e2 g1 (v:=cz (sn 0)) rfl] at bQ;exact(Option.some.inj bQ).symm
  .rw[e2 g1 (v:=cz (sn 1)) rfl] at bQ;exact(Option.some.inj bQ).symm
  .rw[e2 g1 (v:=cz (sn 2)) rfl] at bQ;exact(Option.some.inj bQ).symm
 refine dT.xY (ou.e ?_);rw[ab5];unfold ab;rw[fu,fu];rw[show ∀a b,put (put qu (some (n+5)) a) (some (n+6)) b (n+1)=cz (sn off) from fun a b=>by rw[h6,h6,<-acr];exact lQ (lQ f1 (by omega)) (by omega),
  show ∀a b,put (put qu (some (n+5)) a) (some (n+6)) b (n+6)=b from fun a b=>by rw[h6,h6,cu,if_pos rfl]]
 have gl:=h4.mod.size;have hlen:((o.gI.of oW oO oR (cs++o.fh so ia l 0)).rows off).length<=100000:=by
  have:off=0\/off=1\/off=2:=by omega
  rcases this with rfl | rfl | rfl
  .exact a6.1
  .exact a6.2.1
  .exact a6.2.2
 refine hU.app (y:=(cs.length:Int)) off (by omega) g2 (fun _=>rfl) (hj bA) mm (by omega) (by unfold maxLen;omega) (by omega) fun cf bq fr pf _=>?_;have m4:Mod (fun k=>(cz (sn off)).ownBlock=some k) bb bq:=Mod.grown pf fun k hk=>hk;have mH:∀{k:Nat} {c:Array Value} {t:TypeId},bb.heap[k]? = some (.cells c t)->t≠T.a->bq.heap[k]? = some (.cells c t):=fun hk aO=>m4.obj (g2.not hk aO off (by omega)) hk;refine dT.iE (a:=⟨bW,0,none⟩) (by rw[h6,h6,h6];exact lQ (lQ (lQ bZ (by omega)) (by omega)) (by omega)) ?_;refine dT.xY ?_;show xv (cm _ (n+8) _ (n+8)) (cm (put _ (some (n+7)) _) (n+8) _ (n+7)) bq _;rw[show ∀(S:Fr) v,cm S (n+8) v (n+8)=v from fun S v=>by rw[cu,if_pos rfl],show ∀(S:Fr) a b,cm (put S (some (n+7)) a) (n+8) b (n+7)=a from fun S a b=>by rw[h6,cu,if_neg (by omega),cu,if_pos rfl]];have cN:=mH g1 (by decide);refine Oc fun rl=>K.st1 cN (by simp;omega) rfl fun bT e0 cC=>?_;have sb:Mod (fun k=>k=bW) bq bT:=e0.mod rfl;refine hk _ _ (fun t aO=>?_) ⟨?_,dF sn off cf,jL,?_,(fr.mod sb fun i k ad aD e=>?_).congr (fun _ _=>rfl) (fun i ad=>?_),?_,?_⟩ ?_
 .simp only[h6,Xh,cu];rw[if_neg (by omega),if_neg (by omega),if_neg (by omega),if_neg (by omega)];exact ac0 t aO
 .refine(h4.mod.comp m4 (B:=fun k=>k=bW\/k=b3) (fun _ _ a=>a) fun i ad a=>?_).trans (e0.mod (A:=fun k=>k=bW\/k=b3) (.inl rfl))
  have:=(g2.lt off i (by omega) a).1;omega
 .rw[cC]
  have:off=0\/off=1\/off=2:=by omega
  rcases this with rfl | rfl | rfl<;>rfl
 .subst e;exact fr.not cN (by decide) i ad aD
 .have a:off=0\/off=1\/off=2:=by omega
  have b:i=0\/i=1\/i=2\/i=3\/i=4:=by omega
  rcases a with rfl | rfl | rfl<;>rcases b with rfl | rfl | rfl | rfl | rfl<;>rfl
 .exact e0.obj (mH g3 (by decide)) (Ne.symm cI)
 .have sM:((o.gI.of oW oO oR (cs++o.fh so ia l 0)).add off cs.length).Z=(o.gI.of oW oO oR (cs++o.fh so ia l 0)).Z:=by unfold o.gI.add; (repeat' split)<;>rfl
  rw[sM];refine(g4.mod m4 fun k hk h=>?_).mod sb fun k hk e=>?_
  .obtain⟨cur,gX⟩:=g4.aX k hk;exact g2.not gX (by decide) off (by omega) h
  .obtain⟨cur,gX⟩:=g4.aX k hk;subst e;rw[g1] at gX;injection gX with gX;injection gX with _ e;exact absurd e (by decide)
 .refine(Wa.trans (ep.mod m4 fun k c hg aw a=>?_)).trans (ep.wr e0 cN (by decide));obtain⟨cur,gX⟩:=(g2.own off (by omega)).aX k a;rw[aw] at gX;injection gX with gX;injection gX with _ e;rw[e];decide
end Go.Proofs.R
end
section
namespace bt
open Go Go.RowKit
theorem bs.Gw{α:Type}{enc:α->List Value}{e:TypeId}{sz base b n:Nat}{w:World}{cs:List Value}(xs:List α)(h:w.heap[b]? = some (.cells cs.toArray e))(aC:base<=b)(gA:cs=xs.flatMap enc)(dm:∀x,(enc x).length=sz)(aE:n=xs.length)(hm:xs.length<=maxLen):bs enc e sz base w (.slice (some ⟨b,0,none⟩) n n) xs:=by
 subst aE;have aS:cs.length=xs.length*sz:=by rw[gA,xX dm]
 exact⟨by rw[xX dm],.inr ⟨b,xs.length,cs.toArray,rfl,aC,h,Nat.le_refl _,hm,by simpa using aS,by simp only;rw[<-aS,List.take_length,gA]⟩⟩
theorem K.Z4{P:Program}{c9:Value->World->Prop}{α:Type}{enc:α->List Value}{e:TypeId}{sz base:Nat}{w:World}{v:Value}{xs:List α}{ty:TypeId}{hW b:Nat}{y:α}{cs:List Value}{t}(ay:bs enc e sz base w v xs)(aw:w.heap[b]? = some (.cells cs.toArray e))(gA:cs=enc y)(dm:∀x,(enc x).length=sz)(h1:∀y,∀u∈enc y,u.oneCell'=true)
  (aC:(xs.length+1)*hW<=140737488355328)(ki:xs.length+1<=maxLen)(jx:base<=w.heap.size)
  (hk:∀bm n c w',bs enc e sz base w' (.slice bm n c) (xs++[y])->w.grownBy w' v.ownBlock->((Value.slice bm n c).ownBlock=v.ownBlock\/(Value.slice bm n c).ownBlock=some w.heap.size)->c9 (.slice bm n c) w'):lf P ty e sz hW v (.slice (some ⟨b,0,none⟩) 1 1) w c9 t:=by
 refine K.vH (ys:=[y]) ay dm (by subst gA;simpa using hj aw) rfl h1 aC ki jx fun cf w' ba a1 kj=>?_;obtain⟨bm,cap,rfl,_⟩:=ba.form;exact hk _ _ _ _ ba a1 kj
end bt
namespace o
open Go Go.RowKit bt
structure jr(w:World)(cs:List Value)(x:vy):Prop where
 ex:∃v0 v1 v2 v3 v4,cs=[v0,v1,v2,.int .i64 x.cells,v3,v4]/\bE 1 (Flat ey) w v0 x.vars/\bE 1 (Flat ey) w v1 x.aL/\bE 1 (Flat ey) w v2 x.insts/\bE 1 (Flat ey) w v3 x.bf/\bE 1 (Flat ey) w v4 x.ad
theorem jr.ext{w w':World}{cs:List Value}{x:vy}(he:Ext w w')(h:jr w cs x):jr w' cs x :=
 let ⟨v0,v1,v2,v3,v4,e,ak,h1,U,ag,aJ⟩:=h.ex
 ⟨v0,v1,v2,v3,v4,e,ak.ext Flat.ext he,h1.ext Flat.ext he,U.ext Flat.ext he,ag.ext Flat.ext he,aJ.ext Flat.ext he⟩
theorem jr.form{w:World}{cs:List Value}{x:vy}(h:jr w cs x):∃cy bP b9 c1 ck c2 cn bQ cB bX,cs=[.slice cy x.vars.length bP,.slice b9 x.aL.length c1,.slice ck x.insts.length c2,.int .i64 x.cells,.slice cn x.bf.length bQ,.slice cB x.ad.length bX] /\
  bE 1 (Flat ey) w (.slice cy x.vars.length bP) x.vars/\bE 1 (Flat ey) w (.slice b9 x.aL.length c1) x.aL/\bE 1 (Flat ey) w (.slice ck x.insts.length c2) x.insts/\bE 1 (Flat ey) w (.slice cn x.bf.length bQ) x.bf/\bE 1 (Flat ey) w (.slice cB x.ad.length bX) x.ad:=by
 obtain⟨v0,v1,v2,v3,v4,rfl,ak,h1,U,ag,aJ⟩:=h.ex;obtain⟨cy,bP,rfl,_⟩:=ak.form;obtain⟨b9,c1,rfl,_⟩:=h1.form;obtain⟨ck,c2,rfl,_⟩:=U.form;obtain⟨cn,bQ,rfl,_⟩:=ag.form;obtain⟨cB,bX,rfl,_⟩:=aJ.form;exact⟨cy,bP,b9,c1,ck,c2,cn,bQ,cB,bX,rfl,ak,h1,U,ag,aJ⟩
theorem I3{v:Var}{s:List Scalar}(h:B5 v s)(ay:s.length<=2):0<=v.scalar/\v.scalar<=2:=by
 rcases h.fI with e | e
 .omega
 .unfold size at e;split at e
  .rename_i x ar
   have:=(List.getElem?_eq_some_iff.1 ar).1
   split at e<;>omega
  .exact absurd rfl e
theorem J5{v:dr}{s:List Scalar}(h:BJ v s)(ay:s.length<=2):0<=v.scalar/\v.scalar<=2:=by
 rcases h.fI with e | e
 .omega
 .unfold size at e;split at e
  .rename_i x ar
   have:=(List.getElem?_eq_some_iff.1 ar).1
   split at e<;>omega
  .exact absurd rfl e
theorem IY(m:Model)(h:eN m)(k:Nat):total ((cV m).take k)<=64:=by
 have h1:=Ig h;have U:=h.cells;have ag:=Ec m;have e:total (cV m)=total ((cV m).take k)+total ((cV m).drop k):=by rw[<-Fz,List.take_append_drop]
 omega
theorem Oq(m:Model)(h:eN m)(k:Nat):total (cV m)+total ((dw m).take k)<=64:=by
 have h1:=Ig h;have U:=h.cells;have ag:=Ec m;have e:total (dw m)=total ((dw m).take k)+total ((dw m).drop k):=by rw[<-Fz,List.take_append_drop]
 omega
theorem YG(m:Model)(h:eN m)(k:Nat):total (cV m)+total (dw m)+total ((fc m).take k)<=64:=by
 have h1:=Ig h;have U:=h.cells;have ag:=Ec m;have e:total (fc m)=total ((fc m).take k)+total ((fc m).drop k):=by rw[<-Fz,List.take_append_drop]
 omega
end o
namespace Go.Proofs.R
open Go Go.RowKit bt
theorem ahv(cs:List Value)(m:o.Model)(w:World)(h:o.dY w cs m)(a1:m.cQ)(br:o.eN m) :
  bu Tryz.prog F.d6 #[.agg cs.toArray] w fun v w'=>(∃xs u,v = .tuple #[.agg xs.toArray,u]/\eF w (fun w=>o.jr w xs (o.layout m)) w'/\eF w (fun w=>bE 4 (Flat o.Cell.slot) w u (o.cb m)) w')/\Ext w w':=by
 obtain⟨cy,bP,b9,c1,ck,c2,cn,bQ,cB,bX,rfl,ak,h1,U,ag,aJ,eM,ej,ev,ea,ew⟩:=h.form;have hJ:=br.hJ;refine bL E.d6 ?_;refine bG ?_;refine aa ?_;intro I6 bC cR p4 aq;have dH:=cG aq;refine aa ?_;intro I7 cp dR pb aQ;have dN:=cG aQ;replace aq:=pb.obj aq;refine aa ?_;intro w8 bW nc mA jz;have apn:=cG jz;replace aq:=mA.obj aq;replace aQ:=mA.obj aQ;refine aa ?_;intro av b3 anK pc gA;have apm:=cG gA;replace aq:=pc.obj aq;replace aQ:=pc.obj aQ;replace jz:=pc.obj jz;have kN:=p4.size;have kv:=pb.size;have y5:=mA.size;have y6:=pc.size;have bR:=((p4.trans pb).trans mA).trans pc;clear p4 pb mA pc;have cI:bW≠b3:=by omega
 have jB:bW<av.heap.size/\b3<av.heap.size:=⟨by omega,by omega⟩;have jn:kc av bW b3 (o.gI.of [] [] [] []) av:=⟨Mod.refl _ _,fun _=>(none,0,0),(none,0,0),jz,⟨fun i ad=>by
   have e:(o.gI.of [] [] [] []).rows i=[]:=by unfold o.gI.rows; (repeat' split)<;>rfl
   rw[e];exact bs.nil _ _ _ _ _,fun i j k _ _ _ e=>by cases e⟩,gA,bs.nil _ _ _ _ _⟩
 have kq:∀{s W},kc av bW b3 s W->W.heap[bC]? = av.heap[bC]? := fun h=>h.mod.block _ (by omega) (by omega);have gT:∀{s W},kc av bW b3 s W->W.heap[cp]? = av.heap[cp]? := fun h=>h.mod.block _ (by omega) (by omega);have fS:∀{s W},kc av bW b3 s W->Ext w W:=fun h=>h.mod.ext bR fun i ad e=>by omega
 rw[aq] at kq;rw[aQ] at gT;refine aa ?_;refine K.dk 24 m.vars.length [1,2,4,5,6,22,23] (fun _:Unit=>[]) () (fun k _ W=>kc av bW b3 (o.gI.of (o.hq 0 ((o.cV m).take k)) [] [] (o.cellsOf 1 ((o.cV m).take k) 0)) W) bz bz (by simpa[o.hq,o.cellsOf] using jn) ?_;clear jn jz gA aq aQ;rintro k _ S aU hk ay;have aq:=kq ay;have c6:=fS ay;refine aa ?_;apply K.cond<;>intro g1
 .have bp:k<m.vars.length:=by omega
  obtain⟨a,rfl⟩:=h1.addr (by omega);have ei:=((h1.at k bp).cells).ext c6;have dq:=br.var _ (List.getElem_mem bp);have k3:=o.I3 dq hJ.1;refine aa ?_;intro wn kU qM gL fX;refine aa ?_;intro bb fT bA;have ax:Ext aU bb:=fT.ext gL qM;replace bA:bb.heap[kU]? = some (.cells m.vars[k].enc.toArray T.i):=bA;replace aq:=ax.obj aq;clear fT gL fX ei;have fj:=c6.trans ax;refine aa ?_;refine K.call (GB m.vars[k] _ m.scalars bb (ak.ext fj)) ?_;rintro _ bq ⟨rfl,aM⟩;have eZ:=o.tN m.vars[k] m.scalars;have en:=fj.trans aM;have qN:=aM.obj aq;have aev:=aM.obj bA;refine aa ?_;refine K.dk 33 (o.cells m.vars[k] m.scalars).toNat [1,2,4,5,6,7,8,22,23,24,32] (fun v:gQ=>[(9,.slice v.1 v.2.1 v.2.2)]) (none,0,0) (fun j v W=>Ext bq W/\bs o.dG.enc T.m 3 bq.heap.size W (.slice v.1 v.2.1 v.2.2) (List.replicate j (o.fb m.vars[k].scalar m.vars[k].bf m.vars[k].ad m.scalars))) bz bz ⟨Ext.refl _,bs.nil _ _ _ _ _⟩ ?_;clear aq bA;rintro j v S bT aR ⟨aZ,eC⟩;have aq:=aZ.obj qN;have bA:=aZ.obj aev;refine aa ?_;apply K.cond<;>intro g2
  .have eL:j<(o.cells m.vars[k] m.scalars).toNat:=by omega
   refine aa ?_;refine K.call (MZ m.vars[k] _ m.scalars bT (ak.ext (en.trans aZ)) (by unfold o.eG;omega)) ?_;rintro _ bV ⟨rfl,a8⟩;have uE:=o.vK (o.fb m.vars[k].scalar m.vars[k].bf m.vars[k].ad m.scalars);refine aa ?_;intro cc aan anD bM cU;replace cU:cc.heap[aan]? = some (.cells (o.fb m.vars[k].scalar m.vars[k].bf m.vars[k].ad m.scalars).enc.toArray T.m):=cU;have et:=eC.ext (a8.trans bM);have Hx:=(aZ.trans a8).trans bM;have aS:(List.replicate j (o.fb m.vars[k].scalar m.vars[k].bf m.vars[k].ad m.scalars)).length=j:=List.length_replicate;refine K.mV (y:=o.fb m.vars[k].scalar m.vars[k].bf m.vars[k].ad m.scalars) et cU rfl (fun _=>rfl) o.vK (by rw[aS];omega) (by rw[aS];unfold maxLen;omega) Hx.size fun bm n c di iU HE=>?_;refine aa ?_;exact⟨eL,bk,(bm,n,c),bz,et.mq Hx HE (Nat.le_refl _),by rw[List.replicate_succ'];exact iU⟩
  .have kZ:j=(o.cells m.vars[k] m.scalars).toNat:=by omega
   have uG:=ay.ext ((ax.trans aM).trans aZ);replace eC:bs o.dG.enc T.m 3 bq.heap.size bT (.slice v.1 v.2.1 v.2.2) (o.y2 m.scalars m.vars[k]):=by rw[kZ] at eC;exact eC
   have fX:=o.ke 1 ((o.cV m).take k) 0;have r0:=o.IY m br k;refine aa ?_;intro bV a8;refine K.wide (JY (n:=43) (x:=7) (y:=9) (off:=0) (so:=1) (by decide) (by decide) (by decide) (by decide) cI jB (by simp[cu]) (by simp[cu]) (by simp[cu];rfl) (by simp[cu]) (uG.ext a8) (eC.ext a8) (by rw[fX,o.BA];omega) ⟨by rw[o.tw,List.length_take];omega,by simp,by simp⟩ fun bh cc aK cj wJ=>?_);have uf:bh 24 = .int .i64 k:=by rw[aK 24 (by decide)];simp[cu]
   refine aa ?_;rw[uf];refine aa ?_;refine⟨bp,bk,(),trivial,?_⟩;have aT:k<(o.cV m).length:=by simpa[o.cV] using bp
   have e:(o.cV m)[k]=o.y2 m.scalars m.vars[k]:=by simp[o.cV]
   rw[List.take_succ_eq_append_getElem aT,e,o.IU,o.xL];have aW:(0+((o.cV m).take k).length:Nat)=k:=by rw[List.length_take];omega
   rw[aW,Nat.zero_add,<-fX];exact cj
 have l5:m.vars.length<=k:=by omega
 rw[List.take_of_length_le (by simpa[o.cV] using l5)] at ay;have Ot:=o.IY m br m.vars.length;rw[List.take_of_length_le (by simp[o.cV])] at Ot;refine aa ?_;refine K.dk 56 m.aL.length [1,2,4,5,6,54,55] (fun _:Unit=>[]) () (fun k _ W=>kc av bW b3 (o.gI.of (o.hq 0 (o.cV m)) (o.hq (o.total (o.cV m)) ((o.dw m).take k)) [] (o.cellsOf 1 (o.cV m) 0++o.cellsOf 2 ((o.dw m).take k) 0)) W) bz bz (by simpa[o.hq,o.cellsOf] using ay) ?_;clear ay aq c6;rintro k _ S aU hk ay;have aq:=kq ay;have c6:=fS ay;refine aa ?_;apply K.cond<;>intro g2
 .have bp:k<m.aL.length:=by omega
  obtain⟨a,rfl⟩:=U.addr (by omega);have ei:=((U.at k bp).cells).ext c6;have dq:=br.chan _ (List.getElem_mem bp);have k3:=o.J5 dq hJ.1;have ij:=dq.cap;refine aa ?_;intro wn vI De gL fX;refine aa ?_;intro bb fT bA;have ax:Ext aU bb:=fT.ext gL De;replace bA:bb.heap[vI]? = some (.cells m.aL[k].enc.toArray T.r):=bA;replace aq:=ax.obj aq;clear fT gL fX ei;have Lc:=aq;have aew:=bA;have fj:=c6.trans ax;refine aa ?_;intro bq Gu aeh aM Dl;replace Dl:bq.heap[Gu]? = some (.cells ([(⟨0,m.aL[k].cap,0⟩:o.dG)].flatMap o.dG.enc).toArray T.m):=Dl;have fr:bs o.dG.enc T.m 3 bb.heap.size bq (.slice (some ⟨Gu,0,none⟩) 1 1) [(⟨0,m.aL[k].cap,0⟩:o.dG)]:=bs.Gw _ Dl aeh rfl (fun _=>rfl) rfl (by simp[maxLen]);replace aq:=aM.obj aq;replace bA:=aM.obj bA;have en:=fj.trans aM;have T4:=Dl;clear Dl;refine aa ?_;refine K.call (MZ ⟨⟨#[]⟩,m.aL[k].scalar,0,min m.aL[k].bf 0,max m.aL[k].ad 0,0⟩ _ m.scalars bq (ak.ext en) (by unfold o.eG;simp only;omega)) ?_;rintro _ bT ⟨rfl,aZ⟩;have uE:=o.vK (o.fb m.aL[k].scalar (min m.aL[k].bf 0) (max m.aL[k].ad 0) m.scalars);refine aa ?_;intro bV pP Df a8 jj;replace jj:bV.heap[pP]? = some (.cells (o.kf m.scalars m.aL[k]).enc.toArray T.m):=jj;replace aq:=(aZ.trans a8).obj aq;replace bA:=(aZ.trans a8).obj bA;have dL:=fr.ext (aZ.trans a8);have aeW:=(aM.trans aZ).trans a8;clear fr;refine aa ?_;have anx:Gu<pP:=by have:=cG T4;have:=aZ.size;omega
  refine K.dk 79 m.aL[k].cap.toNat [1,2,4,5,6,10,11,13,54,55,56,78] (fun v:gQ=>[(12,.slice v.1 v.2.1 v.2.2)]) (some ⟨Gu,0,none⟩,1,1) (fun j v W=>Ext bb W/\W.heap[pP]? = bV.heap[pP]? /\ bs o.dG.enc T.m 3 bb.heap.size W (.slice v.1 v.2.1 v.2.2) (⟨0,m.aL[k].cap,0⟩ :: List.replicate j (o.kf m.scalars m.aL[k]))/\(Value.slice v.1 v.2.1 v.2.2).ownBlock≠some pP) bz bz ⟨aeW,rfl,dL,by simp[Value.ownBlock];omega⟩ ?_;rw[jj];have apX:=cG jj;clear aq bA jj dL T4;rintro j v S cc aR ⟨HA,jj,et,gZ⟩;have aq:=HA.obj Lc;have bA:=HA.obj aew;refine aa ?_;apply K.cond<;>intro g3
  .have eL:j<m.aL[k].cap.toNat:=by omega
   have uE:=o.vK (o.kf m.scalars m.aL[k]);refine aa ?_;intro di aao anE bY Lg;replace Lg:di.heap[aao]? = some (.cells (o.kf m.scalars m.aL[k]).enc.toArray T.m):=Lg;have iU:=et.ext bY;have aS:((⟨0,m.aL[k].cap,0⟩:o.dG) :: List.replicate j (o.kf m.scalars m.aL[k])).length=j+1:=by simp
   have Ut:=HA.trans bY;have z138:=cG (bY.obj jj);refine K.Z4 (y:=o.kf m.scalars m.aL[k]) iU Lg rfl (fun _=>rfl) o.vK (by rw[aS];omega) (by rw[aS];unfold maxLen;omega) Ut.size fun bm n c dX jl UC kj=>?_;have qT:dX.heap[pP]? = _:=(Mod.grown (A:=fun i=>(Value.slice v.1 v.2.1 v.2.2).ownBlock=some i) UC fun k hk=>hk).obj gZ (bY.obj jj);refine aa ?_;refine⟨eL,bk,(bm,n,c),bz,iU.mq Ut UC (Nat.le_refl _),qT,by rw[List.replicate_succ'];exact jl,fun e=>?_⟩;rcases kj with a | a
   .exact gZ (a.symm.trans e)
   .rw[a] at e;injection e with e;omega
  .have kZ:j=m.aL[k].cap.toNat:=by omega
   have jC:=ay.ext (ax.trans HA);replace et:bs o.dG.enc T.m 3 bb.heap.size cc (.slice v.1 v.2.1 v.2.2) (o.mj m.scalars m.aL[k]):=by rw[kZ] at et;exact et
   have fX:=o.ke 1 (o.cV m) 0;have Lr:=o.ke 2 ((o.dw m).take k) 0;have hlen:(o.cellsOf 1 (o.cV m) 0++o.cellsOf 2 ((o.dw m).take k) 0).length=o.total (o.cV m)+o.total ((o.dw m).take k):=by rw[List.length_append,fX,Lr]
   have r0:=o.Oq m br k;refine aa ?_;intro di bY;refine K.wide (JY (n:=86) (x:=10) (y:=12) (off:=1) (so:=2) (by decide) (by decide) (by decide) (by decide) cI jB (by simp[cu]) (by simp[cu]) (by simp[cu];rfl) (by simp[cu]) (jC.ext bY) (et.ext bY) (by rw[hlen,o.tO];omega) ⟨by rw[o.tw];simp[o.cV];omega,by rw[o.tw,List.length_take];omega,by simp⟩ fun bh cc aK cj wJ=>?_);have uf:bh 56 = .int .i64 k:=by rw[aK 56 (by decide)];simp[cu]
   refine aa ?_;rw[uf];refine aa ?_;refine⟨bp,bk,(),trivial,?_⟩;have aT:k<(o.dw m).length:=by simpa[o.dw] using bp
   have e:(o.dw m)[k]=o.mj m.scalars m.aL[k]:=by simp[o.dw]
   rw[List.take_succ_eq_append_getElem aT,e,o.IU,o.xL];have aW:(0+((o.dw m).take k).length:Nat)=k:=by rw[List.length_take];omega
   rw[aW,<-List.append_assoc,<-hlen];exact cj
 have qQ:m.aL.length<=k:=by omega
 rw[List.take_of_length_le (by simpa[o.dw] using qQ)] at ay;have alz:=o.Oq m br m.aL.length;rw[List.take_of_length_le (by simp[o.dw])] at alz;refine aa ?_;refine K.call (AA _ m aU (h.ext c6) a1) ?_;rintro cx pA ⟨fB,sZ⟩;obtain⟨cS,ci,rfl,_⟩:=fB.form;have DW:=ay.ext sZ;have qP:(o.insts m).length<=30:=by have:=o.uM m;have:=br.procs;omega
 refine aa ?_;refine K.dk 99 (o.insts m).length [1,2,4,5,6,97,98] (fun _:Unit=>[]) () (fun k _ W=>kc av bW b3 (o.gI.of (o.hq 0 (o.cV m)) (o.hq (o.total (o.cV m)) (o.dw m)) (o.hq (o.total (o.cV m)+o.total (o.dw m)) ((o.fc m).take k)) (o.cellsOf 1 (o.cV m) 0++o.cellsOf 2 (o.dw m) 0++o.cellsOf 3 ((o.fc m).take k) 0)) W/\ep r7 pA W) bz bz ⟨by simpa[o.hq,o.cellsOf] using DW,ep.refl⟩ ?_;clear ay DW aq c6;rintro k _ S aU hk ⟨ay,nj⟩;have aq:=kq ay;have c6:=fS ay;have eU:lV aU (.slice cS (o.insts m).length ci) (o.insts m):=bs.jI (enc:=o.c7.enc) (fun _=>rfl) (fB.hB nj (by decide));refine aa ?_;apply K.cond<;>intro g3
 .have bp:k<(o.insts m).length:=by omega
  obtain⟨lp,rfl⟩:=eU.addr (by omega);have yn:=o.r2 _ (List.getElem_mem bp);obtain⟨p,aN,hL,sT⟩:=o.D5 yn;have dq:=br.proc _ (List.getElem_mem aN);have UW:=dq.cw;have s0:=dq.hJ.1;refine aa ?_;intro wn xC Dg gL fX;refine aa ?_;intro bb fT bA;have ax:Ext aU bb:=fT.ext gL Dg;replace bA:bb.heap[xC]? = some (.cells #[.int .i64 p,.int .i64 (o.insts m)[k].elem] T.k):=by rw[<-hL];exact bA
  replace aq:=ax.obj aq;clear fT gL fX eU;have fj:=c6.trans ax;obtain⟨a,rfl⟩:=ag.addr (by omega);obtain⟨nS,cE,dU,dZ,eT,gS⟩:=ag.at p aN;obtain⟨e3,fy,rfl,gi⟩:=eT.form;obtain⟨oE,kz,rfl,lc⟩:=gS.form;replace dZ:=dZ.ext fj;refine aa ?_;intro bq aal anz aM sU;replace sU:bq.heap[aal]? = some (.cells (m.procs[p].enc (.slice e3 m.procs[p].vars.length fy) (.slice oE m.procs[p].cH.length kz)).toArray T.h):=sU;unfold o.dy.enc at sU;have en:=fj.trans aM;replace aq:=aM.obj aq;clear dZ;refine aa ?_;intro bT JO aef aZ Hl;replace Hl:bT.heap[JO]? = some (.cells ([(⟨0,m.procs[p].cw - 1,0⟩:o.dG)].flatMap o.dG.enc).toArray T.m):=Hl;have eC:bs o.dG.enc T.m 3 bq.heap.size bT (.slice (some ⟨JO,0,none⟩) 1 1) [(⟨0,m.procs[p].cw - 1,0⟩:o.dG)]:=bs.Gw _ Hl aef rfl (fun _=>rfl) rfl (by simp[maxLen]);have Lc:=aq;have aes:=sU;replace sU:=aZ.obj sU;clear Hl aq;refine aa ?_;refine K.dk 118 m.procs[p].vars.length [1,2,4,5,6,14,16,97,98,99,116,117] (fun v:gQ=>[(17,.slice v.1 v.2.1 v.2.2)]) (some ⟨JO,0,none⟩,1,1) (fun j v W=>Ext bq W/\bs o.dG.enc T.m 3 bq.heap.size W (.slice v.1 v.2.1 v.2.2) (⟨0,m.procs[p].cw - 1,0⟩ :: (m.procs[p].vars.take j).map fun v=>o.fb v.scalar v.bf v.ad m.scalars)) bz bz ⟨aZ,by simpa using eC⟩ ?_;clear sU eC;rintro j v S bV aR ⟨Aj,dL⟩;have aq:=Aj.obj Lc;have sU:=Aj.obj aes;have lg:=en.trans Aj;refine aa ?_;apply K.cond<;>intro g4
  .have eL:j<m.procs[p].vars.length:=by omega
   obtain⟨oi,rfl⟩:=eT.addr (by omega);have ei:=((eT.at j eL).cells).ext lg;have Ms:=dq.var _ (List.getElem_mem eL);have k3:=o.I3 Ms hJ.1;refine aa ?_;intro cc aam anB bM Dj;replace Dj:cc.heap[aam]? = some (.cells m.procs[p].vars[j].enc.toArray T.i):=Dj;replace aq:=bM.obj aq;have jN:=lg.trans bM;clear ei;refine aa ?_;refine K.call (MZ m.procs[p].vars[j] _ m.scalars cc (ak.ext jN) (by unfold o.eG;omega)) ?_;rintro _ di ⟨rfl,bY⟩;have uE:=o.vK (o.fb m.procs[p].vars[j].scalar m.procs[p].vars[j].bf m.procs[p].vars[j].ad m.scalars);refine aa ?_;intro dX aak anw cr Ld;replace Ld:dX.heap[aak]? = some (.cells (o.fb m.procs[p].vars[j].scalar m.procs[p].vars[j].bf m.procs[p].vars[j].ad m.scalars).enc.toArray T.m):=Ld;have jl:=dL.ext ((bM.trans bY).trans cr);have Uu:=((Aj.trans bM).trans bY).trans cr;have aS:((⟨0,m.procs[p].cw - 1,0⟩:o.dG) :: (m.procs[p].vars.take j).map fun v=>o.fb v.scalar v.bf v.ad m.scalars).length=j+1:=by simp;omega
   refine K.mV (y:=o.fb m.procs[p].vars[j].scalar m.procs[p].vars[j].bf m.procs[p].vars[j].ad m.scalars) jl Ld rfl (fun _=>rfl) o.vK (by rw[aS];omega) (by rw[aS];unfold maxLen;omega) Uu.size fun bm n c fw qV p5=>?_;refine aa ?_;exact⟨eL,bk,(bm,n,c),bz,jl.mq Uu p5 (Nat.le_refl _),by rw[List.take_succ_eq_append_getElem eL,List.map_append];exact qV⟩
  .have Ax:=ay.ext ((ax.trans aM).trans Aj);have ML:ep r7 aU bV:=ep.ext ((ax.trans aM).trans Aj);replace dL:bs o.dG.enc T.m 3 bq.heap.size bV (.slice v.1 v.2.1 v.2.2) (o.lJ m (o.insts m)[k]):=by rw[List.take_of_length_le (by omega)] at dL;rw[sT];exact dL
   have fX:=o.ke 1 (o.cV m) 0;have Lr:=o.ke 2 (o.dw m) 0;have aeO:=o.ke 3 ((o.fc m).take k) 0;have hlen:(o.cellsOf 1 (o.cV m) 0++o.cellsOf 2 (o.dw m) 0++o.cellsOf 3 ((o.fc m).take k) 0).length=o.total (o.cV m)+o.total (o.dw m)+o.total ((o.fc m).take k):=by rw[List.length_append,List.length_append,fX,Lr,aeO]
   have r0:=o.YG m br k;have Ab:(o.lJ m (o.insts m)[k]).length<=10:=by rw[sT,o.Bd];omega
   refine aa ?_;intro di bY;refine K.wide (JY (n:=130) (x:=14) (y:=17) (off:=2) (so:=3) (by decide) (by decide) (by decide) (by decide) cI jB (by simp[cu]) (by simp[cu]) (by simp[cu];rfl) (by simp[cu]) (Ax.ext bY) (dL.ext bY) (by rw[hlen];omega) ⟨by rw[o.tw];simp[o.cV];omega,by rw[o.tw];simp[o.dw];omega,by rw[o.tw,List.length_take];omega⟩ fun bh cc aK cj wJ=>?_);have uf:bh 99 = .int .i64 k:=by rw[aK 99 (by decide)];simp[cu]
   refine aa ?_;rw[uf];refine aa ?_;refine⟨bp,bk,(),trivial,?_,((nj.trans ML).trans (ep.ext bY)).trans wJ⟩;have aT:k<(o.fc m).length:=by simpa[o.fc] using bp
   have e:(o.fc m)[k]=o.lJ m (o.insts m)[k]:=by simp[o.fc]
   rw[List.take_succ_eq_append_getElem aT,e,o.IU,o.xL];have aW:(0+((o.fc m).take k).length:Nat)=k:=by rw[List.length_take];omega
   rw[aW,<-List.append_assoc,<-hlen];exact cj
 have DE:(o.insts m).length<=k:=by omega
 rw[List.take_of_length_le (by simpa[o.fc] using DE)] at ay;have aQ:=gT ay;obtain⟨vs,u,g1,g2,g3,g4⟩:=ay.ex;have fin:∀{bb W},Ext aU bb->dA cp bb W->(∃xs jL,Value.tuple #[.agg #[cz (vs 0),cz (vs 1),cz (vs 2),.int .i64 (o.cb m).length,cz (vs 3),cz (vs 4)],cz u] = .tuple #[.agg xs.toArray,jL]/\eF w (fun w=>o.jr w xs (o.layout m)) W/\eF w (fun w=>bE 4 (Flat o.Cell.slot) w jL (o.cb m)) W)/\Ext w W:=by
  intro bb W he hw;have dR:=he.obj aQ;have adg:=(g2.ext he).mod (hw.mod (A:=fun i=>i=cp) rfl) fun i k ad hk e=>by subst e;exact(g2.ext he).not dR (by decide) i ad hk
  have adh:=(g4.ext he).mod (hw.mod (A:=fun i=>i=cp) rfl) fun k hk e=>by
   subst e;obtain⟨cur,gX⟩:=(g4.ext he).aX k hk;rw[dR] at gX;injection gX with gX;injection gX with _ e;exact absurd e (by decide)
  have bN:w.heap.size<=av.heap.size:=by omega
  have sd:=fun(i:Nat) (ad:i<5)=>bs.new (e:=T.a) (enc:=ey) (fun _=>rfl) (bs.low bN (adg.own i ad));refine⟨⟨[_,_,_,_,_,_],_,rfl,fun eI r9=>⟨⟨_,_,_,_,_,rfl,sd 0 (by decide) eI r9,sd 1 (by decide) eI r9,sd 2 (by decide) eI r9,sd 3 (by decide) eI r9,sd 4 (by decide) eI r9⟩⟩,bs.new (e:=T.v) (enc:=o.Cell.slot) (fun _=>rfl) (bs.low bN adh)⟩,hw.ext (c6.trans he) (by omega)⟩
 replace g1:aU.heap[bW]? = some (.cells #[cz (vs 0),cz (vs 1),cz (vs 2),.int .i64 (o.cb m).length,cz (vs 3),cz (vs 4)] T.g):=g1;refine aa ?_;intro bb ax;replace g1:=ax.obj g1;replace g3:=ax.obj g3;replace aQ:=ax.obj aQ;dsimp only[cz] at g1 g3;refine aa ?_;refine⟨?_,?_⟩
 .refine aa ?_;refine⟨?_,?_⟩
  .refine aa ?_;intro bq eu bw;refine aa ?_;exact fin ax eu
  .refine aa ?_;intro bq eu bw;replace g3:=eu.obj g3 (by omega);refine aa ?_;exact fin ax eu
 .refine aa ?_;intro bq eu bw;refine aa ?_;exact fin ax eu
end Go.Proofs.R
end
section
namespace o
theorem Ih{m:Model}(h:(check m).c3=0):lay m=layout m:=by unfold lay;rw[if_pos h]
theorem Wn{m:Model}(h:¬(check m).c3=0):lay m=M8:=by unfold lay;rw[if_neg h]
theorem nm{m:Model}(h:eN m):(cb m).length<=64:=by
 have:=Ig h
 have:=h.cells
 omega
open Go Go.RowKit bt in
theorem jr.zero(w:World):jr w [.slice none 0 0,.slice none 0 0,.slice none 0 0,.int .i64 0,.slice none 0 0,.slice none 0 0] M8:=⟨_,_,_,_,_,rfl,bE.nil,bE.nil,bE.nil,bE.nil,bE.nil⟩
end o
namespace Go.Proofs.R
open Go Go.RowKit bt
theorem Wk(cs:List Value)(m:o.Model)(w:World)(h:o.dY w cs m)(a1:m.cQ)(ba:ht w) :
  bu Tryz.prog F.y #[.agg cs.toArray] w fun v w'=>(∃xs,v = .agg xs.toArray/\eF w (fun w=>o.jr w xs (o.lay m)) w')/\Ext w w':=by
 have br:=h;obtain⟨cy,bP,b9,c1,ck,c2,cn,bQ,cB,bX,rfl,_⟩:=h.form;refine bL E.y ?_;refine bG ?_;refine aa ?_;intro av bC cR aB aq;refine aa ?_;intro aU cp dR aA aQ;have gl:=cG aq;replace aq:=aA.obj aq;have z2:=cG aQ;have z3:=aB.size;have aW:=aB.trans aA;refine aa ?_;refine K.call (ahW _ m aU (br.ext aW) a1 (ba.ext aW)) ?_;rintro _ bb ⟨rfl,ax⟩;replace aq:=ax.obj aq;replace aQ:=ax.obj aQ;have bJ:=aW.trans ax;by_cases hk:(o.check m).c3=0
 .rw[decide_eq_true hk];refine aa ?_;refine K.call (ahv _ m bb (br.ext bJ) a1 (o.mF hk)) ?_;rintro _ bq ⟨⟨xs,u,rfl,dg,ay⟩,aM⟩;obtain⟨lb,d0,j8,d1,j9,d2,n0,d3,nw,d4,rfl,_⟩:=dg.here.form;obtain⟨u4,mZ,rfl,_⟩:=ay.here.form;replace aQ:=aM.obj aQ;have bZ:=bJ.trans aM;have z4:=ax.size;refine aa ?_;intro bT b4 fp aZ bA;replace aQ:=aZ.obj aQ;refine aa ?_;intro bV gh ct;have aE:=(dg.ext aZ aM.size).wr gh (by omega);refine aa ?_;exact⟨⟨_,rfl,by rw[o.Ih hk];exact aE.low bJ.size⟩,gh.ext (bZ.trans aZ) (by omega)⟩
 .rw[decide_eq_false hk];refine aa ?_;intro bq eu bw;refine aa ?_;exact⟨⟨[_,_,_,_,_,_],rfl,by rw[o.Wn hk];exact gJ.of fun _=>o.jr.zero _⟩,eu.ext bJ (by omega)⟩
end Go.Proofs.R
end
section
namespace o
theorem abf{c:dr}{s:List Scalar}(h:BJ c s)(ak:c.scalar≠0):∃i,∃ad:i<s.length,c.scalar=(i:Int)+1/\s[i].size=size c.scalar s:=by
 have e:=h.fI.resolve_left ak;unfold size at e ⊢;split at e
 .rename_i x ar;obtain⟨cv,ta⟩:=List.getElem?_eq_some_iff.1 ar;split at e
  .rename_i h1;refine⟨(c.scalar - 1).toNat,cv,by omega,?_⟩;rw[ta,if_pos h1]
  .exact absurd rfl e
 .exact absurd rfl e
theorem MQ(so ia:Int)(l:List dG)(b:dG):fh so ia (l++[b]) 0=fh so ia l 0++[⟨so,ia,(l.length:Nat),b.bf,b.ad,b.kind⟩]:=by
 rw[MP,Nat.zero_add]
end o
namespace Go.Proofs.R
open Go Go.RowKit bt
theorem Wd{α:Type}{enc:α->List Value}{e:TypeId}{sz base:Nat}{w w':World}{v:Value}{xs:List α}(ba:bs enc e sz base w v xs)(a1:w.grownBy w' v.ownBlock):ep [e] w w':=ep.mod (A:=fun k=>v.ownBlock=some k) (Mod.grown a1 fun k hk=>hk) fun k c t aw a=>by
 obtain⟨cur,h⟩:=ba.aX k a;rw[aw] at h;injection h with h;injection h with _ h;rw[h];simp
theorem ajN(cs:List Value)(m:o.Model)(w:World)(h:o.dY w cs m)(a1:m.cQ)(br:o.eN m) :
  bu Tryz.prog F.EG #[.agg cs.toArray] w fun v w'=>bs o.Cell.enc T.k5 6 w.heap.size w' v (o.cb m)/\Ext w w':=by
 obtain⟨cy,bP,b9,c1,ck,c2,cn,bQ,cB,bX,rfl,ak,h1,U,ag,aJ,eM,ej,ev,ea,ew⟩:=h.form;have hJ:=br.hJ;refine bL E.EG ?_;refine bG ?_;refine aa ?_;intro av bC cR aB aq;refine aa ?_;refine K.dk 4 m.vars.length [1] (fun v:gQ=>[(3,.slice v.1 v.2.1 v.2.2)]) (none,0,0) (fun k v W=>Ext av W/\bs o.Cell.enc T.k5 6 av.heap.size W (.slice v.1 v.2.1 v.2.2) (o.cellsOf 1 ((o.cV m).take k) 0)) bz bz ⟨Ext.refl _,bs.nil _ _ _ _ _⟩ ?_;have qN:=aq;clear aq;rintro k v S aU hk ⟨aA,fO⟩;have aq:=aA.obj qN;have aW:=aB.trans aA;refine aa ?_;apply K.cond<;>intro g1
 .have bp:k<m.vars.length:=by omega
  obtain⟨a,rfl⟩:=h1.addr (by omega);have ei:=((h1.at k bp).cells).ext aW;have dq:=br.var _ (List.getElem_mem bp);have k3:=o.I3 dq hJ.1;have aT:k<(o.cV m).length:=by simpa[o.cV] using bp
  have r0:=o.IY m br (k+1);rw[o.FB aT] at r0;have v7:(o.cV m)[k]=o.y2 m.scalars m.vars[k]:=by simp[o.cV]
  rw[v7,o.BA] at r0;have eZ:=o.tN m.vars[k] m.scalars;refine aa ?_;refine K.gN (.tuple #[.int .i64 (o.bounds m.vars[k] m.scalars).1,.int .i64 (o.bounds m.vars[k] m.scalars).2]) (fun w' e=>NM m.vars[k] _ m.scalars w' (ak.ext (aW.trans e))) ?_;refine aa ?_;intro bb ax;have fP:=fO.ext ax;have bA:=ax.obj aq;have jA:=aA.trans ax;clear aq ei;refine aa ?_;refine K.dk 7 (o.cells m.vars[k] m.scalars).toNat [1,4,5,6] (fun v:gQ=>[(3,.slice v.1 v.2.1 v.2.2)]) v (fun j v W=>Ext av W/\bs o.Cell.enc T.k5 6 av.heap.size W (.slice v.1 v.2.1 v.2.2) (o.cellsOf 1 ((o.cV m).take k) 0++o.fh 1 k (List.replicate j (o.fb m.vars[k].scalar m.vars[k].bf m.vars[k].ad m.scalars)) 0)) bz bz ⟨jA,by simpa[o.fh] using fP⟩ ?_;clear bA fP fO aA ax jA;rintro j v S bq aR ⟨aM,fr⟩;have aq:=aM.obj qN;have bZ:=aB.trans aM;have ei:=((h1.at k bp).cells).ext bZ;refine aa ?_;refine K.gN _ (fun w' e=>NN m.vars[k] _ m.scalars w' (ak.ext (bZ.trans e))) ?_;refine aa ?_;intro bT aZ;replace aq:=aZ.obj aq;replace ei:=ei.ext aZ;have eC:=fr.ext aZ;have nN:=aM.trans aZ;refine aa ?_;apply K.cond<;>intro g2
  .have eL:j<(o.cells m.vars[k] m.scalars).toNat:=by omega
   refine aa ?_;refine K.call (NQ m.vars[k].scalar bT (by unfold o.eG;omega)) ?_;rintro _ nv ⟨rfl,rfl⟩;refine aa ?_;intro bV fl gq a8 ct;have dL:=eC.ext a8;have Ah:=nN.trans a8;have aS:(o.cellsOf 1 ((o.cV m).take k) 0++o.fh 1 k (List.replicate j (o.fb m.vars[k].scalar m.vars[k].bf m.vars[k].ad m.scalars)) 0).length=o.total ((o.cV m).take k)+j:=by
    rw[List.length_append,o.ke,o.th,List.length_replicate]
   refine K.mV (y:=⟨1,k,j,(o.bounds m.vars[k] m.scalars).1,(o.bounds m.vars[k] m.scalars).2,o.kindOf m.vars[k].scalar⟩) dL ct rfl (fun _=>rfl) o.Cl (by rw[aS];omega) (by rw[aS];unfold maxLen;omega) Ah.size fun bm n c cc et j0=>?_;refine aa ?_;refine⟨eL,bk,(bm,n,c),bz,dL.mq Ah j0 (Nat.le_refl _),?_⟩;rw[List.replicate_succ',o.MQ,<-List.append_assoc,List.length_replicate,o.Ce];rw[o.Ce] at et;exact et
  .have kZ:j=(o.cells m.vars[k] m.scalars).toNat:=by omega
   refine aa ?_;refine⟨bp,bk,v,bz,nN,?_⟩;have aW:(0+((o.cV m).take k).length:Nat)=k:=by rw[List.length_take];omega
   rw[List.take_succ_eq_append_getElem aT,v7,o.xL,aW];rw[kZ] at eC;exact eC
 have l5:m.vars.length<=k:=by omega
 rw[List.take_of_length_le (by simpa[o.cV] using l5)] at fO;have Ot:=o.IY m br m.vars.length;rw[List.take_of_length_le (by simp[o.cV])] at Ot;refine aa ?_;refine K.dk 8 m.aL.length [1] (fun v:gQ=>[(3,.slice v.1 v.2.1 v.2.2)]) v (fun k v W=>Ext av W/\bs o.Cell.enc T.k5 6 av.heap.size W (.slice v.1 v.2.1 v.2.2) (o.cellsOf 1 (o.cV m) 0++o.cellsOf 2 ((o.dw m).take k) 0)) bz bz ⟨aA,by simpa[o.cellsOf] using fO⟩ ?_;clear aq fO aA aW;rintro k v S aU hk ⟨aA,fO⟩;have aq:=aA.obj qN;have aW:=aB.trans aA;refine aa ?_;apply K.cond<;>intro g2
 .have bp:k<m.aL.length:=by omega
  obtain⟨a,rfl⟩:=U.addr (by omega);have ei:=((U.at k bp).cells).ext aW;have dq:=br.chan _ (List.getElem_mem bp);have k3:=o.J5 dq hJ.1;have ij:=dq.cap;have aT:k<(o.dw m).length:=by simpa[o.dw] using bp
  have r0:=o.Oq m br (k+1);rw[o.FB aT] at r0;have v7:(o.dw m)[k]=o.mj m.scalars m.aL[k]:=by simp[o.dw]
  rw[v7,o.tO] at r0;have yb:(o.cellsOf 1 (o.cV m) 0++o.cellsOf 2 ((o.dw m).take k) 0).length=o.total (o.cV m)+o.total ((o.dw m).take k):=by rw[List.length_append,o.ke,o.ke]
  refine aa ?_;intro bb hv lB ax dM;replace dM:bb.heap[hv]? = some (.cells m.aL[k].enc.toArray T.r):=dM;replace aq:=ax.obj aq;have fP:=fO.ext ax;clear ei;have jA:=aA.trans ax;refine aa ?_;intro bq cN fN aM bw;have fr:=fP.ext aM;have qO:=jA.trans aM;refine K.mV (y:=⟨2,k,0,0,m.aL[k].cap,0⟩) fr bw rfl (fun _=>rfl) o.Cl (by rw[yb];omega) (by rw[yb];unfold maxLen;omega) qO.size fun bm n c bT eC kC=>?_;have aq:=fr.box kC (aM.obj aq) (by decide);have dM:=fr.box kC (aM.obj dM) (by decide);have nN:=fr.mq qO kC (Nat.le_refl _);have b5:=aB.trans nN;have ap1:=cG dM;clear fO fP bw fN aM ax lB;refine ee ?_;simp -dsimp only[cF];refine ee ?_;intro bV a8;replace aq:=a8.obj aq;replace dM:=a8.obj dM;have dL:=eC.ext a8;have cM:=b5.trans a8;have Ah:=nN.trans a8;refine K.hl [1,3,8,9] (fun _:Unit=>[(10,.int .i64 (o.kf m.scalars m.aL[k]).bf),(11,.int .i64 (o.kf m.scalars m.aL[k]).ad)]) (fun _ W=>Ext bV W) ?_ ?_
  .refine aa ?_;apply K.cond<;>intro g3
   .obtain⟨i,ad,DW,Mg⟩:=o.abf dq (by omega);obtain⟨a0,rfl⟩:=ak.addr (by omega);have gA:=((ak.at i ad).cells).ext cM;refine aa ?_;refine K.dD i (by omega) ad ?_;refine aa ?_;intro cc bM;refine aa ?_;have e:o.kf m.scalars m.aL[k]=⟨0,m.scalars[i].size,m.aL[k].scalar+1⟩:=by unfold o.kf o.fb;rw[if_neg (by omega),Mg]
    rw[e];exact⟨(),bz,bM⟩
   .have gK:m.aL[k].scalar=0:=by omega
    refine aa ?_;have e:o.kf m.scalars m.aL[k]=⟨min 0 m.aL[k].bf,max 0 m.aL[k].ad,0⟩:=by unfold o.kf o.fb;rw[if_pos gK,Int.min_comm,Int.max_comm]
    rw[e];exact⟨(),bz,Ext.refl _⟩
  rintro _ S cc bM;replace aq:=bM.obj aq;replace dM:=bM.obj dM;have et:=dL.ext bM;have Ai:=Ah.trans bM;have yj:o.kf m.scalars m.aL[k]=⟨(o.kf m.scalars m.aL[k]).bf,(o.kf m.scalars m.aL[k]).ad,o.kindOf m.aL[k].scalar⟩:=by
   unfold o.kf o.fb o.kindOf;split<;>rfl
  have H0:∀{W:World},W.heap[hv]? = cc.heap[hv]? -> _:=fun e=>e.trans dM;refine aa ?_;refine K.w9 [1,8,9,10,11] (fun x:gQ×Nat=>[(3,.slice x.1.1 x.1.2.1 x.1.2.2),(12,.int .i64 ((x.2:Int)+1))]) ((bm,n,c),0) (fun x W=>(Ext av W/\W.heap[hv]? = cc.heap[hv]? /\ (x.2:Int)<=m.aL[k].cap)/\bs o.Cell.enc T.k5 6 av.heap.size W (.slice x.1.1 x.1.2.1 x.1.2.2) (o.cellsOf 1 (o.cV m) 0++o.cellsOf 2 ((o.dw m).take k) 0++o.fh 2 k (⟨0,m.aL[k].cap,0⟩ :: List.replicate x.2 (o.kf m.scalars m.aL[k])) 0)) (fun x=>(m.aL[k].cap - x.2).toNat) bz ⟨⟨Ai,rfl,by simp only;omega⟩,by simpa[o.fh] using et⟩ ?_;clear aq dM et dL eC;rintro⟨v,j⟩ S di ⟨⟨Dr,lB,aR⟩,iU⟩;have aq:=Dr.obj qN;have dM:=H0 lB;simp only at aR;refine aa ?_;apply K.cond<;>intro g4
  .refine aa ?_;refine K.call (NQ m.aL[k].scalar di (by unfold o.eG;omega)) ?_;rintro _ nv ⟨rfl,rfl⟩;refine aa ?_;intro dX zA Aa cr jy;have jl:=iU.ext cr;have Ds:=Dr.trans cr;have aS:(o.cellsOf 1 (o.cV m) 0++o.cellsOf 2 ((o.dw m).take k) 0++o.fh 2 k (⟨0,m.aL[k].cap,0⟩ :: List.replicate j (o.kf m.scalars m.aL[k])) 0).length=o.total (o.cV m)+o.total ((o.dw m).take k)+(j+1):=by
    rw[List.length_append,yb,o.th,List.length_cons,List.length_replicate]
   refine K.mV (y:=⟨2,k,(j:Int)+1,(o.kf m.scalars m.aL[k]).bf,(o.kf m.scalars m.aL[k]).ad,o.kindOf m.aL[k].scalar⟩) jl jy rfl (fun _=>rfl) o.Cl (by rw[aS];omega) (by rw[aS];unfold maxLen;omega) Ds.size fun bm n c fw qV p5=>?_;have aeG:=jl.box p5 (cr.obj dM) (by decide);refine aa ?_;refine⟨((bm,n,c),j+1),bz,⟨⟨jl.mq Ds p5 (Nat.le_refl _),aeG.trans (H0 rfl).symm,by simp only;omega⟩,?_⟩,by simp only;omega⟩;rw[List.replicate_succ',<-List.cons_append,o.MQ,<-List.append_assoc,List.length_cons,List.length_replicate];rw[yj] at qV ⊢;exact qV
  .refine aa ?_;refine⟨bp,bk,v,bz,Dr,?_⟩;have aW:(0+((o.dw m).take k).length:Nat)=k:=by rw[List.length_take];omega
   have pW:j=m.aL[k].cap.toNat:=by omega
   rw[List.take_succ_eq_append_getElem aT,v7,o.xL,aW,<-List.append_assoc];rw[pW] at iU;exact iU
 have qQ:m.aL.length<=k:=by omega
 rw[List.take_of_length_le (by simpa[o.dw] using qQ)] at fO;refine aa ?_;refine K.call (Fc _ m aU (h.ext aW) a1) ?_;rintro cx pA ⟨fB,sZ⟩;obtain⟨cS,ci,rfl,_⟩:=fB.form;have LP:∀{W:World},ep [T.k5] pA W->lV W (.slice cS (o.insts m).length ci) (o.insts m):=fun k=>bs.jI (enc:=o.c7.enc) (fun _=>rfl) (fB.hB k (by decide));have qP:(o.insts m).length<=30:=by have:=o.uM m;have:=br.procs;omega
 have U9:=fO.ext sZ;have Us:=aA.trans sZ;have apY:=sZ.size;refine aa ?_;refine K.dk 14 (o.insts m).length [1,13] (fun v:gQ=>[(3,.slice v.1 v.2.1 v.2.2)]) v (fun k v W=>(Ext av W/\ep [T.k5] pA W)/\bs o.Cell.enc T.k5 6 av.heap.size W (.slice v.1 v.2.1 v.2.2) (o.cellsOf 1 (o.cV m) 0++o.cellsOf 2 (o.dw m) 0++o.cellsOf 3 ((o.fc m).take k) 0)) bz bz ⟨⟨Us,ep.refl⟩,by simpa[o.cellsOf] using U9⟩ ?_;clear aq fO aA aW U9 sZ Us;rintro k v S aU hk ⟨⟨aA,nj⟩,fO⟩;have eU:=LP nj;have aq:=aA.obj qN;have aW:=aB.trans aA;refine aa ?_;apply K.cond<;>intro g3
 .have bp:k<(o.insts m).length:=by omega
  obtain⟨lp,rfl⟩:=eU.addr (by omega);have yn:=o.r2 _ (List.getElem_mem bp);obtain⟨p,aN,hL,sT⟩:=o.D5 yn;have dq:=br.proc _ (List.getElem_mem aN);have UW:=dq.cw;have s0:=dq.hJ.1;obtain⟨a,rfl⟩:=ag.addr (by omega);obtain⟨nS,cE,dU,dZ,eT,gS⟩:=ag.at p aN;obtain⟨e3,fy,rfl,gi⟩:=eT.form;obtain⟨oE,kz,rfl,lc⟩:=gS.form;replace dZ:=dZ.ext aW;have aT:k<(o.fc m).length:=by simpa[o.fc] using bp
  have r0:=o.YG m br (k+1);rw[o.FB aT] at r0;have v7:(o.fc m)[k]=o.tp m.scalars m.procs[p]:=by simp[o.fc,sT]
  rw[v7,o.Bd] at r0;have yb:(o.cellsOf 1 (o.cV m) 0++o.cellsOf 2 (o.dw m) 0++o.cellsOf 3 ((o.fc m).take k) 0).length=o.total (o.cV m)+o.total (o.dw m)+o.total ((o.fc m).take k):=by rw[List.length_append,List.length_append,o.ke,o.ke,o.ke]
  refine aa ?_;intro bb ax;replace dZ:=dZ.ext ax;replace aq:=ax.obj aq;replace eU:=eU.ext Flat.ext ax;have fP:=fO.ext ax;have jA:=aA.trans ax;refine aa ?_;refine K.dD p hL aN ?_;refine aa ?_;intro wn xC Dg gL fX;refine⟨gL,?_⟩;refine aa ?_;intro bq eu bw;have Hz:Ext bb bq:=eu.ext gL Dg;replace bw:bq.heap[xC]? = some (.cells (m.procs[p].enc (.slice e3 m.procs[p].vars.length fy) (.slice oE m.procs[p].cH.length kz)).toArray T.h):=bw;unfold o.dy.enc at bw;replace aq:=Hz.obj aq;have fr:=fP.ext Hz;have qO:=jA.trans Hz;clear eu gL fX dZ fP fO eU;refine aa ?_;intro bT dO kX aZ cC;have eC:=fr.ext aZ;have nN:=qO.trans aZ;refine K.mV (y:=⟨3,k,0,0,m.procs[p].cw - 1,0⟩) eC cC rfl (fun _=>rfl) o.Cl (by rw[yb];omega) (by rw[yb];unfold maxLen;omega) nN.size fun bm n c bV dL jZ=>?_;have aq:=eC.box jZ (aZ.obj aq) (by decide);have x9:=eC.box jZ (aZ.obj bw) (by decide);have Ah:=eC.mq nN jZ (Nat.le_refl _);have ML:ep [T.k5] pA bV:=((nj.trans (ep.ext (ax.trans Hz))).trans (ep.ext aZ)).trans (Wd eC jZ);clear bw fr;have Vu:∀{W:World},W.heap[xC]? = bV.heap[xC]? -> _:=fun e=>e.trans x9;refine aa ?_;refine K.dk 16 m.procs[p].vars.length [1,13,14,15] (fun v:gQ=>[(3,.slice v.1 v.2.1 v.2.2)]) (bm,n,c) (fun j v W=>((Ext av W/\ep [T.k5] pA W)/\W.heap[xC]? = bV.heap[xC]?)/\bs o.Cell.enc T.k5 6 av.heap.size W (.slice v.1 v.2.1 v.2.2) (o.cellsOf 1 (o.cV m) 0++o.cellsOf 2 (o.dw m) 0++o.cellsOf 3 ((o.fc m).take k) 0++o.fh 3 k (⟨0,m.procs[p].cw - 1,0⟩ :: (m.procs[p].vars.take j).map fun v=>o.fb v.scalar v.bf v.ad m.scalars) 0)) bz bz ⟨⟨⟨Ah,ML⟩,rfl⟩,by simpa[o.fh] using dL⟩ ?_;clear aq x9 dL;rintro j v S cc aR ⟨⟨⟨Ai,tg⟩,Dg⟩,et⟩;have aq:=Ai.obj qN;have x9:=Vu Dg;have dz:=aB.trans Ai;refine aa ?_;apply K.cond<;>intro g4
  .have eL:j<m.procs[p].vars.length:=by omega
   obtain⟨oi,rfl⟩:=eT.addr (by omega);have ei:=((eT.at j eL).cells).ext dz;have Ms:=dq.var _ (List.getElem_mem eL);have k3:=o.I3 Ms hJ.1;refine aa ?_;refine K.gN (.tuple #[.int .i64 (o.bounds m.procs[p].vars[j] m.scalars).1,.int .i64 (o.bounds m.procs[p].vars[j] m.scalars).2]) (fun w' e=>NM m.procs[p].vars[j] _ m.scalars w' (ak.ext (dz.trans e))) ?_;refine aa ?_;intro di bY;replace aq:=bY.obj aq;replace x9:=bY.obj x9;replace ei:=ei.ext bY;have iU:=et.ext bY;have Dr:=Ai.trans bY;refine aa ?_;refine K.call (NQ m.procs[p].vars[j].scalar di (by unfold o.eG;omega)) ?_;rintro _ nv ⟨rfl,rfl⟩;refine aa ?_;intro dX hv lB cr dM;have jl:=iU.ext cr;have Ds:=Dr.trans cr;have aS:(o.cellsOf 1 (o.cV m) 0++o.cellsOf 2 (o.dw m) 0++o.cellsOf 3 ((o.fc m).take k) 0++o.fh 3 k (⟨0,m.procs[p].cw - 1,0⟩ :: (m.procs[p].vars.take j).map fun v=>o.fb v.scalar v.bf v.ad m.scalars) 0).length=o.total (o.cV m)+o.total (o.dw m)+o.total ((o.fc m).take k)+(j+1):=by
    rw[List.length_append,yb,o.th,List.length_cons,List.length_map,List.length_take];omega
   have cv:((m.procs[p].vars.take j).map fun v=>o.fb v.scalar v.bf v.ad m.scalars).length=j:=by simp;omega
   refine K.mV (y:=⟨3,k,1+(j:Int),(o.bounds m.procs[p].vars[j] m.scalars).1,(o.bounds m.procs[p].vars[j] m.scalars).2,o.kindOf m.procs[p].vars[j].scalar⟩) jl dM rfl (fun _=>rfl) o.Cl (by rw[aS];omega) (by rw[aS];unfold maxLen;omega) Ds.size fun bm n c fw qV p5=>?_;have aer:=jl.box p5 (cr.obj x9) (by decide);refine aa ?_;refine⟨eL,bk,(bm,n,c),bz,⟨⟨jl.mq Ds p5 (Nat.le_refl _),(tg.trans (ep.ext (bY.trans cr))).trans (Wd jl p5)⟩,aer.trans (Vu rfl).symm⟩,?_⟩;rw[List.take_succ_eq_append_getElem eL,List.map_append,<-List.cons_append,List.map_cons,List.map_nil,o.MQ,<-List.append_assoc,List.length_cons,cv,o.Ce m.procs[p].vars[j],show((j+1:Nat):Int)=1+(j:Int) from by omega];exact qV
  .refine aa ?_;refine⟨bp,bk,v,bz,⟨Ai,tg⟩,?_⟩;have aW:(0+((o.fc m).take k).length:Nat)=k:=by rw[List.length_take];omega
   rw[List.take_of_length_le (l:=m.procs[p].vars) (by omega)] at et;rw[List.take_succ_eq_append_getElem aT,v7,o.xL,aW,<-List.append_assoc];exact et
 .rw[List.take_of_length_le (by simp[o.fc];omega)] at fO;refine aa ?_;exact⟨bs.low aB.size fO,aW⟩
end Go.Proofs.R
end