/- Parts. -/
import Derived.Test.YtfdohkdifdemeaaGreatDoorQdul
set_option linter.all false
set_option maxRecDepth 8000
set_option maxHeartbeats 16000000
section
namespace o
theorem aji{m:Model}(h:(oF m).cX=0):oF m=sI:=Nk (It h)
end o
namespace Go.Proofs.R
open Go Go.RowKit bt
theorem abl(b:Nat)(w:World):CallsD Tryz.prog F.u #[.pointer (some ⟨b,0,none⟩)] .returning w fun e jJ w'=>jJ = .returning/\∃v,e = .returned v/\w'=w:=by
 refine K.Yq mn Pr.u (args:=[_]) (Nat.le_of_ble_eq_true rfl) ?_;dsimp only[Je.u];refine bG ?_;dsimp only[oH];refine aa ?_;refine K.aid (by kernel_rfl) ?_
 (repeat' first
 | assumption
 | exact Ext.refl _
 | refine Ext.trans ?_ (by assumption)
 | refine K.wrap (by omega) ?_
 | refine K.ta (by assumption) ?_ rfl ?_
 | refine K.q0 (by assumption) ?_ rfl ?_
 | refine K.uM (by assumption) ?_ (by omega) rfl ?_
 | refine K.uN (by assumption) ?_ (by omega) rfl ?_
 | refine K.uL (by assumption) ?_ (by omega) rfl ?_
 | refine K.uD (by omega) ?_
 | refine K.sy (by first | assumption | omega) ?_
 | refine K.tO (by first | assumption | omega) ?_
 | refine K.qC (by assumption) ?_
 | refine K.rI (by assumption) ?_
 | simp -dsimp only[c4,cF,Nat.reduceAdd,Nat.reduceEqDiff,reduceIte,reduceCtorEq,db])
theorem abk(f:o.rq)(b:Nat)(w:World)(aC:w.heap[b]? = some (.cells #[.int .i64 0,.int .i64 0,.int .i64 0,.int .i64 0] T.v)) :
  CallsD Tryz.prog F.u #[.pointer (some ⟨b,0,none⟩)] (.panicking (u9 f)) w fun e jJ w'=>jJ=(oH (.panicking (u9 f))).2/\∃v,e = .returned v /\
   (w'.heap[b]? = some (.cells #[.int .i64 f.cX,.int .i64 f.part,.int .i64 f.item,.int .i64 f.sub] T.v)/\∀w0,Ext w0 w->w0.heap.size<=b->Ext w0 w'):=by
 refine K.Yq mn Pr.u (args:=[_]) (Nat.le_of_ble_eq_true rfl) ?_;dsimp only[Je.u];refine bG ?_;dsimp only[oH,u9];refine aa ?_;refine K.aie (by kernel_rfl) ?_;refine aa ?_;refine K.Z9 rfl (by kernel_rfl) ?_;refine aa ?_;intro av bC cR aB ao;have FA:=cH aC;replace aC:=aB.obj aC;refine aa ?_;intro aU s0 aP;refine aa ?_;exact⟨aP,fun w0 e aS=>s0.ext (e.trans aB) aS⟩
theorem AX(cs:List Value)(m:o.Model)(w:World)(h:o.ec w cs m)(aZ:m.cQ)(bc:hv w) :
  bu Tryz.prog F.i #[.agg cs.toArray] w fun v w'=>v = .agg #[.int .i64 (o.check m).cX,.int .i64 (o.check m).part,.int .i64 (o.check m).item,.int .i64 (o.check m).sub]/\Ext w w':=by
 obtain⟨cz,bS,b9,c1,cn,c2,cp,bP,cA,bX,rfl,_⟩:=h.form;refine K.alu mn Zm.i (args:=[_]) (Nat.le_of_ble_eq_true rfl) ?_;dsimp only[Pp.i];refine bG ?_;refine aa ?_;intro av bC cR aB ao;refine aa ?_;intro aU cr dQ aA aP;replace ao:=aA.obj ao;have gh:=cH ao;have z5:=cH aP;refine aa ?_;refine K.defer (by kernel_rfl) ?_;refine aa ?_;refine K.A1 fun bb dU z8 ax ij=>?_;replace ao:=ax.obj ao;replace aP:=ax.obj aP;have z2:=cH aP;have z3:=aA.size;have z4:=aB.size;have bK:=(aB.trans aA).trans ax;have JW:∀(f:o.rq) (w':World) (S:Fr),Ext w w'->w'.heap[cr]? = some (.cells #[.int .i64 0,.int .i64 0,.int .i64 0,.int .i64 0] T.v)->S 2 = .pointer (some ⟨cr,0,none⟩)->f=o.check m ->
   CC Tryz.prog [.ic 4 2] F.u #[.pointer (some ⟨cr,0,none⟩)] (fun v w'=>v = .agg #[.int .i64 (o.check m).cX,.int .i64 (o.check m).part,.int .i64 (o.check m).item,.int .i64 (o.check m).sub]/\Ext w w') (.fS (u9 f)) S w':=by
  rintro f w' S e aw cg rfl;refine K.abR (sl.of (abk (o.check m) cr w' aw) rfl ?_);rintro bp ⟨aC,he⟩;simp -dsimp only[c4,cF,Nat.reduceAdd,Nat.reduceEqDiff,reduceIte,reduceCtorEq,db,cg];refine K.gS aC (Ext.refl _) rfl ?_;simp -dsimp only[c4,cF,Nat.reduceAdd,Nat.reduceEqDiff,reduceIte,reduceCtorEq,db];exact⟨bk,he _ e (by omega)⟩
 refine aa ?_;refine K.ff (ado _ m dU bb h bK (by omega) bc (fD.empty ij)) ?_ ?_;rotate_left
 .rintro c bp ⟨h1,rfl,b0,m4⟩;refine aa ?_;exact JW _ bp _ b0 (m4.obj (by omega) aP) rfl (by rw[o.check,if_pos h1])
 rintro _ bp ⟨h1,b0,m4,oK⟩;replace ao:=m4.obj (by omega) ao;replace aP:=m4.obj (by omega) aP;refine aa ?_;refine K.ff (ajf _ m dU bp h aZ b0 (by omega) bc h1 oK) ?_ ?_;rotate_left
 .rintro c bR ⟨U,rfl,b3,m5⟩;refine aa ?_;exact JW _ bR _ b3 (m5.obj (by omega) aP) rfl (by rw[o.check,if_neg (by simpa using h1),if_pos U])
 rintro _ bR ⟨U,b3,m5,nT⟩;replace ao:=m5.obj (by omega) ao;replace aP:=m5.obj (by omega) aP;refine aa ?_;refine K.ff (ajh _ m dU bR h aZ b3 (by omega) bc nT) ?_ ?_;rotate_left
 .rintro c bY ⟨ag,rfl,cV,m6⟩;refine aa ?_;exact JW _ bY _ cV (m6.obj (by omega) aP) rfl (by rw[o.check,if_neg (by simpa using h1),if_neg (by simpa using U)])
 rintro _ bY ⟨ag,cV,m6⟩;replace ao:=m6.obj (by omega) ao;replace aP:=m6.obj (by omega) aP;have kS:o.check m=o.sI:=by rw[o.check,if_neg (by simpa using h1),if_neg (by simpa using U),o.aji ag]
 refine aa ?_;intro cd dB cS;refine aa ?_;refine K.abS (sl.of (abl cr cd) rfl ?_);rintro _ rfl;refine aa ?_;exact⟨by rw[kS];rfl,dB.ext cV (by omega)⟩
end Go.Proofs.R
end
section
namespace o
open Go
def dK.enc(b:dK):List Value:=[.int .i64 b.bf,.int .i64 b.ad,.int .i64 b.kind]
def Cell.slot(x:Cell):List Value:=[.int .i64 x.sort,.int .i64 x.vc,.int .i64 x.place,.int .i64 x.kind]
def Cell.enc(x:Cell):List Value:=[.int .i64 x.sort,.int .i64 x.vc,.int .i64 x.place,.int .i64 x.bf,.int .i64 x.ad,.int .i64 x.kind]
theorem vz:∀(y:dK),∀u∈y.enc,u.oneCell'=true:=by intro y u hu;simp[dK.enc] at hu;rcases hu with rfl | rfl | rfl<;>rfl
theorem ak6:∀(y:Cell),∀u∈y.slot,u.oneCell'=true:=by intro y u hu;simp[Cell.slot] at hu;rcases hu with rfl | rfl | rfl | rfl<;>rfl
theorem Cf:∀(y:Cell),∀u∈y.enc,u.oneCell'=true:=by intro y u hu;simp[Cell.enc] at hu;rcases hu with rfl | rfl | rfl | rfl | rfl | rfl<;>rfl
end o
namespace Go.Proofs.R
open Go Go.RowKit bt
theorem ahJ(k:Int)(w:World)(h:o.ez (k+1)):bu Tryz.prog F.dW #[.int .i64 k] w fun v w'=>v = .int .i64 (o.kindOf k)/\w'=w:=by
 unfold o.ez at h;refine bL E.dW ?_;refine bG ?_;unfold o.kindOf;refine aa ?_;apply K.cond<;>intro g1
 .refine aa ?_;exact⟨by rw[if_pos g1],bk⟩
 .refine aa ?_;exact⟨by rw[if_neg g1],bk⟩
theorem NL(k:Int)(w:World)(h:o.ez (k+1)):bu Tryz.prog F.yA #[.int .i64 k] w fun v w'=>v = .int .i64 (o.kindOf k)/\w'=w:=by
 unfold o.ez at h;refine bL E.yA ?_;refine bG ?_;unfold o.kindOf;refine aa ?_;apply K.cond<;>intro g1
 .refine aa ?_;exact⟨by rw[if_pos g1],bk⟩
 .refine aa ?_;exact⟨by rw[if_neg g1,Int.add_comm],bk⟩
theorem MV(x:o.Var)(v:Value)(l:List o.Scalar)(w:World)(aS:o.hI w v l)(h:o.ez (x.scalar+1)) :
  bu Tryz.prog F.sv #[.agg x.enc.toArray,v] w fun v w'=>v = .agg (o.fb x.scalar x.bf x.ad l).enc.toArray/\Ext w w':=by
 obtain⟨al,c,rfl,_⟩:=aS.form;rw[o.B8];refine bL E.sv ?_;refine bG ?_;refine aa ?_;intro av bC cR aB ao;refine aa ?_;intro aU cr dQ aA aP;replace ao:=aA.obj ao;have gh:=cH ao;have z2:=cH aP;have a6:=aB.trans aA;refine aa ?_;refine K.call (RU x _ l aU (aS.ext a6)) ?_;rintro _ bb ⟨rfl,ax⟩;replace ao:=ax.obj ao;replace aP:=ax.obj aP;have bK:=a6.trans ax;refine aa ?_;refine K.call (ahJ x.scalar bb h) ?_;rintro _ np ⟨rfl,rfl⟩;refine aa ?_;intro bp ey bA;refine aa ?_;exact⟨bk,ey.ext bK (by have:=aB.size;omega)⟩
theorem ahY(cs:List Value)(m:o.Model)(w:World)(h:o.ec w cs m)(aZ:m.cQ)(bc:hv w) :
  bu Tryz.prog F.d4 #[.agg cs.toArray] w fun v w'=>v = .bool (decide ((o.check m).cX=0))/\Ext w w':=by
 obtain⟨cz,bS,b9,c1,cn,c2,cp,bP,cA,bX,rfl,_⟩:=h.form;refine bL E.d4 ?_;refine bG ?_;refine aa ?_;intro av bC cR aB ao;refine aa ?_;refine K.call (AX _ m av (h.ext aB) aZ (bc.ext aB)) ?_;rintro _ aU ⟨rfl,aA⟩;refine aa ?_;refine K.jf (v:=.int .i64 (o.check m).cX) rfl ?_;refine aa ?_;exact⟨bk,aB.trans aA⟩
theorem adp(cs:List Value)(m:o.Model)(w:World)(h:o.ec w cs m)(aZ:m.cQ) :
  bu Tryz.prog F.Ex #[.agg cs.toArray] w fun v w'=>v = .bool (decide ((o.check m).cX=0))/\Ext w w':=by
 obtain⟨cz,bS,b9,c1,cn,c2,cp,bP,cA,bX,rfl,_⟩:=h.form;refine bL E.Ex ?_;refine bG ?_;refine aa ?_;intro av bC cR aB ao;refine aa ?_;refine K.call (NK _ m av (h.ext aB) aZ) ?_;rintro _ aU ⟨rfl,aA⟩;unfold vU;refine aa ?_;refine K.jf (v:=.int .i64 (o.check m).cX) rfl ?_;refine aa ?_;exact⟨bk,aB.trans aA⟩
end Go.Proofs.R
end
section
namespace bt
open Go Go.RowKit
theorem hU.congr{α:Type}{enc:α->List Value}{e:TypeId}{sz base n:Nat}{w:World}{vs sh:Nat->Option Addr×Nat×Nat}{xs Fw:Nat->List α}(h:hU enc e sz base w n vs xs)(aT:∀i,i<n->vs i=sh i)(au:∀i,i<n->xs i=Fw i):hU enc e sz base w n sh Fw :=
 ⟨fun i ad=>by rw[<-aT i ad,<-au i ad];exact h.own i ad,fun i j k ad aR c5 he=>by rw[<-aT j aR];rw[<-aT i ad] at he;exact h.apart i j k ad aR c5 he⟩
theorem Kz{S:Fr}{t:Nat}{n:Int}(h:S t = .int .i64 n):eQ S ((List.range 1).map fun i=>(i*1,1)) [(0,.tmp t)] [.int .i64 0]=some [.int .i64 n]:=by
 simp[eQ,lay,ft,h,Value.cells,List.range,List.range.loop]
structure ev(cJ:List TypeId)(w w':World):Prop where
 size:w.heap.size<=w'.heap.size
 aV:∀(k:Nat) (c:Array Value) (t:TypeId),w.heap[k]? = some (.cells c t)->t∉cJ->w'.heap[k]? = some (.cells c t)
section
variable{cJ:List TypeId}{a b w w':World}
theorem ev.refl:ev cJ w w:=⟨Nat.le_refl _,fun _ _ _ h _=>h⟩
theorem ev.trans{c:World}(h:ev cJ a b)(k:ev cJ b c):ev cJ a c:=⟨Nat.le_trans h.size k.size,fun i c t aw aL=>k.aV i c t (h.aV i c t aw aL) aL⟩
theorem ev.ext(h:Ext a b):ev cJ a b:=⟨h.size,fun _ _ _ aw _=>h.obj aw⟩
theorem ev.mod{A:Nat->Prop}(h:Mod A a b)(eL:∀(k:Nat) (c:Array Value) (t:TypeId),a.heap[k]? = some (.cells c t)->A k->t∈cJ):ev cJ a b:=⟨h.size,fun k c t aw aL=>h.obj (fun hk=>aL (eL k c t aw hk)) aw⟩
theorem ev.wr{k:Nat}{c:Array Value}{t:TypeId}{f:Nat×Nat}(h:dC k a b)(aw:a.heap[k]? = some (.cells c t f))(aL:t∈cJ):ev cJ a b:=ev.mod (h.mod (A:=fun i=>i=k) rfl) fun i mR hf mi e=>by
 subst e;rw[aw] at mi;injection mi with mi;injection mi with _ e;exact e ▸ aL
theorem bs.hB{α:Type}{enc:α->List Value}{e:TypeId}{sz base:Nat}{v:Value}{xs:List α}(h:bs enc e sz base a v xs)(k:ev cJ a b)(he:e∉cJ):bs enc e sz base b v xs:=by
 refine⟨h.1,?_⟩;rcases h.2 with aD | ⟨g,cap,cur,rfl,aC,aZ,rest⟩
 .exact .inl aD
 .exact .inr ⟨g,cap,cur,rfl,aC,k.aV _ _ _ aZ he,rest⟩
end
end bt
namespace o
structure gD where
 V:List Int
 C:List Int
 eu:List Int
 n:Nat
 L:List Int
 H:List Int
 Z:List Cell
def gD.of(V C eu:List Int)(cs:List Cell):gD:=⟨V,C,eu,cs.length,cs.map (·.bf),cs.map (·.ad),cs⟩
def gD.rows(s:gD):Nat->List Int:=fun i=>if i=0 then s.V else if i=1 then s.C else if i=2 then s.eu else if i=3 then s.L else s.H
end o
namespace Go.Proofs.R
open Go Go.RowKit bt
def rZ:List TypeId:=[T.a,T.u,T.g,T.sr]
structure j5(av:World)(bW b4:Nat)(s:o.gD)(W:World):Prop where
 mod:Mod (fun k=>k=bW\/k=b4) av W
 ex:∃(vs:Nat->gN) (u:gN),W.heap[bW]? = some (.cells #[cB (vs 0),cB (vs 1),cB (vs 2),.int .i64 s.n,cB (vs 3),cB (vs 4)] T.g)/\hU eB T.a 1 av.heap.size W 5 vs s.rows /\
  W.heap[b4]? = some (.cells #[cB u] T.sr)/\bs o.Cell.slot T.u 4 av.heap.size W (cB u) s.Z
theorem j5.move{av:World}{bW b4:Nat}{s:o.gD}{W b7:World}{A:Nat->Prop}(h:j5 av bW b4 s W)(m:Mod A W b7)(eL:∀(k:Nat) (c:Array Value) (t:TypeId),W.heap[k]? = some (.cells c t)->t∈rZ->¬A k)(jA:∀k,A k->av.heap.size<=k):j5 av bW b4 s b7:=by
 obtain⟨vs,u,h1,U,ag,aJ⟩:=h.ex;refine⟨h.mod.comp m (fun _ _ a=>a) fun k hk a=>absurd (jA k a) (by omega),vs,u,m.obj (eL _ _ _ h1 (by decide)) h1,U.mod m fun i k ad hk=>?_,m.obj (eL _ _ _ ag (by decide)) ag,aJ.mod m fun k hk=>?_⟩
 .obtain⟨cur,aw⟩:=(U.own i ad).aV k hk;exact eL _ _ _ aw (by decide)
 .obtain⟨cur,aw⟩:=aJ.aV k hk;exact eL _ _ _ aw (by decide)
theorem j5.ext{av:World}{bW b4:Nat}{s:o.gD}{W b7:World}(h:j5 av bW b4 s W)(e:Ext W b7):j5 av bW b4 s b7:=h.move (A:=fun _=>False) e.mod (fun _ _ _ _ _ h=>h) fun _ h=>h.elim
structure mL(av:World)(s:o.gD)(x:o.dK)(nz:Fr)(w0:World)(vs:Nat->gN)(a33:Addr)(d25 d26 d31 d32 d33:Bool)(S:Fr)(w:World):Prop where
 kv:∀t,t∉[25,26,31,32,33,34]->S t=nz t
 mod:Mod (fun k=>(cB (vs 3)).ownBlock=some k\/(cB (vs 4)).ownBlock=some k) w0 w
 rows:∃v3 v4,hU eB T.a 1 av.heap.size w 5 (dG (dG vs 3 v3) 4 v4) (dG (dG s.rows 3 (if d26 then s.L++[x.bf] else s.L)) 4 (if d32 then s.H++[x.ad] else s.H))/\(d26=false->v3=vs 3)/\(d32=false->v4=vs 4) /\
  (d26=true->S 26=cB v3)/\(d32=true->S 32=cB v4)
 Ba:d25=true->d26=false->∃b,S 25 = .slice (some ⟨b,0,none⟩) 1 1/\w0.heap.size<=b/\w.heap[b]? = some (.cells #[.int .i64 x.bf] T.a)
 EZ:d31=true->d32=false->∃b,S 31 = .slice (some ⟨b,0,none⟩) 1 1/\w0.heap.size<=b/\w.heap[b]? = some (.cells #[.int .i64 x.ad] T.a)
 E0:d33=true->S 33 = .pointer (some a33)
section
variable{av w0 w:World}{s:o.gD}{x:o.dK}{nz S:Fr}{vs:Nat->gN}{a33:Addr}{d25 d26 d31 d32 d33:Bool}{K:Value->World->Prop}
theorem mL.WM(h:mL av s x nz w0 vs a33 false false d31 d32 d33 S w)(ub:nz 24 = .int .i64 x.bf)(hk:∀v w',mL av s x nz w0 vs a33 true false d31 d32 d33 (put S (some 25) v) w'->K v w') :
  mD Tryz.prog (.dk T.a 1 1 [.int .i64 0] [(0,.tmp 24)]) S w K:=by
 have he:Ext w (w.alloc (.cells #[.int .i64 x.bf] T.a)):=(Ext.refl w).alloc _;refine B9 (Kz (by rw[h.kv 24 (by decide),ub])) (hk _ _ ⟨fun t aL=>?_,h.mod.trans he.mod,?_,fun _ _=>⟨_,by simp[h4,cu],h.mod.size,heap_alloc_new w _⟩,fun a b=>?_,fun a=>by rw[h4,cu,if_neg (by decide)];exact h.E0 a⟩)
 .rw[h4,cu,if_neg (by intro e;subst e;simp at aL)];exact h.kv t aL
 .obtain⟨v3,v4,h1,U,ag,aJ,bg⟩:=h.rows;exact⟨v3,v4,h1.ext he,U,ag,fun e=>(by cases e),fun e=>by rw[h4,cu,if_neg (by decide)];exact bg e⟩
 .obtain⟨b,h1,U,ag⟩:=h.EZ a b;exact⟨b,by rw[h4,cu,if_neg (by decide)];exact h1,U,he.obj ag⟩
theorem mL.M5(h:mL av s x nz w0 vs a33 d25 d26 false false d33 S w)(adC:nz 30 = .int .i64 x.ad)(hk:∀v w',mL av s x nz w0 vs a33 d25 d26 true false d33 (put S (some 31) v) w'->K v w') :
  mD Tryz.prog (.dk T.a 1 1 [.int .i64 0] [(0,.tmp 30)]) S w K:=by
 have he:Ext w (w.alloc (.cells #[.int .i64 x.ad] T.a)):=(Ext.refl w).alloc _;refine B9 (Kz (by rw[h.kv 30 (by decide),adC])) (hk _ _ ⟨fun t aL=>?_,h.mod.trans he.mod,?_,fun a b=>?_,fun _ _=>⟨_,by simp[h4,cu],h.mod.size,heap_alloc_new w _⟩,fun a=>by rw[h4,cu,if_neg (by decide)];exact h.E0 a⟩)
 .rw[h4,cu,if_neg (by intro e;subst e;simp at aL)];exact h.kv t aL
 .obtain⟨v3,v4,h1,U,ag,aJ,bg⟩:=h.rows;exact⟨v3,v4,h1.ext he,U,ag,fun e=>by rw[h4,cu,if_neg (by decide)];exact aJ e,fun e=>by cases e⟩
 .obtain⟨b,h1,U,ag⟩:=h.Ba a b;exact⟨b,by rw[h4,cu,if_neg (by decide)];exact h1,U,he.obj ag⟩
theorem mL.JF(h:mL av s x nz w0 vs a33 true false d31 d32 d33 S w)(adA:nz 22=cB (vs 3))(cw:∀i k,i<5->(cB (vs i)).ownBlock=some k->k<w0.heap.size)(aC:av.heap.size<=w0.heap.size)(hm:s.L.length<=100000)
  (hk:∀v w',mL av s x nz w0 vs a33 true true d31 d32 d33 (put S (some 26) v) w'->K v w') :
  mD Tryz.prog (.app T.c T.a 1 8 (.tmp 22) (.tmp 25)) S w K:=by
 obtain⟨b,bU,a6,bK⟩:=h.Ba rfl rfl;obtain⟨v3,v4,h1,U,ag,aJ,bg⟩:=h.rows;obtain rfl:=U rfl;show w4 Tryz.prog T.c T.a 1 8 (S 22) (S 25) w K;rw[h.kv 22 (by decide),adA,bU];have uu:=h.mod.size;refine hU.app (vs:=dG (dG vs 3 (vs 3)) 4 v4) (xs:=dG (dG s.rows 3 (if false=true then s.L++[x.bf] else s.L)) 4 (if d32=true then s.H++[x.ad] else s.H)) (y:=x.bf) 3 (by decide) h1 (fun _=>rfl) (hl bK) ma (by simp[dG];omega) (by simp[dG];unfold maxLen;omega) (by omega) fun ck w' bc aZ _=>?_;have bq:Mod (fun k=>(cB (vs 3)).ownBlock=some k) w w':=Mod.grown aZ fun k hk=>hk;refine hk _ _ ⟨fun t aL=>?_,h.mod.trans (bq.I3 fun k hk=>.inl hk),?_,fun _ e=>(by cases e),fun a b=>?_,fun a=>by rw[h4,cu,if_neg (by decide)];exact h.E0 a⟩
 .rw[h4,cu,if_neg (by intro e;subst e;simp at aL)];exact h.kv t aL
 .refine⟨ck,v4,bc.congr (fun i ad=>?_) (fun i ad=>?_),fun e=>(by cases e),ag,fun _=>by simp[h4,cu],fun e=>by rw[h4,cu,if_neg (by decide)];exact bg e⟩
  .unfold dG;by_cases a:i=3
   .subst a;simp
   .simp[a]
  .unfold dG;by_cases a:i=3
   .subst a;simp
   .simp[a]
 .obtain⟨ib,h1,U,ag⟩:=h.EZ a b;exact⟨ib,by rw[h4,cu,if_neg (by decide)];exact h1,U,bq.obj (fun e=>by have:=cw 3 ib (by decide) e;omega) ag⟩
theorem mL.JG(h:mL av s x nz w0 vs a33 true true true false d33 S w)(adB:nz 28=cB (vs 4))(aC:av.heap.size<=w0.heap.size)(hm:s.H.length<=100000)
  (hk:∀v w',mL av s x nz w0 vs a33 true true true true d33 (put S (some 32) v) w'->K v w') :
  mD Tryz.prog (.app T.c T.a 1 8 (.tmp 28) (.tmp 31)) S w K:=by
 obtain⟨b,bU,a6,bK⟩:=h.EZ rfl rfl;obtain⟨v3,v4,h1,U,ag,aJ,bg⟩:=h.rows;obtain rfl:=ag rfl;show w4 Tryz.prog T.c T.a 1 8 (S 28) (S 31) w K;rw[h.kv 28 (by decide),adB,bU];have uu:=h.mod.size;refine hU.app (vs:=dG (dG vs 3 v3) 4 (vs 4)) (xs:=dG (dG s.rows 3 (if true=true then s.L++[x.bf] else s.L)) 4 (if false=true then s.H++[x.ad] else s.H)) (y:=x.ad) 4 (by decide) h1 (fun _=>rfl) (hl bK) ma (by simp[dG];omega) (by simp[dG];unfold maxLen;omega) (by omega) fun ck w' bc aZ _=>?_;have bq:Mod (fun k=>(cB (vs 4)).ownBlock=some k) w w':=Mod.grown aZ fun k hk=>hk;refine hk _ _ ⟨fun t aL=>?_,h.mod.trans (bq.I3 fun k hk=>.inr hk),?_,fun _ e=>(by cases e),fun _ e=>(by cases e),fun a=>by rw[h4,cu,if_neg (by decide)];exact h.E0 a⟩
 .rw[h4,cu,if_neg (by intro e;subst e;simp at aL)];exact h.kv t aL
 .refine⟨v3,ck,bc.congr (fun i ad=>?_) (fun i ad=>?_),fun e=>(by cases e),fun e=>(by cases e),fun e=>by rw[h4,cu,if_neg (by decide)];exact aJ e,fun _=>by simp[h4,cu]⟩
  .unfold dG;by_cases a:i=4
   .subst a;simp
   .simp[a]
  .unfold dG;by_cases a:i=4
   .subst a;simp
   .simp[a]
theorem mL.Of(h:mL av s x nz w0 vs a33 d25 d26 d31 d32 d33 S w):mL av s x nz w0 vs a33 d25 d26 d31 d32 true (cq S 33 (.pointer (some a33))) w:=by
 have q:∀t,t≠33->cq S 33 (.pointer (some a33)) t=S t:=fun t aL=>by rw[cu,if_neg aL]
 refine⟨fun t aL=>?_,h.mod,?_,fun a b=>?_,fun a b=>?_,fun _=>by simp[cu]⟩
 .rw[q t (by intro e;subst e;simp at aL)];exact h.kv t aL
 .obtain⟨v3,v4,h1,U,ag,aJ,bg⟩:=h.rows;exact⟨v3,v4,h1,U,ag,fun e=>by rw[q _ (by decide)];exact aJ e,fun e=>by rw[q _ (by decide)];exact bg e⟩
 .obtain⟨ib,h1,U⟩:=h.Ba a b;exact⟨ib,by rw[q _ (by decide)];exact h1,U⟩
 .obtain⟨ib,h1,U⟩:=h.EZ a b;exact⟨ib,by rw[q _ (by decide)];exact h1,U⟩
end
end Go.Proofs.R
end
section
namespace Go.Proofs.R
open Go Go.RowKit bt
def j4(b:Nat)(w w':World):Prop := ∀j,j<3->w'.cell? (Addr.add ⟨b,0,none⟩ j)=w.cell? (Addr.add ⟨b,0,none⟩ j)
theorem j4.refl{b:Nat}{w:World}:j4 b w w:=fun _ _=>rfl
theorem j4.trans{b:Nat}{w w' b2:World}(h:j4 b w w')(k:j4 b w' b2):j4 b w b2:=fun j aR=>(k j aR).trans (h j aR)
theorem j4.of{b:Nat}{w w':World}{bS c1 c2:Value}{l uK:List Value}{t hf:TypeId}{f sH:Nat×Nat}(h:w.heap[b]? = some (.cells (bS :: c1 :: c2 :: l).toArray t f))(bE:w'.heap[b]? = some (.cells (bS :: c1 :: c2 :: uK).toArray hf sH)):j4 b w w':=fun j aR=>by
 have:j=0\/j=1\/j=2:=by omega
 rcases this with rfl | rfl | rfl
 .rw[e8 h (v:=bS) rfl,e8 bE (v:=bS) rfl]
 .rw[e8 h (v:=c1) rfl,e8 bE (v:=c1) rfl]
 .rw[e8 h (v:=c2) rfl,e8 bE (v:=c2) rfl]
theorem j4.ext{b:Nat}{w w':World}(he:Ext w w')(h:b<w.heap.size):j4 b w w':=fun j _=>by
 rw[add_eq];simp only[World.cell?,he.heap h]
def RI:eX:=(.take (ah 21 4 3) (.take (af 22 21) (.take (ah 23 0 11) (.take (af 24 23) (.take (ah 27 5 3) (.take (af 28 27) (.take (ah 29 1 11) (.take (af 30 29) (.alt (aF 25 (.dk T.a 1 1 [(.int .i64 0)] [(0,(ab 24))])) (.alt (aF 26 (.app T.c T.a 1 8 (ab 22) (ab 25))) (.take (ah 33 4 3) (.alt (aF 31 (.dk T.a 1 1 [(.int .i64 0)] [(0,(ab 30))])) (.bZ (aF 32 (.app T.c T.a 1 8 (ab 28) (ab 31))) (.bZ (ys 33 26) (.take (ah 34 5 3) (.bZ (ys 34 32) .done .nil)) .nil) .nil) .nil)) (.alt (aF 31 (.dk T.a 1 1 [(.int .i64 0)] [(0,(ab 30))])) (.alt (aF 26 (.app T.c T.a 1 8 (ab 22) (ab 25))) (.take (ah 33 4 3) (.bZ (aF 32 (.app T.c T.a 1 8 (ab 28) (ab 31))) (.bZ (ys 33 26) (.take (ah 34 5 3) (.bZ (ys 34 32) .done .nil)) .nil) .nil)) .nil) .nil)) (.alt (aF 31 (.dk T.a 1 1 [(.int .i64 0)] [(0,(ab 30))])) (.alt (aF 25 (.dk T.a 1 1 [(.int .i64 0)] [(0,(ab 24))])) (.alt (aF 26 (.app T.c T.a 1 8 (ab 22) (ab 25))) (.take (ah 33 4 3) (.bZ (aF 32 (.app T.c T.a 1 8 (ab 28) (ab 31))) (.bZ (ys 33 26) (.take (ah 34 5 3) (.bZ (ys 34 32) .done .nil)) .nil) .nil)) .nil) .nil) .nil))))))))))
theorem lG{S:Fr}{n m:Nat}{v u:Value}(h:S m=u)(aD:m≠n):cq S n v m=u:=by rw[cu,if_neg aD];exact h
theorem ZT{av w:World}{bW b4 b5:Nat}{s:o.gD}{x:o.dK}{S:Fr}{da:Fr->World->Prop}(c5:bW≠b4)(jA:bW<av.heap.size/\b4<av.heap.size)(ay:j5 av bW b4 s w)(ag:S 3 = .pointer (some ⟨bW,0,none⟩))(GV:S 11 = .pointer (some ⟨b5,0,none⟩))
  (aw:w.heap[b5]? = some (.cells x.enc.toArray T.n))(hm:s.L.length<=100000)(LX:s.H.length<=100000)
  (hk:∀bh w',j5 av bW b4 ⟨s.V,s.C,s.eu,s.n,s.L++[x.bf],s.H++[x.ad],s.Z⟩ w'->ev rZ w w'->j4 bW w w'->da bh w'):∃C:World->Prop,C w/\dY Tryz.prog C RI S w da:=by
 obtain⟨vs,u,g1,g2,g3,g4⟩:=ay.ex;have A4:=g2.not g1 (by decide);have pn:=g2.not aw (by decide);refine⟨Mod (fun k=>(cB (vs 3)).ownBlock=some k\/(cB (vs 4)).ownBlock=some k) w,Mod.refl _ _,?_⟩;have rx:∀w',Mod (fun k=>(cB (vs 3)).ownBlock=some k\/(cB (vs 4)).ownBlock=some k) w w'->w'.heap[bW]? = some (.cells #[cB (vs 0),cB (vs 1),cB (vs 2),.int .i64 s.n,cB (vs 3),cB (vs 4)] T.g) :=
  fun w' m=>m.obj (fun h=>h.elim (A4 3 (by decide)) (A4 4 (by decide))) g1
 have ir:∀w',Mod (fun k=>(cB (vs 3)).ownBlock=some k\/(cB (vs 4)).ownBlock=some k) w w'->w'.heap[b5]? = some (.cells x.enc.toArray T.n) :=
  fun w' m=>m.obj (fun h=>h.elim (pn 3 (by decide)) (pn 4 (by decide))) aw
 have dn:av.heap.size<=w.heap.size:=ay.mod.size;unfold RI;refine dY.iA ag ?_;refine dY.ld (v:=cB (vs 3)) (by simp[cu];rfl) (fun w' m=>e8 (rx w' m) rfl) ?_;refine dY.iA (a:=⟨b5,0,none⟩) (by simp[cu,GV]) ?_;refine dY.ld (v:=.int .i64 x.bf) (by simp[cu];rfl) (fun w' m=>e8 (ir w' m) rfl) ?_;refine dY.iA (a:=⟨bW,0,none⟩) (by simp[cu,ag]) ?_;refine dY.ld (v:=cB (vs 4)) (by simp[cu];rfl) (fun w' m=>e8 (rx w' m) rfl) ?_;refine dY.iA (a:=⟨b5,0,none⟩) (by simp[cu,GV]) ?_;refine dY.ld (v:=.int .i64 x.ad) (by simp[cu];rfl) (fun w' m=>e8 (ir w' m) rfl) ?_;generalize x1:cq _ 30 _=vr;have bK:vr 3 = .pointer (some ⟨bW,0,none⟩):=by subst x1;simp[cu,ag]
 have Kl:vr 22=cB (vs 3):=by subst x1;simp[cu]
 have GJ:vr 24 = .int .i64 x.bf:=by subst x1;simp[cu]
 have Km:vr 28=cB (vs 4):=by subst x1;simp[cu]
 have Kn:vr 30 = .int .i64 x.ad:=by subst x1;simp[cu]
 have eO:∀i,vs i=dG (dG vs 3 (vs 3)) 4 (vs 4) i:=fun i=>by
  unfold dG;by_cases a:i=4
  .subst a;simp
  .by_cases b:i=3
   .subst b;simp
   .simp[a,b]
 have fz:∀i,s.rows i=dG (dG s.rows 3 (if false=true then s.L++[x.bf] else s.L)) 4 (if false=true then s.H++[x.ad] else s.H) i:=fun i=>by
  unfold dG;by_cases a:i=4
  .subst a;simp[o.gD.rows]
  .by_cases b:i=3
   .subst b;simp[o.gD.rows]
   .simp[a,b]
 have t0:mL av s x vr w vs (Addr.add ⟨bW,0,none⟩ 4) false false false false false vr w :=
  ⟨fun _ _=>rfl,Mod.refl _ _,⟨vs 3,vs 4,g2.congr (fun i ad=>eO i) (fun i ad=>fz i),
   fun _=>rfl,fun _=>rfl,fun e=>(by cases e),fun e=>(by cases e)⟩,fun e=>(by cases e),fun e=>(by cases e),fun e=>(by cases e)⟩
 have cw:∀i k,i<5->(cB (vs i)).ownBlock=some k->k<w.heap.size:=fun i k ad he=>(g2.lt i k ad he).2;have fin:∀S aU,mL av s x vr w vs (Addr.add ⟨bW,0,none⟩ 4) true true true true true S aU->dY Tryz.prog (Mod (fun k=>(cB (vs 3)).ownBlock=some k\/(cB (vs 4)).ownBlock=some k) w) (.bZ (ys 33 26) (.take (ah 34 5 3) (.bZ (ys 34 32) .done .nil)) .nil) S aU da:=by
  intro S aU t;obtain⟨v3,v4,dH,_,_,hc,qd⟩:=t.rows;have au:=rx aU t.mod;refine dY.xU ?_;show xo (S 33) (S 26) aU _;rw[t.E0 rfl,hc rfl];refine Oa fun rj=>K.st1 au (by simp) rfl fun bb fR bz=>?_;show dY _ _ _ S _ _;refine dY.iA (a:=⟨bW,0,none⟩) (by rw[t.kv 3 (by decide),bK]) ?_;refine dY.xU ?_;show xo (cq S 34 _ 34) (cq S 34 _ 32) bb _;rw[show cq S 34 (.pointer (some (Addr.add ⟨bW,0,none⟩ 5))) 34 = .pointer (some (Addr.add ⟨bW,0,none⟩ 5)) from by simp[cu],lG (qd rfl) (by decide)];refine Oa fun rj=>K.st1 bz (by simp) rfl fun bp ey bA=>?_;have hw:=fR.trans ey;have jY:=dH.not au (by decide);obtain⟨us,aoB⟩:∃us,us=cB u:=⟨_,rfl⟩;refine hk _ _ ⟨?_,dG (dG vs 3 v3) 4 v4,u,?_,(dH.mod (hw.mod (A:=fun k=>k=bW) rfl) fun i k ad hk e=>jY i ad (by rw[<-e];exact hk)).congr (fun _ _=>rfl) (fun i ad=>?_),?_,?_⟩ ?_ ?_
  .refine(ay.mod.comp t.mod (B:=fun k=>k=bW\/k=b4) (fun _ _ a=>a) fun i ad a=>?_).trans (hw.mod (A:=fun k=>k=bW\/k=b4) (.inl rfl));rcases a with a | a
   .have:=(g2.lt 3 i (by decide) a).1;omega
   .have:=(g2.lt 4 i (by decide) a).1;omega
  .exact bA
  .have:i=0\/i=1\/i=2\/i=3\/i=4:=by omega
   rcases this with rfl | rfl | rfl | rfl | rfl<;>simp[dG,o.gD.rows]
  .exact hw.obj (t.mod.obj (fun h=>h.elim (g2.not g3 (by decide) 3 (by decide)) (g2.not g3 (by decide) 4 (by decide))) g3) (Ne.symm c5)
  .refine(g4.mod t.mod fun k hk h=>?_).mod (hw.mod (A:=fun k=>k=bW) rfl) fun k hk e=>?_
   .obtain⟨cur,gW⟩:=g4.aV k hk;exact h.elim (g2.not gW (by decide) 3 (by decide)) (g2.not gW (by decide) 4 (by decide))
   .obtain⟨cur,gW⟩:=g4.aV k hk;subst e;rw[g1] at gW;injection gW with gW;injection gW with _ e;exact absurd e (by decide)
  .refine(ev.mod t.mod fun k c hf aw a=>?_).trans (ev.wr hw au (by decide));rcases a with a | a
   .obtain⟨cur,gW⟩:=(g2.own 3 (by decide)).aV k a;rw[aw] at gW;injection gW with gW;injection gW with _ e;rw[e];decide
   .obtain⟨cur,gW⟩:=(g2.own 4 (by decide)).aV k a;rw[aw] at gW;injection gW with gW;injection gW with _ e;rw[e];decide
  .exact j4.of g1 bA
 clear hk;refine⟨lf.e (t0.WM GJ fun v2 aU t2=>⟨t2.mod,?_,?_,trivial⟩),lf.e (t0.M5 Kn fun v2 aU t2=>⟨t2.mod,?_⟩),trivial⟩
 .refine lf.e (t2.JF Kl cw dn hm fun v3 bb t3=>⟨t3.mod,?_⟩);refine dY.iA (a:=⟨bW,0,none⟩) (by rw[t3.kv 3 (by decide),bK]) ?_;refine dY.zp (lf.e (t3.Of.M5 Kn fun v4 bp t4=>⟨t4.mod,?_⟩));exact dY.xU (om.e (t4.JG Km dn LX fun v5 bR t5=>fin _ _ t5))
 .refine lf.e (t2.M5 Kn fun v3 bb t3=>⟨t3.mod,?_⟩);refine dY.zp (lf.e (t3.JF Kl cw dn hm fun v4 bp t4=>⟨t4.mod,?_⟩));refine dY.iA (a:=⟨bW,0,none⟩) (by rw[t4.kv 3 (by decide),bK]) ?_;exact dY.xU (om.e (t4.Of.JG Km dn LX fun v5 bR t5=>fin _ _ t5))
 .refine dY.zp (lf.e (t2.WM GJ fun v3 bb t3=>⟨t3.mod,?_⟩));refine dY.zp (lf.e (t3.JF Kl cw dn hm fun v4 bp t4=>⟨t4.mod,?_⟩));refine dY.iA (a:=⟨bW,0,none⟩) (by rw[t4.kv 3 (by decide),bK]) ?_;exact dY.xU (om.e (t4.Of.JG Km dn LX fun v5 bR t5=>fin _ _ t5))
end Go.Proofs.R
end
section
namespace Go.Proofs.R
open Go Go.RowKit bt
section
variable{av:World}{bW b4:Nat}{s:o.gD}{W b7:World}
theorem ak5{vs:Nat->gN}{u:gN}{rB lP qx:World}{y:o.Cell}{ck:Value}(c5:bW≠b4)(hm:Mod (fun k=>k=bW\/k=b4) av W)(g1:W.heap[bW]? = some (.cells #[cB (vs 0),cB (vs 1),cB (vs 2),.int .i64 s.n,cB (vs 3),cB (vs 4)] T.g))(g2:hU eB T.a 1 av.heap.size W 5 vs s.rows)
  (g3:W.heap[b4]? = some (.cells #[cB u] T.sr))(g4:bs o.Cell.slot T.u 4 av.heap.size W (cB u) s.Z)(he:Ext W rB)(aZ:rB.grownBy lP (cB u).ownBlock)(bc:bs o.Cell.slot T.u 4 av.heap.size lP ck (s.Z++[y]))
  (hw:dC b4 lP qx)(aw:qx.heap[b4]? = some (.cells #[ck] T.sr)):j5 av bW b4 ⟨s.V,s.C,s.eu,s.n,s.L,s.H,s.Z++[y]⟩ qx/\ev rZ W qx/\j4 bW W qx:=by
 obtain⟨bl,cap,rfl,_⟩:=bc.form;have wI:Mod (fun k=>(cB u).ownBlock=some k) rB lP:=Mod.grown aZ fun k hk=>hk;have my:∀{k:Nat} {c:Array Value} {t:TypeId},W.heap[k]? = some (.cells c t)->t≠T.u->¬(cB u).ownBlock=some k:=fun {k c t} hk aL e=>by
  obtain⟨cur,h⟩:=g4.aV k e;rw[hk] at h;injection h with h;injection h with _ h;exact aL h
 have m6:∀{k:Nat} {c:Array Value} {t:TypeId},W.heap[k]? = some (.cells c t)->t≠T.u->lP.heap[k]? = some (.cells c t):=fun hk aL=>wI.obj (my hk aL) (he.obj hk);have r3:Mod (fun k=>k=b4) lP qx:=hw.mod rfl;refine⟨⟨?_,vs,(bl,_,cap),r3.obj c5 (m6 g1 (by decide)),?_,aw,bc.mod r3 fun k hk e=>?_⟩,?_,j4.of g1 (r3.obj c5 (m6 g1 (by decide)))⟩
 .have h1:Mod (fun k=>k=bW\/k=b4) av rB:=hm.comp (A':=fun _=>False) he.mod (fun _ _ a=>a) fun _ _ a=>a.elim;have U:Mod (fun k=>k=bW\/k=b4) av lP:=h1.comp wI (fun _ _ a=>a) fun i ad a=>by have:=(g4.lt i a).1;omega
  exact U.trans (hw.mod (.inr rfl))
 .refine((g2.ext he).mod wI fun i k ad hk e=>?_).mod r3 fun i k ad hk e=>?_
  .obtain⟨cur,h⟩:=(g2.own i ad).aV k hk;exact my h (by decide) e
  .subst e;obtain⟨cur,h⟩:=(g2.own i ad).aV k hk;rw[g3] at h;injection h with h;injection h with _ h;exact absurd h (by decide)
 .subst e;obtain⟨cur,h⟩:=bc.aV k hk;rw[m6 g3 (by decide)] at h;injection h with h;injection h with _ h;exact absurd h (by decide)
 .refine((ev.ext he).trans (ev.mod wI fun k c t aw a=>?_)).trans (ev.wr hw (m6 g3 (by decide)) (by decide));obtain⟨cur,h⟩:=(g4.ext he).aV k a;rw[aw] at h;injection h with h;injection h with _ h;rw[h];decide
theorem abz{vs:Nat->gN}{u:gN}{n:Int}(c5:bW≠b4)(hm:Mod (fun k=>k=bW\/k=b4) av W)(g1:W.heap[bW]? = some (.cells #[cB (vs 0),cB (vs 1),cB (vs 2),.int .i64 s.n,cB (vs 3),cB (vs 4)] T.g))(g2:hU eB T.a 1 av.heap.size W 5 vs s.rows)
  (g3:W.heap[b4]? = some (.cells #[cB u] T.sr))(g4:bs o.Cell.slot T.u 4 av.heap.size W (cB u) s.Z)(hw:dC bW W b7)(aD:n=((s.n+1:Nat):Int))
  (aw:b7.heap[bW]? = some (.cells #[cB (vs 0),cB (vs 1),cB (vs 2),.int .i64 n,cB (vs 3),cB (vs 4)] T.g)):j5 av bW b4 ⟨s.V,s.C,s.eu,s.n+1,s.L,s.H,s.Z⟩ b7/\ev rZ W b7/\j4 bW W b7:=by
 subst aD;have r3:Mod (fun k=>k=bW) W b7:=hw.mod rfl;refine⟨⟨hm.trans (hw.mod (.inl rfl)),vs,u,aw,g2.mod r3 fun i k ad hk e=>?_,r3.obj (Ne.symm c5) g3,g4.mod r3 fun k hk e=>?_⟩,ev.wr hw g1 (by decide),j4.of g1 aw⟩
 .subst e;exact g2.not g1 (by decide) i ad hk
 .subst e;obtain⟨cur,h⟩:=g4.aV k hk;rw[g1] at h;injection h with h;injection h with _ h;exact absurd h (by decide)
end
theorem ahm(so h8:Int)(v:Value)(l:List o.dK)(oV oN oQ:List Int)(cs:List o.Cell)(base:Nat)(av:World)(bW b4:Nat)(w:World)(c5:bW≠b4)(jA:bW<av.heap.size/\b4<av.heap.size)(ay:j5 av bW b4 (o.gD.of oV oN oQ cs) w)(aT:bs o.dK.enc T.n 3 base w v l)
  (hm:cs.length+l.length<=100000) :
  bu Tryz.prog F.oc #[.int .i64 so,.int .i64 h8,v,.pointer (some ⟨bW,0,none⟩),.pointer (some ⟨b4,0,none⟩)] w fun v w'=>v = .int .i64 cs.length/\j5 av bW b4 (o.gD.of oV oN oQ (cs++o.fi so h8 l 0)) w'/\ev rZ w w'/\j4 bW w w':=by
 obtain⟨bl,cap,rfl,_⟩:=aT.form;obtain⟨amm,Ot,g1,g2,g3,g4⟩:=ay.ex;refine bL E.oc ?_;refine bG ?_;refine aa ?_;refine K.dj 16 l.length [0,1,2,3,4,9,14,15] (fun _:Unit=>[]) () (fun k _ w'=>j5 av bW b4 (o.gD.of oV oN oQ (cs++o.fi so h8 (l.take k) 0)) w'/\ev rZ w w'/\j4 bW w w') bx bx ⟨by simpa[o.fi] using ay,ev.refl,j4.refl⟩ ?_;clear g1 g2 g3 g4 ay;rintro k _ S aU hk ⟨ay,nc,kT⟩;have kA:bF 3 (Flat o.dK.enc) aU (.slice bl l.length cap) l:=bs.iW (enc:=o.dK.enc) (fun _=>rfl) (aT.hB nc (by decide));refine aa ?_;apply K.cond<;>intro g1
 .have br:k<l.length:=by omega
  obtain⟨a,rfl⟩:=kA.addr (by omega);have K1:(o.fi so h8 (l.take k) 0).length=k:=by rw[o.s9,List.length_take];omega
  have uw:=o.vz l[k];refine ef ?_;simp -dsimp only[cF];refine ef ?_;simp -dsimp only[cF];refine ef ?_;intro wn b5 fo gH fG;refine ef ?_;intro bb fR bz;have ax:=fR.ext gH fo;have h3:=ay.ext ax;clear fR gH fG;refine ef ?_;refine K.gU [0,1,2,3,4,9,10,11,14,15,16] (fun _:Unit=>[]) (fun _ w'=>j5 av bW b4 ⟨oV,oN,oQ,(cs++o.fi so h8 (l.take k) 0).length,(cs++o.fi so h8 (l.take k) 0).map (·.bf)++[l[k].bf],(cs++o.fi so h8 (l.take k) 0).map (·.ad)++[l[k].ad],cs++o.fi so h8 (l.take k) 0⟩ w'/\ev rZ bb w'/\j4 bW bb w') ?_ ?_
  .refine aa ?_;intro bp aN;refine K.wide (ZT c5 jA (h3.ext aN) (by simp[cu]) (by simp[cu]) (aN.obj bz) (by simp[o.gD.of,K1];omega) (by simp[o.gD.of,K1];omega) fun bh w' h k bw=>?_);refine aa ?_;exact⟨(),trivial,h,(ev.ext aN).trans k,(j4.ext aN (by have:=h3.mod.size;omega)).trans bw⟩
  have aeL:j4 bW aU bb:=j4.ext ax (by have:=ay.mod.size;omega);clear h3;rintro _ S bp ⟨kW,V8,Lv⟩;obtain⟨vs,⟨Ot,IT,w1⟩,g1,g2,g3,g4⟩:=kW.ex;have bA:=V8.aV _ _ _ bz (by decide);refine aa ?_;intro bR dR kR aW cD;replace cD:bR.heap[dR]? = some (.cells (o.Cell.slot ⟨so,h8,k,l[k].bf,l[k].ad,l[k].kind⟩).toArray T.u):=cD;have eG:=g4.ext aW;have gh:=kW.mod.size;have z2:=aW.size;have aS:(cs++o.fi so h8 (l.take k) 0).length=cs.length+k:=by rw[List.length_append,K1]
  refine K.mQ (y:=⟨so,h8,k,l[k].bf,l[k].ad,l[k].kind⟩) eG cD rfl (fun _=>rfl) o.ak6 (by simp only[aS];omega) (by unfold maxLen;simp only[aS];omega) (by omega) fun bl n c bY dO jU=>?_;have e6:=eG.box jU (aW.obj g3) (by decide);refine aa ?_;intro cd dB cS;obtain⟨jC,s8,aeM⟩:=ak5 c5 kW.mod g1 g2 g3 g4 aW jU dO dB cS;dsimp only at jC;obtain⟨sh,jJ,dH,dM,eh,hc⟩:=jC.ex;clear g1 g2 g3 g4 kW eG dO jU e6 cS cD;have ajp:=dH;dsimp only[cB] at dH;refine aa ?_;intro dg iG cK;obtain⟨HK,ahb,aeN⟩:=abz c5 jC.mod ajp dM eh hc iG (by dsimp only;omega) cK;refine aa ?_;refine⟨br,bk,(),trivial,?_,((((nc.trans (ev.ext ax)).trans V8).trans s8).trans ahb),((((kT.trans aeL).trans Lv).trans aeM).trans aeN)⟩;rw[o.ahn br,<-List.append_assoc];have e:o.gD.of oV oN oQ ((cs++o.fi so h8 (l.take k) 0)++[⟨so,h8,k,l[k].bf,l[k].ad,l[k].kind⟩])=⟨oV,oN,oQ,(cs++o.fi so h8 (l.take k) 0).length+1,(cs++o.fi so h8 (l.take k) 0).map (·.bf)++[l[k].bf],(cs++o.fi so h8 (l.take k) 0).map (·.ad)++[l[k].ad],cs++o.fi so h8 (l.take k) 0++[⟨so,h8,k,l[k].bf,l[k].ad,l[k].kind⟩]⟩:=by
   simp[o.gD.of,List.map_append,Nat.add_assoc]
  rw[e];exact HK
 .refine aa ?_;rw[List.take_of_length_le (by omega)] at ay;exact⟨bk,ay,nc,kT⟩
end Go.Proofs.R
end
section
namespace bt
open Go Go.RowKit
section
variable{P:Program}{C:World->Prop}{S:Fr}{w:World}{K:Fr->World->Prop}
theorem dY.p8{d m:Nat}{r:eX}{v:Value}(au:S m=v)(h:dY P C r (cq S d v) w K):dY P C (.take ⟨some d,none,.p (.p8 (.tmp m))⟩ r) S w K:=by subst au;exact h
theorem lf.c{i:pt}{d:Nat}{k:Fr->World->Prop}(h:rl P i S w fun v w'=>C w'/\k (put S (some d) v) w'):lf P C ⟨some d,none,.c i⟩ S w k:=h
end
end bt
namespace o
def gD.add(s:gD)(off:Nat)(y:Int):gD:=if off=0 then { s with V:=s.V++[y] } else if off=1 then { s with C:=s.C++[y] } else { s with eu:=s.eu++[y] }
end o
namespace Go.Proofs.R
open Go Go.RowKit bt
def R2(n x y off:Nat)(so:Int):eX :=
 (.take (ah n off 4) (.take (af (n+1) n) (.take (I (n+2) 6) (.take (I (n+3) x) (.take (I (n+4) y)
 (.alt (dh (n+5) (.val (ab (n+2)) [(aj so),(ab (n+3)),(ab (n+4))]))
 (.alt (aF (n+6) (.dk T.a 1 1 [(.int .i64 0)] [(0,(ab (n+5)))]))
 (.bZ (aF (n+7) (.app T.c T.a 1 8 (ab (n+1)) (ab (n+6))))
 (.take (ah (n+8) off 4) (.bZ (ys (n+8) (n+7)) .done .nil)) .nil) .nil) .nil))))))
theorem JU{av w:World}{bW b4 n x y off base:Nat}{so h8:Int}{l2:Value}{l:List o.dK}{oV oN oQ:List Int}{cs:List o.Cell}{S:Fr}{da:Fr->World->Prop}(L3:off<3)(aD:20<=n)(au:x<20)(b8:y<20)
  (c5:bW≠b4)(jA:bW<av.heap.size/\b4<av.heap.size)(aJ:S 4 = .pointer (some ⟨bW,0,none⟩))(bO:S 6 = .func (.func F.oc) #[] #[.pointer (some ⟨bW,0,none⟩),.pointer (some ⟨b4,0,none⟩)])(s3:S x = .int .i64 h8)(My:S y=l2)
  (ay:j5 av bW b4 (o.gD.of oV oN oQ cs) w)(aT:bs o.dK.enc T.n 3 base w l2 l)(hm:cs.length+l.length<=100000)(ba:oV.length<=100000/\oN.length<=100000/\oQ.length<=100000)
  (hk:∀bh w',(∀t,t<n\/n+8<t->bh t=S t)->j5 av bW b4 ((o.gD.of oV oN oQ (cs++o.fi so h8 l 0)).add off cs.length) w'->ev rZ w w'->da bh w'):∃C:World->Prop,C w/\dY Tryz.prog C (R2 n x y off so) S w da:=by
 obtain⟨vs,u,g1,g2,g3,g4⟩:=ay.ex;have bS:w.cell? (Addr.add ⟨bW,0,none⟩ off)=some (cB (vs off)):=by
  have:off=0\/off=1\/off=2:=by omega
  rcases this with rfl | rfl | rfl<;>exact e8 g1 rfl
 refine⟨fun w'=>w'.cell? (Addr.add ⟨bW,0,none⟩ off)=some (cB (vs off)),bS,?_⟩;unfold R2;refine dY.iA aJ ?_;refine dY.ld (v:=cB (vs off)) (by simp[cu]) (fun w' m=>m) ?_;refine dY.p8 (lG (lG bO (by omega)) (by omega)) ?_;refine dY.p8 (lG (lG (lG s3 (by omega)) (by omega)) (by omega)) ?_;refine dY.p8 (lG (lG (lG (lG My (by omega)) (by omega)) (by omega)) (by omega)) ?_;generalize oq:cq _ (n+4) _=qv;have acV:∀t,t<n\/n+8<t->qv t=S t:=by
  subst oq;intro t aL;simp only[cu];rw[if_neg (by omega),if_neg (by omega),if_neg (by omega),if_neg (by omega),if_neg (by omega)]
 have b0:qv 4 = .pointer (some ⟨bW,0,none⟩):=by subst oq;exact lG (lG (lG (lG (lG aJ (by omega)) (by omega)) (by omega)) (by omega)) (by omega)
 have f1:qv (n+1)=cB (vs off):=by subst oq;simp[cu]
 have f2:qv (n+2) = .func (.func F.oc) #[] #[.pointer (some ⟨bW,0,none⟩),.pointer (some ⟨b4,0,none⟩)]:=by subst oq;simp[cu]
 have f3:qv (n+3) = .int .i64 h8:=by subst oq;simp[cu]
 have f4:qv (n+4)=l2:=by subst oq;simp[cu]
 refine dY.zp (lf.c ?_);show y4 _ (qv (n+2)) [.int .i64 so,qv (n+3),qv (n+4)] w _;rw[f2,f3,f4];refine JT (first:=[]) (cap:=[.pointer (some ⟨bW,0,none⟩),.pointer (some ⟨b4,0,none⟩)]) (by kernel_rfl) (ahm so h8 l2 l oV oN oQ cs base av bW b4 w c5 jA ay aT hm) ?_;rintro _ aU ⟨rfl,eC,nc,kT⟩;refine⟨(kT off L3).trans bS,?_⟩;refine dY.zp (lf.e ?_);have he:Ext aU (aU.alloc (.cells #[.int .i64 cs.length] T.a)):=(Ext.refl aU).alloc _;rw[abZ];refine B9 (cs:=[.int .i64 cs.length]) (Kz (by simp[h4,cu])) ?_;refine⟨he.cell ((kT off L3).trans bS),?_⟩;have bz:=heap_alloc_new aU (.cells #[.int .i64 cs.length] T.a);have bP:=he.cell ((kT off L3).trans bS);have h3:=eC.ext he;have V7:ev rZ w (aU.alloc (.cells #[.int .i64 cs.length] T.a)):=nc.trans (ev.ext he);show dY _ _ _ _ (aU.alloc (.cells #[.int .i64 cs.length] T.a)) _;generalize aU.alloc (.cells #[.int .i64 cs.length] T.a)=bb at bz bP h3 V7;clear he g1 g2 g3 g4;obtain⟨sh,jJ,g1,g2,g3,g4⟩:=h3.ex;have acm:cB (vs off)=cB (sh off):=by
  have:off=0\/off=1\/off=2:=by omega
  rcases this with rfl | rfl | rfl
  .rw[e8 g1 (v:=cB (sh 0)) rfl] at bP;exact(Option.some.inj bP).symm
  .rw[e8 g1 (v:=cB (sh 1)) rfl] at bP;exact(Option.some.inj bP).symm
  .rw[e8 g1 (v:=cB (sh 2)) rfl] at bP;exact(Option.some.inj bP).symm
 refine dY.xU (om.e ?_);rw[abY];unfold ab;rw[ft,ft];rw[show ∀a b,put (put qv (some (n+5)) a) (some (n+6)) b (n+1)=cB (sh off) from fun a b=>by rw[h4,h4,<-acm];exact lG (lG f1 (by omega)) (by omega),
  show ∀a b,put (put qv (some (n+5)) a) (some (n+6)) b (n+6)=b from fun a b=>by rw[h4,h4,cu,if_pos rfl]]
 have gh:=h3.mod.size;have hlen:((o.gD.of oV oN oQ (cs++o.fi so h8 l 0)).rows off).length<=100000:=by
  have:off=0\/off=1\/off=2:=by omega
  rcases this with rfl | rfl | rfl
  .exact ba.1
  .exact ba.2.1
  .exact ba.2.2
 refine hU.app (y:=(cs.length:Int)) off (by omega) g2 (fun _=>rfl) (hl bz) ma (by omega) (by unfold maxLen;omega) (by omega) fun ck bp fq pa _=>?_;have m4:Mod (fun k=>(cB (sh off)).ownBlock=some k) bb bp:=Mod.grown pa fun k hk=>hk;have my:∀{k:Nat} {c:Array Value} {t:TypeId},bb.heap[k]? = some (.cells c t)->t≠T.a->bp.heap[k]? = some (.cells c t):=fun hk aL=>m4.obj (g2.not hk aL off (by omega)) hk;refine dY.iA (a:=⟨bW,0,none⟩) (by rw[h4,h4,h4];exact lG (lG (lG b0 (by omega)) (by omega)) (by omega)) ?_;refine dY.xU ?_;show xo (cq _ (n+8) _ (n+8)) (cq (put _ (some (n+7)) _) (n+8) _ (n+7)) bp _;rw[show ∀(S:Fr) v,cq S (n+8) v (n+8)=v from fun S v=>by rw[cu,if_pos rfl],show ∀(S:Fr) a b,cq (put S (some (n+7)) a) (n+8) b (n+7)=a from fun S a b=>by rw[h4,cu,if_neg (by omega),cu,if_pos rfl]];have cM:=my g1 (by decide);refine Oa fun rj=>K.st1 cM (by simp;omega) rfl fun bR eZ cD=>?_;have r3:Mod (fun k=>k=bW) bp bR:=eZ.mod rfl;refine hk _ _ (fun t aL=>?_) ⟨?_,dG sh off ck,jJ,?_,(fq.mod r3 fun i k ad aG e=>?_).congr (fun _ _=>rfl) (fun i ad=>?_),?_,?_⟩ ?_
 .simp only[h4,Xh,cu];rw[if_neg (by omega),if_neg (by omega),if_neg (by omega),if_neg (by omega)];exact acV t aL
 .refine(h3.mod.comp m4 (B:=fun k=>k=bW\/k=b4) (fun _ _ a=>a) fun i ad a=>?_).trans (eZ.mod (A:=fun k=>k=bW\/k=b4) (.inl rfl))
  have:=(g2.lt off i (by omega) a).1;omega
 .rw[cD]
  have:off=0\/off=1\/off=2:=by omega
  rcases this with rfl | rfl | rfl<;>rfl
 .subst e;exact fq.not cM (by decide) i ad aG
 .have a:off=0\/off=1\/off=2:=by omega
  have b:i=0\/i=1\/i=2\/i=3\/i=4:=by omega
  rcases a with rfl | rfl | rfl<;>rcases b with rfl | rfl | rfl | rfl | rfl<;>rfl
 .exact eZ.obj (my g3 (by decide)) (Ne.symm c5)
 .have sG:((o.gD.of oV oN oQ (cs++o.fi so h8 l 0)).add off cs.length).Z=(o.gD.of oV oN oQ (cs++o.fi so h8 l 0)).Z:=by unfold o.gD.add; (repeat' split)<;>rfl
  rw[sG];refine(g4.mod m4 fun k hk h=>?_).mod r3 fun k hk e=>?_
  .obtain⟨cur,gW⟩:=g4.aV k hk;exact g2.not gW (by decide) off (by omega) h
  .obtain⟨cur,gW⟩:=g4.aV k hk;subst e;rw[g1] at gW;injection gW with gW;injection gW with _ e;exact absurd e (by decide)
 .refine(V7.trans (ev.mod m4 fun k c hf aw a=>?_)).trans (ev.wr eZ cM (by decide));obtain⟨cur,gW⟩:=(g2.own off (by omega)).aV k a;rw[aw] at gW;injection gW with gW;injection gW with _ e;rw[e];decide
end Go.Proofs.R
end
section
namespace bt
open Go Go.RowKit
theorem bs.Gl{α:Type}{enc:α->List Value}{e:TypeId}{sz base b n:Nat}{w:World}{cs:List Value}(xs:List α)(h:w.heap[b]? = some (.cells cs.toArray e))(aC:base<=b)(gy:cs=xs.flatMap enc)(dn:∀x,(enc x).length=sz)(aD:n=xs.length)(hm:xs.length<=maxLen):bs enc e sz base w (.slice (some ⟨b,0,none⟩) n n) xs:=by
 subst aD;have aS:cs.length=xs.length*sz:=by rw[gy,xT dn]
 exact⟨by rw[xT dn],.inr ⟨b,xs.length,cs.toArray,rfl,aC,h,Nat.le_refl _,hm,by simpa using aS,by simp only;rw[<-aS,List.take_length,gy]⟩⟩
theorem K.Z1{P:Program}{da:Value->World->Prop}{α:Type}{enc:α->List Value}{e:TypeId}{sz base:Nat}{w:World}{v:Value}{xs:List α}{ty:TypeId}{hW b:Nat}{y:α}{cs:List Value}{t}(ay:bs enc e sz base w v xs)(aw:w.heap[b]? = some (.cells cs.toArray e))(gy:cs=enc y)(dn:∀x,(enc x).length=sz)(h1:∀y,∀u∈enc y,u.oneCell'=true)
  (aC:(xs.length+1)*hW<=140737488355328)(kb:xs.length+1<=maxLen)(jx:base<=w.heap.size)
  (hk:∀bl n c w',bs enc e sz base w' (.slice bl n c) (xs++[y])->w.grownBy w' v.ownBlock->((Value.slice bl n c).ownBlock=v.ownBlock\/(Value.slice bl n c).ownBlock=some w.heap.size)->da (.slice bl n c) w'):k4 P ty e sz hW v (.slice (some ⟨b,0,none⟩) 1 1) w da t:=by
 refine K.vw (ys:=[y]) ay dn (by subst gy;simpa using hl aw) rfl h1 aC kb jx fun ck w' bc aZ kd=>?_;obtain⟨bl,cap,rfl,_⟩:=bc.form;exact hk _ _ _ _ bc aZ kd
end bt
namespace o
open Go Go.RowKit bt
structure ja(w:World)(cs:List Value)(x:vl):Prop where
 ex:∃v0 v1 v2 v3 v4,cs=[v0,v1,v2,.int .i64 x.cells,v3,v4]/\bF 1 (Flat eB) w v0 x.vars/\bF 1 (Flat eB) w v1 x.aM/\bF 1 (Flat eB) w v2 x.insts/\bF 1 (Flat eB) w v3 x.bf/\bF 1 (Flat eB) w v4 x.ad
theorem ja.ext{w w':World}{cs:List Value}{x:vl}(he:Ext w w')(h:ja w cs x):ja w' cs x :=
 let ⟨v0,v1,v2,v3,v4,e,ak,h1,U,ag,aJ⟩:=h.ex
 ⟨v0,v1,v2,v3,v4,e,ak.ext Flat.ext he,h1.ext Flat.ext he,U.ext Flat.ext he,ag.ext Flat.ext he,aJ.ext Flat.ext he⟩
theorem ja.form{w:World}{cs:List Value}{x:vl}(h:ja w cs x):∃cz bS b9 c1 cn c2 cp bP cA bX,cs=[.slice cz x.vars.length bS,.slice b9 x.aM.length c1,.slice cn x.insts.length c2,.int .i64 x.cells,.slice cp x.bf.length bP,.slice cA x.ad.length bX] /\
  bF 1 (Flat eB) w (.slice cz x.vars.length bS) x.vars/\bF 1 (Flat eB) w (.slice b9 x.aM.length c1) x.aM/\bF 1 (Flat eB) w (.slice cn x.insts.length c2) x.insts/\bF 1 (Flat eB) w (.slice cp x.bf.length bP) x.bf/\bF 1 (Flat eB) w (.slice cA x.ad.length bX) x.ad:=by
 obtain⟨v0,v1,v2,v3,v4,rfl,ak,h1,U,ag,aJ⟩:=h.ex;obtain⟨cz,bS,rfl,_⟩:=ak.form;obtain⟨b9,c1,rfl,_⟩:=h1.form;obtain⟨cn,c2,rfl,_⟩:=U.form;obtain⟨cp,bP,rfl,_⟩:=ag.form;obtain⟨cA,bX,rfl,_⟩:=aJ.form;exact⟨cz,bS,b9,c1,cn,c2,cp,bP,cA,bX,rfl,ak,h1,U,ag,aJ⟩
theorem IY{v:Var}{s:List Scalar}(h:BY v s)(ay:s.length<=2):0<=v.scalar/\v.scalar<=2:=by
 rcases h.sc with e | e
 .omega
 .unfold size at e;split at e
  .rename_i x au
   have:=(List.getElem?_eq_some_iff.1 au).1
   split at e<;>omega
  .exact absurd rfl e
theorem JZ{v:dv}{s:List Scalar}(h:BC v s)(ay:s.length<=2):0<=v.scalar/\v.scalar<=2:=by
 rcases h.sc with e | e
 .omega
 .unfold size at e;split at e
  .rename_i x au
   have:=(List.getElem?_eq_some_iff.1 au).1
   split at e<;>omega
  .exact absurd rfl e
theorem IS(m:Model)(h:eF m)(k:Nat):total ((cW m).take k)<=64:=by
 have h1:=H8 h;have U:=h.cells;have ag:=D3 m;have e:total (cW m)=total ((cW m).take k)+total ((cW m).drop k):=by rw[<-Fp,List.take_append_drop]
 omega
theorem Oo(m:Model)(h:eF m)(k:Nat):total (cW m)+total ((dA m).take k)<=64:=by
 have h1:=H8 h;have U:=h.cells;have ag:=D3 m;have e:total (dA m)=total ((dA m).take k)+total ((dA m).drop k):=by rw[<-Fp,List.take_append_drop]
 omega
theorem YD(m:Model)(h:eF m)(k:Nat):total (cW m)+total (dA m)+total ((fc m).take k)<=64:=by
 have h1:=H8 h;have U:=h.cells;have ag:=D3 m;have e:total (fc m)=total ((fc m).take k)+total ((fc m).drop k):=by rw[<-Fp,List.take_append_drop]
 omega
end o
namespace Go.Proofs.R
open Go Go.RowKit bt
theorem ahu(cs:List Value)(m:o.Model)(w:World)(h:o.ec w cs m)(aZ:m.cQ)(bq:o.eF m) :
  bu Tryz.prog F.d5 #[.agg cs.toArray] w fun v w'=>(∃xs u,v = .tuple #[.agg xs.toArray,u]/\eH w (fun w=>o.ja w xs (o.layout m)) w'/\eH w (fun w=>bF 4 (Flat o.Cell.slot) w u (o.cc m)) w')/\Ext w w':=by
 obtain⟨cz,bS,b9,c1,cn,c2,cp,bP,cA,bX,rfl,ak,h1,U,ag,aJ,eI,ej,eo,dX,ep⟩:=h.form;have hx:=bq.hx;refine bL E.d5 ?_;refine bG ?_;refine aa ?_;intro I1 bC cR pX ao;have dH:=cH ao;refine aa ?_;intro I2 cr dQ o6 aP;have dM:=cH aP;replace ao:=o6.obj ao;refine aa ?_;intro w2 bW mW mm jy;have apA:=cH jy;replace ao:=mm.obj ao;replace aP:=mm.obj aP;refine aa ?_;intro av b4 anZ o7 gy;have apz:=cH gy;replace ao:=o7.obj ao;replace aP:=o7.obj aP;replace jy:=o7.obj jy;have kI:=pX.size;have kq:=o6.size;have yZ:=mm.size;have y0:=o7.size;have bU:=((pX.trans o6).trans mm).trans o7;clear pX o6 mm o7;have c5:bW≠b4:=by omega
 have jA:bW<av.heap.size/\b4<av.heap.size:=⟨by omega,by omega⟩;have jl:j5 av bW b4 (o.gD.of [] [] [] []) av:=⟨Mod.refl _ _,fun _=>(none,0,0),(none,0,0),jy,⟨fun i ad=>by
   have e:(o.gD.of [] [] [] []).rows i=[]:=by unfold o.gD.rows; (repeat' split)<;>rfl
   rw[e];exact bs.nil _ _ _ _ _,fun i j k _ _ _ e=>by cases e⟩,gy,bs.nil _ _ _ _ _⟩
 have kl:∀{s W},j5 av bW b4 s W->W.heap[bC]? = av.heap[bC]? := fun h=>h.mod.block _ (by omega) (by omega);have hA:∀{s W},j5 av bW b4 s W->W.heap[cr]? = av.heap[cr]? := fun h=>h.mod.block _ (by omega) (by omega);have fF:∀{s W},j5 av bW b4 s W->Ext w W:=fun h=>h.mod.ext bU fun i ad e=>by omega
 rw[ao] at kl;rw[aP] at hA;refine aa ?_;refine K.dj 24 m.vars.length [1,2,4,5,6,22,23] (fun _:Unit=>[]) () (fun k _ W=>j5 av bW b4 (o.gD.of (o.hq 0 ((o.cW m).take k)) [] [] (o.cellsOf 1 ((o.cW m).take k) 0)) W) bx bx (by simpa[o.hq,o.cellsOf] using jl) ?_;clear jl jy gy ao aP;rintro k _ S aU hk ay;have ao:=kl ay;have c9:=fF ay;refine aa ?_;apply K.cond<;>intro g1
 .have br:k<m.vars.length:=by omega
  obtain⟨a,rfl⟩:=h1.addr (by omega);have en:=((h1.at k br).cells).ext c9;have dt:=bq.var _ (List.getElem_mem br);have kX:=o.IY dt hx.1;refine aa ?_;intro wn kN qK gH fG;refine aa ?_;intro bb fR bz;have ax:Ext aU bb:=fR.ext gH qK;replace bz:bb.heap[kN]? = some (.cells m.vars[k].enc.toArray T.j):=bz;replace ao:=ax.obj ao;clear fR gH fG en;have fj:=c9.trans ax;refine aa ?_;refine K.call (Gt m.vars[k] _ m.scalars bb (ak.ext fj)) ?_;rintro _ bp ⟨rfl,aN⟩;have eM:=o.tJ m.vars[k] m.scalars;have et:=fj.trans aN;have qL:=aN.obj ao;have aeq:=aN.obj bz;refine aa ?_;refine K.dj 33 (o.cells m.vars[k] m.scalars).toNat [1,2,4,5,6,7,8,22,23,24,32] (fun v:gN=>[(9,.slice v.1 v.2.1 v.2.2)]) (none,0,0) (fun j v W=>Ext bp W/\bs o.dK.enc T.n 3 bp.heap.size W (.slice v.1 v.2.1 v.2.2) (List.replicate j (o.fb m.vars[k].scalar m.vars[k].bf m.vars[k].ad m.scalars))) bx bx ⟨Ext.refl _,bs.nil _ _ _ _ _⟩ ?_;clear ao bz;rintro j v S bR aR ⟨aW,eG⟩;have ao:=aW.obj qL;have bz:=aW.obj aeq;refine aa ?_;apply K.cond<;>intro g2
  .have eP:j<(o.cells m.vars[k] m.scalars).toNat:=by omega
   refine aa ?_;refine K.call (MV m.vars[k] _ m.scalars bR (ak.ext (et.trans aW)) (by unfold o.ez;omega)) ?_;rintro _ bY ⟨rfl,a8⟩;have uw:=o.vz (o.fb m.vars[k].scalar m.vars[k].bf m.vars[k].ad m.scalars);refine aa ?_;intro cd aak anS bJ cS;replace cS:cd.heap[aak]? = some (.cells (o.fb m.vars[k].scalar m.vars[k].bf m.vars[k].ad m.scalars).enc.toArray T.n):=cS;have ew:=eG.ext (a8.trans bJ);have Hq:=(aW.trans a8).trans bJ;have aS:(List.replicate j (o.fb m.vars[k].scalar m.vars[k].bf m.vars[k].ad m.scalars)).length=j:=List.length_replicate;refine K.mQ (y:=o.fb m.vars[k].scalar m.vars[k].bf m.vars[k].ad m.scalars) ew cS rfl (fun _=>rfl) o.vz (by rw[aS];omega) (by rw[aS];unfold maxLen;omega) Hq.size fun bl n c dg iP Hy=>?_;refine aa ?_;exact⟨eP,bk,(bl,n,c),bx,ew.mc Hq Hy (Nat.le_refl _),by rw[List.replicate_succ'];exact iP⟩
  .have kU:j=(o.cells m.vars[k] m.scalars).toNat:=by omega
   have uy:=ay.ext ((ax.trans aN).trans aW);replace eG:bs o.dK.enc T.n 3 bp.heap.size bR (.slice v.1 v.2.1 v.2.2) (o.yW m.scalars m.vars[k]):=by rw[kU] at eG;exact eG
   have fG:=o.j8 1 ((o.cW m).take k) 0;have rR:=o.IS m bq k;refine aa ?_;intro bY a8;refine K.wide (JU (n:=43) (x:=7) (y:=9) (off:=0) (so:=1) (by decide) (by decide) (by decide) (by decide) c5 jA (by simp[cu]) (by simp[cu]) (by simp[cu];rfl) (by simp[cu]) (uy.ext a8) (eG.ext a8) (by rw[fG,o.Bu];omega) ⟨by rw[o.tq,List.length_take];omega,by simp,by simp⟩ fun bh cd aK cj wC=>?_);have ub:bh 24 = .int .i64 k:=by rw[aK 24 (by decide)];simp[cu]
   refine aa ?_;rw[ub];refine aa ?_;refine⟨br,bk,(),trivial,?_⟩;have aT:k<(o.cW m).length:=by simpa[o.cW] using br
   have e:(o.cW m)[k]=o.yW m.scalars m.vars[k]:=by simp[o.cW]
   rw[List.take_succ_eq_append_getElem aT,e,o.IN,o.xF];have a6:(0+((o.cW m).take k).length:Nat)=k:=by rw[List.length_take];omega
   rw[a6,Nat.zero_add,<-fG];exact cj
 have lT:m.vars.length<=k:=by omega
 rw[List.take_of_length_le (by simpa[o.cW] using lT)] at ay;have Oq:=o.IS m bq m.vars.length;rw[List.take_of_length_le (by simp[o.cW])] at Oq;refine aa ?_;refine K.dj 56 m.aM.length [1,2,4,5,6,54,55] (fun _:Unit=>[]) () (fun k _ W=>j5 av bW b4 (o.gD.of (o.hq 0 (o.cW m)) (o.hq (o.total (o.cW m)) ((o.dA m).take k)) [] (o.cellsOf 1 (o.cW m) 0++o.cellsOf 2 ((o.dA m).take k) 0)) W) bx bx (by simpa[o.hq,o.cellsOf] using ay) ?_;clear ay ao c9;rintro k _ S aU hk ay;have ao:=kl ay;have c9:=fF ay;refine aa ?_;apply K.cond<;>intro g2
 .have br:k<m.aM.length:=by omega
  obtain⟨a,rfl⟩:=U.addr (by omega);have en:=((U.at k br).cells).ext c9;have dt:=bq.chan _ (List.getElem_mem br);have kX:=o.JZ dt hx.1;have hZ:=dt.cap;refine aa ?_;intro wn vx C4 gH fG;refine aa ?_;intro bb fR bz;have ax:Ext aU bb:=fR.ext gH C4;replace bz:bb.heap[vx]? = some (.cells m.aM[k].enc.toArray T.r):=bz;replace ao:=ax.obj ao;clear fR gH fG en;have K7:=ao;have aer:=bz;have fj:=c9.trans ax;refine aa ?_;intro bp Gj aec aN Db;replace Db:bp.heap[Gj]? = some (.cells ([(⟨0,m.aM[k].cap,0⟩:o.dK)].flatMap o.dK.enc).toArray T.n):=Db;have fq:bs o.dK.enc T.n 3 bb.heap.size bp (.slice (some ⟨Gj,0,none⟩) 1 1) [(⟨0,m.aM[k].cap,0⟩:o.dK)]:=bs.Gl _ Db aec rfl (fun _=>rfl) rfl (by simp[maxLen]);replace ao:=aN.obj ao;replace bz:=aN.obj bz;have et:=fj.trans aN;have TZ:=Db;clear Db;refine aa ?_;refine K.call (MV ⟨⟨#[]⟩,m.aM[k].scalar,0,min m.aM[k].bf 0,max m.aM[k].ad 0,0⟩ _ m.scalars bp (ak.ext et) (by unfold o.ez;simp only;omega)) ?_;rintro _ bR ⟨rfl,aW⟩;have uw:=o.vz (o.fb m.aM[k].scalar (min m.aM[k].bf 0) (max m.aM[k].ad 0) m.scalars);refine aa ?_;intro bY pH C5 a8 gV;replace gV:bY.heap[pH]? = some (.cells (o.j9 m.scalars m.aM[k]).enc.toArray T.n):=gV;replace ao:=(aW.trans a8).obj ao;replace bz:=(aW.trans a8).obj bz;have dO:=fq.ext (aW.trans a8);have aeR:=(aN.trans aW).trans a8;clear fq;refine aa ?_;have anN:Gj<pH:=by have:=cH TZ;have:=aW.size;omega
  refine K.dj 79 m.aM[k].cap.toNat [1,2,4,5,6,10,11,13,54,55,56,78] (fun v:gN=>[(12,.slice v.1 v.2.1 v.2.2)]) (some ⟨Gj,0,none⟩,1,1) (fun j v W=>Ext bb W/\W.heap[pH]? = bY.heap[pH]? /\ bs o.dK.enc T.n 3 bb.heap.size W (.slice v.1 v.2.1 v.2.2) (⟨0,m.aM[k].cap,0⟩ :: List.replicate j (o.j9 m.scalars m.aM[k]))/\(Value.slice v.1 v.2.1 v.2.2).ownBlock≠some pH) bx bx ⟨aeR,rfl,dO,by simp[Value.ownBlock];omega⟩ ?_;rw[gV];have ap4:=cH gV;clear ao bz gV dO TZ;rintro j v S cd aR ⟨Ht,gV,ew,hz⟩;have ao:=Ht.obj K7;have bz:=Ht.obj aer;refine aa ?_;apply K.cond<;>intro g3
  .have eP:j<m.aM[k].cap.toNat:=by omega
   have uw:=o.vz (o.j9 m.scalars m.aM[k]);refine aa ?_;intro dg aal anT bV La;replace La:dg.heap[aal]? = some (.cells (o.j9 m.scalars m.aM[k]).enc.toArray T.n):=La;have iP:=ew.ext bV;have aS:((⟨0,m.aM[k].cap,0⟩:o.dK) :: List.replicate j (o.j9 m.scalars m.aM[k])).length=j+1:=by simp
   have Uo:=Ht.trans bV;have z138:=cH (bV.obj gV);refine K.Z1 (y:=o.j9 m.scalars m.aM[k]) iP La rfl (fun _=>rfl) o.vz (by rw[aS];omega) (by rw[aS];unfold maxLen;omega) Uo.size fun bl n c ea ji Ux kd=>?_;have qR:ea.heap[pH]? = _:=(Mod.grown (A:=fun i=>(Value.slice v.1 v.2.1 v.2.2).ownBlock=some i) Ux fun k hk=>hk).obj hz (bV.obj gV);refine aa ?_;refine⟨eP,bk,(bl,n,c),bx,iP.mc Uo Ux (Nat.le_refl _),qR,by rw[List.replicate_succ'];exact ji,fun e=>?_⟩;rcases kd with a | a
   .exact hz (a.symm.trans e)
   .rw[a] at e;injection e with e;omega
  .have kU:j=m.aM[k].cap.toNat:=by omega
   have jC:=ay.ext (ax.trans Ht);replace ew:bs o.dK.enc T.n 3 bb.heap.size cd (.slice v.1 v.2.1 v.2.2) (o.l8 m.scalars m.aM[k]):=by rw[kU] at ew;exact ew
   have fG:=o.j8 1 (o.cW m) 0;have Lo:=o.j8 2 ((o.dA m).take k) 0;have hlen:(o.cellsOf 1 (o.cW m) 0++o.cellsOf 2 ((o.dA m).take k) 0).length=o.total (o.cW m)+o.total ((o.dA m).take k):=by rw[List.length_append,fG,Lo]
   have rR:=o.Oo m bq k;refine aa ?_;intro dg bV;refine K.wide (JU (n:=86) (x:=10) (y:=12) (off:=1) (so:=2) (by decide) (by decide) (by decide) (by decide) c5 jA (by simp[cu]) (by simp[cu]) (by simp[cu];rfl) (by simp[cu]) (jC.ext bV) (ew.ext bV) (by rw[hlen,o.tK];omega) ⟨by rw[o.tq];simp[o.cW];omega,by rw[o.tq,List.length_take];omega,by simp⟩ fun bh cd aK cj wC=>?_);have ub:bh 56 = .int .i64 k:=by rw[aK 56 (by decide)];simp[cu]
   refine aa ?_;rw[ub];refine aa ?_;refine⟨br,bk,(),trivial,?_⟩;have aT:k<(o.dA m).length:=by simpa[o.dA] using br
   have e:(o.dA m)[k]=o.l8 m.scalars m.aM[k]:=by simp[o.dA]
   rw[List.take_succ_eq_append_getElem aT,e,o.IN,o.xF];have a6:(0+((o.dA m).take k).length:Nat)=k:=by rw[List.length_take];omega
   rw[a6,<-List.append_assoc,<-hlen];exact cj
 have qO:m.aM.length<=k:=by omega
 rw[List.take_of_length_le (by simpa[o.dA] using qO)] at ay;have alF:=o.Oo m bq m.aM.length;rw[List.take_of_length_le (by simp[o.dA])] at alF;refine aa ?_;refine K.call (Aw _ m aU (h.ext c9) aZ) ?_;rintro cy pr ⟨fy,sU⟩;obtain⟨cU,ci,rfl,_⟩:=fy.form;have DL:=ay.ext sU;have qM:(o.insts m).length<=30:=by have:=o.uE m;have:=bq.procs;omega
 refine aa ?_;refine K.dj 99 (o.insts m).length [1,2,4,5,6,97,98] (fun _:Unit=>[]) () (fun k _ W=>j5 av bW b4 (o.gD.of (o.hq 0 (o.cW m)) (o.hq (o.total (o.cW m)) (o.dA m)) (o.hq (o.total (o.cW m)+o.total (o.dA m)) ((o.fc m).take k)) (o.cellsOf 1 (o.cW m) 0++o.cellsOf 2 (o.dA m) 0++o.cellsOf 3 ((o.fc m).take k) 0)) W/\ev rZ pr W) bx bx ⟨by simpa[o.hq,o.cellsOf] using DL,ev.refl⟩ ?_;clear ay DL ao c9;rintro k _ S aU hk ⟨ay,nc⟩;have ao:=kl ay;have c9:=fF ay;have eU:kK aU (.slice cU (o.insts m).length ci) (o.insts m):=bs.iW (enc:=o.c8.enc) (fun _=>rfl) (fy.hB nc (by decide));refine aa ?_;apply K.cond<;>intro g3
 .have br:k<(o.insts m).length:=by omega
  obtain⟨jc,rfl⟩:=eU.addr (by omega);have yh:=o.rT _ (List.getElem_mem br);obtain⟨p,aO,gY,sO⟩:=o.DU yh;have dt:=bq.proc _ (List.getElem_mem aO);have UQ:=dt.cx;have rM:=dt.hx.1;refine aa ?_;intro wn xy C6 gH fG;refine aa ?_;intro bb fR bz;have ax:Ext aU bb:=fR.ext gH C6;replace bz:bb.heap[xy]? = some (.cells #[.int .i64 p,.int .i64 (o.insts m)[k].elem] T.l):=by rw[<-gY];exact bz
  replace ao:=ax.obj ao;clear fR gH fG eU;have fj:=c9.trans ax;obtain⟨a,rfl⟩:=ag.addr (by omega);obtain⟨mr,cE,dT,dL,eR,gn⟩:=ag.at p aO;obtain⟨e1,fv,rfl,ga⟩:=eR.form;obtain⟨oE,oe,rfl,lc⟩:=gn.form;replace dL:=dL.ext fj;refine aa ?_;intro bp aai anO aN sP;replace sP:bp.heap[aai]? = some (.cells (m.procs[p].enc (.slice e1 m.procs[p].vars.length fv) (.slice oE m.procs[p].cI.length oe)).toArray T.i):=sP;unfold o.dz.enc at sP;have et:=fj.trans aN;replace ao:=aN.obj ao;clear dL;refine aa ?_;intro bR JL aea aW He;replace He:bR.heap[JL]? = some (.cells ([(⟨0,m.procs[p].cx - 1,0⟩:o.dK)].flatMap o.dK.enc).toArray T.n):=He;have eG:bs o.dK.enc T.n 3 bp.heap.size bR (.slice (some ⟨JL,0,none⟩) 1 1) [(⟨0,m.procs[p].cx - 1,0⟩:o.dK)]:=bs.Gl _ He aea rfl (fun _=>rfl) rfl (by simp[maxLen]);have K7:=ao;have aen:=sP;replace sP:=aW.obj sP;clear He ao;refine aa ?_;refine K.dj 118 m.procs[p].vars.length [1,2,4,5,6,14,16,97,98,99,116,117] (fun v:gN=>[(17,.slice v.1 v.2.1 v.2.2)]) (some ⟨JL,0,none⟩,1,1) (fun j v W=>Ext bp W/\bs o.dK.enc T.n 3 bp.heap.size W (.slice v.1 v.2.1 v.2.2) (⟨0,m.procs[p].cx - 1,0⟩ :: (m.procs[p].vars.take j).map fun v=>o.fb v.scalar v.bf v.ad m.scalars)) bx bx ⟨aW,by simpa using eG⟩ ?_;clear sP eG;rintro j v S bY aR ⟨Ag,dO⟩;have ao:=Ag.obj K7;have sP:=Ag.obj aen;have k6:=et.trans Ag;refine aa ?_;apply K.cond<;>intro g4
  .have eP:j<m.procs[p].vars.length:=by omega
   obtain⟨xu,rfl⟩:=eR.addr (by omega);have en:=((eR.at j eP).cells).ext k6;have Mp:=dt.var _ (List.getElem_mem eP);have kX:=o.IY Mp hx.1;refine aa ?_;intro cd aaj anQ bJ C9;replace C9:cd.heap[aaj]? = some (.cells m.procs[p].vars[j].enc.toArray T.j):=C9;replace ao:=bJ.obj ao;have jL:=k6.trans bJ;clear en;refine aa ?_;refine K.call (MV m.procs[p].vars[j] _ m.scalars cd (ak.ext jL) (by unfold o.ez;omega)) ?_;rintro _ dg ⟨rfl,bV⟩;have uw:=o.vz (o.fb m.procs[p].vars[j].scalar m.procs[p].vars[j].bf m.procs[p].vars[j].ad m.scalars);refine aa ?_;intro ea aah anM b1 K8;replace K8:ea.heap[aah]? = some (.cells (o.fb m.procs[p].vars[j].scalar m.procs[p].vars[j].bf m.procs[p].vars[j].ad m.scalars).enc.toArray T.n):=K8;have ji:=dO.ext ((bJ.trans bV).trans b1);have Up:=((Ag.trans bJ).trans bV).trans b1;have aS:((⟨0,m.procs[p].cx - 1,0⟩:o.dK) :: (m.procs[p].vars.take j).map fun v=>o.fb v.scalar v.bf v.ad m.scalars).length=j+1:=by simp;omega
   refine K.mQ (y:=o.fb m.procs[p].vars[j].scalar m.procs[p].vars[j].bf m.procs[p].vars[j].ad m.scalars) ji K8 rfl (fun _=>rfl) o.vz (by rw[aS];omega) (by rw[aS];unfold maxLen;omega) Up.size fun bl n c e3 qT pY=>?_;refine aa ?_;exact⟨eP,bk,(bl,n,c),bx,ji.mc Up pY (Nat.le_refl _),by rw[List.take_succ_eq_append_getElem eP,List.map_append];exact qT⟩
  .have As:=ay.ext ((ax.trans aN).trans Ag);have MI:ev rZ aU bY:=ev.ext ((ax.trans aN).trans Ag);replace dO:bs o.dK.enc T.n 3 bp.heap.size bY (.slice v.1 v.2.1 v.2.2) (o.lz m (o.insts m)[k]):=by rw[List.take_of_length_le (by omega)] at dO;rw[sO];exact dO
   have fG:=o.j8 1 (o.cW m) 0;have Lo:=o.j8 2 (o.dA m) 0;have aeI:=o.j8 3 ((o.fc m).take k) 0;have hlen:(o.cellsOf 1 (o.cW m) 0++o.cellsOf 2 (o.dA m) 0++o.cellsOf 3 ((o.fc m).take k) 0).length=o.total (o.cW m)+o.total (o.dA m)+o.total ((o.fc m).take k):=by rw[List.length_append,List.length_append,fG,Lo,aeI]
   have rR:=o.YD m bq k;have z7:(o.lz m (o.insts m)[k]).length<=10:=by rw[sO,o.A7];omega
   refine aa ?_;intro dg bV;refine K.wide (JU (n:=130) (x:=14) (y:=17) (off:=2) (so:=3) (by decide) (by decide) (by decide) (by decide) c5 jA (by simp[cu]) (by simp[cu]) (by simp[cu];rfl) (by simp[cu]) (As.ext bV) (dO.ext bV) (by rw[hlen];omega) ⟨by rw[o.tq];simp[o.cW];omega,by rw[o.tq];simp[o.dA];omega,by rw[o.tq,List.length_take];omega⟩ fun bh cd aK cj wC=>?_);have ub:bh 99 = .int .i64 k:=by rw[aK 99 (by decide)];simp[cu]
   refine aa ?_;rw[ub];refine aa ?_;refine⟨br,bk,(),trivial,?_,((nc.trans MI).trans (ev.ext bV)).trans wC⟩;have aT:k<(o.fc m).length:=by simpa[o.fc] using br
   have e:(o.fc m)[k]=o.lz m (o.insts m)[k]:=by simp[o.fc]
   rw[List.take_succ_eq_append_getElem aT,e,o.IN,o.xF];have a6:(0+((o.fc m).take k).length:Nat)=k:=by rw[List.length_take];omega
   rw[a6,<-List.append_assoc,<-hlen];exact cj
 have Dt:(o.insts m).length<=k:=by omega
 rw[List.take_of_length_le (by simpa[o.fc] using Dt)] at ay;have aP:=hA ay;obtain⟨vs,u,g1,g2,g3,g4⟩:=ay.ex;have fin:∀{bb W},Ext aU bb->dC cr bb W->(∃xs jJ,Value.tuple #[.agg #[cB (vs 0),cB (vs 1),cB (vs 2),.int .i64 (o.cc m).length,cB (vs 3),cB (vs 4)],cB u] = .tuple #[.agg xs.toArray,jJ]/\eH w (fun w=>o.ja w xs (o.layout m)) W/\eH w (fun w=>bF 4 (Flat o.Cell.slot) w jJ (o.cc m)) W)/\Ext w W:=by
  intro bb W he hw;have dQ:=he.obj aP;have ac8:=(g2.ext he).mod (hw.mod (A:=fun i=>i=cr) rfl) fun i k ad hk e=>by subst e;exact(g2.ext he).not dQ (by decide) i ad hk
  have ac9:=(g4.ext he).mod (hw.mod (A:=fun i=>i=cr) rfl) fun k hk e=>by
   subst e;obtain⟨cur,gW⟩:=(g4.ext he).aV k hk;rw[dQ] at gW;injection gW with gW;injection gW with _ e;exact absurd e (by decide)
  have bQ:w.heap.size<=av.heap.size:=by omega
  have r5:=fun(i:Nat) (ad:i<5)=>bs.new (e:=T.a) (enc:=eB) (fun _=>rfl) (bs.low bQ (ac8.own i ad));refine⟨⟨[_,_,_,_,_,_],_,rfl,fun eK r1=>⟨⟨_,_,_,_,_,rfl,r5 0 (by decide) eK r1,r5 1 (by decide) eK r1,r5 2 (by decide) eK r1,r5 3 (by decide) eK r1,r5 4 (by decide) eK r1⟩⟩,bs.new (e:=T.u) (enc:=o.Cell.slot) (fun _=>rfl) (bs.low bQ ac9)⟩,hw.ext (c9.trans he) (by omega)⟩
 replace g1:aU.heap[bW]? = some (.cells #[cB (vs 0),cB (vs 1),cB (vs 2),.int .i64 (o.cc m).length,cB (vs 3),cB (vs 4)] T.g):=g1;refine aa ?_;intro bb ax;replace g1:=ax.obj g1;replace g3:=ax.obj g3;replace aP:=ax.obj aP;dsimp only[cB] at g1 g3;refine aa ?_;refine⟨?_,?_⟩
 .refine aa ?_;refine⟨?_,?_⟩
  .refine aa ?_;intro bp ey bA;refine aa ?_;exact fin ax ey
  .refine aa ?_;intro bp ey bA;replace g3:=ey.obj g3 (by omega);refine aa ?_;exact fin ax ey
 .refine aa ?_;intro bp ey bA;refine aa ?_;exact fin ax ey
end Go.Proofs.R
end
section
namespace o
theorem H9{m:Model}(h:(check m).cX=0):lay m=layout m:=by unfold lay;rw[if_pos h]
theorem Wk{m:Model}(h:¬(check m).cX=0):lay m=M6:=by unfold lay;rw[if_neg h]
theorem nf{m:Model}(h:eF m):(cc m).length<=64:=by
 have:=H8 h
 have:=h.cells
 omega
open Go Go.RowKit bt in
theorem ja.zero(w:World):ja w [.slice none 0 0,.slice none 0 0,.slice none 0 0,.int .i64 0,.slice none 0 0,.slice none 0 0] M6:=⟨_,_,_,_,_,rfl,bF.nil,bF.nil,bF.nil,bF.nil,bF.nil⟩
end o
namespace Go.Proofs.R
open Go Go.RowKit bt
theorem Wh(cs:List Value)(m:o.Model)(w:World)(h:o.ec w cs m)(aZ:m.cQ)(bc:hv w) :
  bu Tryz.prog F.x #[.agg cs.toArray] w fun v w'=>(∃xs,v = .agg xs.toArray/\eH w (fun w=>o.ja w xs (o.lay m)) w')/\Ext w w':=by
 have bq:=h;obtain⟨cz,bS,b9,c1,cn,c2,cp,bP,cA,bX,rfl,_⟩:=h.form;refine bL E.x ?_;refine bG ?_;refine aa ?_;intro av bC cR aB ao;refine aa ?_;intro aU cr dQ aA aP;have gh:=cH ao;replace ao:=aA.obj ao;have z2:=cH aP;have z3:=aB.size;have a6:=aB.trans aA;refine aa ?_;refine K.call (ahY _ m aU (bq.ext a6) aZ (bc.ext a6)) ?_;rintro _ bb ⟨rfl,ax⟩;replace ao:=ax.obj ao;replace aP:=ax.obj aP;have bK:=a6.trans ax;by_cases hk:(o.check m).cX=0
 .rw[decide_eq_true hk];refine aa ?_;refine K.call (ahu _ m bb (bq.ext bK) aZ (o.lZ hk)) ?_;rintro _ bp ⟨⟨xs,u,rfl,c7,ay⟩,aN⟩;obtain⟨k3,d0,j1,d1,j2,d2,nY,d3,nq,d4,rfl,_⟩:=c7.here.form;obtain⟨uV,sA,rfl,_⟩:=ay.here.form;replace aP:=aN.obj aP;have b0:=bK.trans aN;have z4:=ax.size;refine aa ?_;intro bR b5 fo aW bz;replace aP:=aW.obj aP;refine aa ?_;intro bY fZ ct;have aD:=(c7.ext aW aN.size).wr fZ (by omega);refine aa ?_;exact⟨⟨_,rfl,by rw[o.H9 hk];exact aD.low bK.size⟩,fZ.ext (b0.trans aW) (by omega)⟩
 .rw[decide_eq_false hk];refine aa ?_;intro bp ey bA;refine aa ?_;exact⟨⟨[_,_,_,_,_,_],rfl,by rw[o.Wk hk];exact gE.of fun _=>o.ja.zero _⟩,ey.ext bK (by omega)⟩
end Go.Proofs.R
end
section
namespace o
theorem aba{c:dv}{s:List Scalar}(h:BC c s)(ak:c.scalar≠0):∃i,∃ad:i<s.length,c.scalar=(i:Int)+1/\s[i].size=size c.scalar s:=by
 have e:=h.sc.resolve_left ak;unfold size at e ⊢;split at e
 .rename_i x au;obtain⟨cw,s3⟩:=List.getElem?_eq_some_iff.1 au;split at e
  .rename_i h1;refine⟨(c.scalar - 1).toNat,cw,by omega,?_⟩;rw[s3,if_pos h1]
  .exact absurd rfl e
 .exact absurd rfl e
theorem MN(so h8:Int)(l:List dK)(b:dK):fi so h8 (l++[b]) 0=fi so h8 l 0++[⟨so,h8,(l.length:Nat),b.bf,b.ad,b.kind⟩]:=by
 rw[MM,Nat.zero_add]
end o
namespace Go.Proofs.R
open Go Go.RowKit bt
theorem Wa{α:Type}{enc:α->List Value}{e:TypeId}{sz base:Nat}{w w':World}{v:Value}{xs:List α}(bc:bs enc e sz base w v xs)(aZ:w.grownBy w' v.ownBlock):ev [e] w w':=ev.mod (A:=fun k=>v.ownBlock=some k) (Mod.grown aZ fun k hk=>hk) fun k c t aw a=>by
 obtain⟨cur,h⟩:=bc.aV k a;rw[aw] at h;injection h with h;injection h with _ h;rw[h];simp
theorem ajV(cs:List Value)(m:o.Model)(w:World)(h:o.ec w cs m)(aZ:m.cQ)(bq:o.eF m) :
  bu Tryz.prog F.Ew #[.agg cs.toArray] w fun v w'=>bs o.Cell.enc T.kY 6 w.heap.size w' v (o.cc m)/\Ext w w':=by
 obtain⟨cz,bS,b9,c1,cn,c2,cp,bP,cA,bX,rfl,ak,h1,U,ag,aJ,eI,ej,eo,dX,ep⟩:=h.form;have hx:=bq.hx;refine bL E.Ew ?_;refine bG ?_;refine aa ?_;intro av bC cR aB ao;refine aa ?_;refine K.dj 4 m.vars.length [1] (fun v:gN=>[(3,.slice v.1 v.2.1 v.2.2)]) (none,0,0) (fun k v W=>Ext av W/\bs o.Cell.enc T.kY 6 av.heap.size W (.slice v.1 v.2.1 v.2.2) (o.cellsOf 1 ((o.cW m).take k) 0)) bx bx ⟨Ext.refl _,bs.nil _ _ _ _ _⟩ ?_;have qL:=ao;clear ao;rintro k v S aU hk ⟨aA,fN⟩;have ao:=aA.obj qL;have a6:=aB.trans aA;refine aa ?_;apply K.cond<;>intro g1
 .have br:k<m.vars.length:=by omega
  obtain⟨a,rfl⟩:=h1.addr (by omega);have en:=((h1.at k br).cells).ext a6;have dt:=bq.var _ (List.getElem_mem br);have kX:=o.IY dt hx.1;have aT:k<(o.cW m).length:=by simpa[o.cW] using br
  have rR:=o.IS m bq (k+1);rw[o.Fs aT] at rR;have vS:(o.cW m)[k]=o.yW m.scalars m.vars[k]:=by simp[o.cW]
  rw[vS,o.Bu] at rR;have eM:=o.tJ m.vars[k] m.scalars;refine aa ?_;refine K.gB (.tuple #[.int .i64 (o.bounds m.vars[k] m.scalars).1,.int .i64 (o.bounds m.vars[k] m.scalars).2]) (fun w' e=>NI m.vars[k] _ m.scalars w' (ak.ext (a6.trans e))) ?_;refine aa ?_;intro bb ax;have fO:=fN.ext ax;have bz:=ax.obj ao;have ke:=aA.trans ax;clear ao en;refine aa ?_;refine K.dj 7 (o.cells m.vars[k] m.scalars).toNat [1,4,5,6] (fun v:gN=>[(3,.slice v.1 v.2.1 v.2.2)]) v (fun j v W=>Ext av W/\bs o.Cell.enc T.kY 6 av.heap.size W (.slice v.1 v.2.1 v.2.2) (o.cellsOf 1 ((o.cW m).take k) 0++o.fi 1 k (List.replicate j (o.fb m.vars[k].scalar m.vars[k].bf m.vars[k].ad m.scalars)) 0)) bx bx ⟨ke,by simpa[o.fi] using fO⟩ ?_;clear bz fO fN aA ax ke;rintro j v S bp aR ⟨aN,fq⟩;have ao:=aN.obj qL;have b0:=aB.trans aN;have en:=((h1.at k br).cells).ext b0;refine aa ?_;refine K.gB _ (fun w' e=>NJ m.vars[k] _ m.scalars w' (ak.ext (b0.trans e))) ?_;refine aa ?_;intro bR aW;replace ao:=aW.obj ao;replace en:=en.ext aW;have eG:=fq.ext aW;have nK:=aN.trans aW;refine aa ?_;apply K.cond<;>intro g2
  .have eP:j<(o.cells m.vars[k] m.scalars).toNat:=by omega
   refine aa ?_;refine K.call (NL m.vars[k].scalar bR (by unfold o.ez;omega)) ?_;rintro _ np ⟨rfl,rfl⟩;refine aa ?_;intro bY ek e6 a8 ct;have dO:=eG.ext a8;have Ae:=nK.trans a8;have aS:(o.cellsOf 1 ((o.cW m).take k) 0++o.fi 1 k (List.replicate j (o.fb m.vars[k].scalar m.vars[k].bf m.vars[k].ad m.scalars)) 0).length=o.total ((o.cW m).take k)+j:=by
    rw[List.length_append,o.j8,o.s9,List.length_replicate]
   refine K.mQ (y:=⟨1,k,j,(o.bounds m.vars[k] m.scalars).1,(o.bounds m.vars[k] m.scalars).2,o.kindOf m.vars[k].scalar⟩) dO ct rfl (fun _=>rfl) o.Cf (by rw[aS];omega) (by rw[aS];unfold maxLen;omega) Ae.size fun bl n c cd ew jV=>?_;refine aa ?_;refine⟨eP,bk,(bl,n,c),bx,dO.mc Ae jV (Nat.le_refl _),?_⟩;rw[List.replicate_succ',o.MN,<-List.append_assoc,List.length_replicate,o.B8];rw[o.B8] at ew;exact ew
  .have kU:j=(o.cells m.vars[k] m.scalars).toNat:=by omega
   refine aa ?_;refine⟨br,bk,v,bx,nK,?_⟩;have a6:(0+((o.cW m).take k).length:Nat)=k:=by rw[List.length_take];omega
   rw[List.take_succ_eq_append_getElem aT,vS,o.xF,a6];rw[kU] at eG;exact eG
 have lT:m.vars.length<=k:=by omega
 rw[List.take_of_length_le (by simpa[o.cW] using lT)] at fN;have Oq:=o.IS m bq m.vars.length;rw[List.take_of_length_le (by simp[o.cW])] at Oq;refine aa ?_;refine K.dj 8 m.aM.length [1] (fun v:gN=>[(3,.slice v.1 v.2.1 v.2.2)]) v (fun k v W=>Ext av W/\bs o.Cell.enc T.kY 6 av.heap.size W (.slice v.1 v.2.1 v.2.2) (o.cellsOf 1 (o.cW m) 0++o.cellsOf 2 ((o.dA m).take k) 0)) bx bx ⟨aA,by simpa[o.cellsOf] using fN⟩ ?_;clear ao fN aA a6;rintro k v S aU hk ⟨aA,fN⟩;have ao:=aA.obj qL;have a6:=aB.trans aA;refine aa ?_;apply K.cond<;>intro g2
 .have br:k<m.aM.length:=by omega
  obtain⟨a,rfl⟩:=U.addr (by omega);have en:=((U.at k br).cells).ext a6;have dt:=bq.chan _ (List.getElem_mem br);have kX:=o.JZ dt hx.1;have hZ:=dt.cap;have aT:k<(o.dA m).length:=by simpa[o.dA] using br
  have rR:=o.Oo m bq (k+1);rw[o.Fs aT] at rR;have vS:(o.dA m)[k]=o.l8 m.scalars m.aM[k]:=by simp[o.dA]
  rw[vS,o.tK] at rR;have x6:(o.cellsOf 1 (o.cW m) 0++o.cellsOf 2 ((o.dA m).take k) 0).length=o.total (o.cW m)+o.total ((o.dA m).take k):=by rw[List.length_append,o.j8,o.j8]
  refine aa ?_;intro bb hi lp ax dJ;replace dJ:bb.heap[hi]? = some (.cells m.aM[k].enc.toArray T.r):=dJ;replace ao:=ax.obj ao;have fO:=fN.ext ax;clear en;have ke:=aA.trans ax;refine aa ?_;intro bp cM fM aN bA;have fq:=fO.ext aN;have sT:=ke.trans aN;refine K.mQ (y:=⟨2,k,0,0,m.aM[k].cap,0⟩) fq bA rfl (fun _=>rfl) o.Cf (by rw[x6];omega) (by rw[x6];unfold maxLen;omega) sT.size fun bl n c bR eG kx=>?_;have ao:=fq.box kx (aN.obj ao) (by decide);have dJ:=fq.box kx (aN.obj dJ) (by decide);have nK:=fq.mc sT kx (Nat.le_refl _);have b3:=aB.trans nK;have ap8:=cH dJ;clear fN fO bA fM aN ax lp;refine ef ?_;simp -dsimp only[cF];refine ef ?_;intro bY a8;replace ao:=a8.obj ao;replace dJ:=a8.obj dJ;have dO:=eG.ext a8;have cV:=b3.trans a8;have Ae:=nK.trans a8;refine K.gU [1,3,8,9] (fun _:Unit=>[(10,.int .i64 (o.j9 m.scalars m.aM[k]).bf),(11,.int .i64 (o.j9 m.scalars m.aM[k]).ad)]) (fun _ W=>Ext bY W) ?_ ?_
  .refine aa ?_;apply K.cond<;>intro g3
   .obtain⟨i,ad,DL,Mf⟩:=o.aba dt (by omega);obtain⟨a0,rfl⟩:=ak.addr (by omega);have gy:=((ak.at i ad).cells).ext cV;refine aa ?_;refine K.dp i (by omega) ad ?_;refine aa ?_;intro cd bJ;refine aa ?_;have e:o.j9 m.scalars m.aM[k]=⟨0,m.scalars[i].size,m.aM[k].scalar+1⟩:=by unfold o.j9 o.fb;rw[if_neg (by omega),Mf]
    rw[e];exact⟨(),bx,bJ⟩
   .have gG:m.aM[k].scalar=0:=by omega
    refine aa ?_;have e:o.j9 m.scalars m.aM[k]=⟨min 0 m.aM[k].bf,max 0 m.aM[k].ad,0⟩:=by unfold o.j9 o.fb;rw[if_pos gG,Int.min_comm,Int.max_comm]
    rw[e];exact⟨(),bx,Ext.refl _⟩
  rintro _ S cd bJ;replace ao:=bJ.obj ao;replace dJ:=bJ.obj dJ;have ew:=dO.ext bJ;have Af:=Ae.trans bJ;have ye:o.j9 m.scalars m.aM[k]=⟨(o.j9 m.scalars m.aM[k]).bf,(o.j9 m.scalars m.aM[k]).ad,o.kindOf m.aM[k].scalar⟩:=by
   unfold o.j9 o.fb o.kindOf;split<;>rfl
  have HV:∀{W:World},W.heap[hi]? = cd.heap[hi]? -> _:=fun e=>e.trans dJ;refine aa ?_;refine K.w3 [1,8,9,10,11] (fun x:gN×Nat=>[(3,.slice x.1.1 x.1.2.1 x.1.2.2),(12,.int .i64 ((x.2:Int)+1))]) ((bl,n,c),0) (fun x W=>(Ext av W/\W.heap[hi]? = cd.heap[hi]? /\ (x.2:Int)<=m.aM[k].cap)/\bs o.Cell.enc T.kY 6 av.heap.size W (.slice x.1.1 x.1.2.1 x.1.2.2) (o.cellsOf 1 (o.cW m) 0++o.cellsOf 2 ((o.dA m).take k) 0++o.fi 2 k (⟨0,m.aM[k].cap,0⟩ :: List.replicate x.2 (o.j9 m.scalars m.aM[k])) 0)) (fun x=>(m.aM[k].cap - x.2).toNat) bx ⟨⟨Af,rfl,by simp only;omega⟩,by simpa[o.fi] using ew⟩ ?_;clear ao dJ ew dO eG;rintro⟨v,j⟩ S dg ⟨⟨Dg,lp,aR⟩,iP⟩;have ao:=Dg.obj qL;have dJ:=HV lp;simp only at aR;refine aa ?_;apply K.cond<;>intro g4
  .refine aa ?_;refine K.call (NL m.aM[k].scalar dg (by unfold o.ez;omega)) ?_;rintro _ np ⟨rfl,rfl⟩;refine aa ?_;intro ea Gi G7 b1 hJ;have ji:=iP.ext b1;have Dh:=Dg.trans b1;have aS:(o.cellsOf 1 (o.cW m) 0++o.cellsOf 2 ((o.dA m).take k) 0++o.fi 2 k (⟨0,m.aM[k].cap,0⟩ :: List.replicate j (o.j9 m.scalars m.aM[k])) 0).length=o.total (o.cW m)+o.total ((o.dA m).take k)+(j+1):=by
    rw[List.length_append,x6,o.s9,List.length_cons,List.length_replicate]
   refine K.mQ (y:=⟨2,k,(j:Int)+1,(o.j9 m.scalars m.aM[k]).bf,(o.j9 m.scalars m.aM[k]).ad,o.kindOf m.aM[k].scalar⟩) ji hJ rfl (fun _=>rfl) o.Cf (by rw[aS];omega) (by rw[aS];unfold maxLen;omega) Dh.size fun bl n c e3 qT pY=>?_;have aeA:=ji.box pY (b1.obj dJ) (by decide);refine aa ?_;refine⟨((bl,n,c),j+1),bx,⟨⟨ji.mc Dh pY (Nat.le_refl _),aeA.trans (HV rfl).symm,by simp only;omega⟩,?_⟩,by simp only;omega⟩;rw[List.replicate_succ',<-List.cons_append,o.MN,<-List.append_assoc,List.length_cons,List.length_replicate];rw[ye] at qT ⊢;exact qT
  .refine aa ?_;refine⟨br,bk,v,bx,Dg,?_⟩;have a6:(0+((o.dA m).take k).length:Nat)=k:=by rw[List.length_take];omega
   have pN:j=m.aM[k].cap.toNat:=by omega
   rw[List.take_succ_eq_append_getElem aT,vS,o.xF,a6,<-List.append_assoc];rw[pN] at iP;exact iP
 have qO:m.aM.length<=k:=by omega
 rw[List.take_of_length_le (by simpa[o.dA] using qO)] at fN;refine aa ?_;refine K.call (Bc _ m aU (h.ext a6) aZ) ?_;rintro cy pr ⟨fy,sU⟩;obtain⟨cU,ci,rfl,_⟩:=fy.form;have LN:∀{W:World},ev [T.kY] pr W->kK W (.slice cU (o.insts m).length ci) (o.insts m):=fun k=>bs.iW (enc:=o.c8.enc) (fun _=>rfl) (fy.hB k (by decide));have qM:(o.insts m).length<=30:=by have:=o.uE m;have:=bq.procs;omega
 have U5:=fN.ext sU;have Un:=aA.trans sU;have ap5:=sU.size;refine aa ?_;refine K.dj 14 (o.insts m).length [1,13] (fun v:gN=>[(3,.slice v.1 v.2.1 v.2.2)]) v (fun k v W=>(Ext av W/\ev [T.kY] pr W)/\bs o.Cell.enc T.kY 6 av.heap.size W (.slice v.1 v.2.1 v.2.2) (o.cellsOf 1 (o.cW m) 0++o.cellsOf 2 (o.dA m) 0++o.cellsOf 3 ((o.fc m).take k) 0)) bx bx ⟨⟨Un,ev.refl⟩,by simpa[o.cellsOf] using U5⟩ ?_;clear ao fN aA a6 U5 sU Un;rintro k v S aU hk ⟨⟨aA,nc⟩,fN⟩;have eU:=LN nc;have ao:=aA.obj qL;have a6:=aB.trans aA;refine aa ?_;apply K.cond<;>intro g3
 .have br:k<(o.insts m).length:=by omega
  obtain⟨jc,rfl⟩:=eU.addr (by omega);have yh:=o.rT _ (List.getElem_mem br);obtain⟨p,aO,gY,sO⟩:=o.DU yh;have dt:=bq.proc _ (List.getElem_mem aO);have UQ:=dt.cx;have rM:=dt.hx.1;obtain⟨a,rfl⟩:=ag.addr (by omega);obtain⟨mr,cE,dT,dL,eR,gn⟩:=ag.at p aO;obtain⟨e1,fv,rfl,ga⟩:=eR.form;obtain⟨oE,oe,rfl,lc⟩:=gn.form;replace dL:=dL.ext a6;have aT:k<(o.fc m).length:=by simpa[o.fc] using br
  have rR:=o.YD m bq (k+1);rw[o.Fs aT] at rR;have vS:(o.fc m)[k]=o.th m.scalars m.procs[p]:=by simp[o.fc,sO]
  rw[vS,o.A7] at rR;have x6:(o.cellsOf 1 (o.cW m) 0++o.cellsOf 2 (o.dA m) 0++o.cellsOf 3 ((o.fc m).take k) 0).length=o.total (o.cW m)+o.total (o.dA m)+o.total ((o.fc m).take k):=by rw[List.length_append,List.length_append,o.j8,o.j8,o.j8]
  refine aa ?_;intro bb ax;replace dL:=dL.ext ax;replace ao:=ax.obj ao;replace eU:=eU.ext Flat.ext ax;have fO:=fN.ext ax;have ke:=aA.trans ax;refine aa ?_;refine K.dp p gY aO ?_;refine aa ?_;intro wn xy C6 gH fG;refine⟨gH,?_⟩;refine aa ?_;intro bp ey bA;have Hs:Ext bb bp:=ey.ext gH C6;replace bA:bp.heap[xy]? = some (.cells (m.procs[p].enc (.slice e1 m.procs[p].vars.length fv) (.slice oE m.procs[p].cI.length oe)).toArray T.i):=bA;unfold o.dz.enc at bA;replace ao:=Hs.obj ao;have fq:=fO.ext Hs;have sT:=ke.trans Hs;clear ey gH fG dL fO fN eU;refine aa ?_;intro bR dR kR aW cD;have eG:=fq.ext aW;have nK:=sT.trans aW;refine K.mQ (y:=⟨3,k,0,0,m.procs[p].cx - 1,0⟩) eG cD rfl (fun _=>rfl) o.Cf (by rw[x6];omega) (by rw[x6];unfold maxLen;omega) nK.size fun bl n c bY dO jU=>?_;have ao:=eG.box jU (aW.obj ao) (by decide);have x4:=eG.box jU (aW.obj bA) (by decide);have Ae:=eG.mc nK jU (Nat.le_refl _);have MI:ev [T.kY] pr bY:=((nc.trans (ev.ext (ax.trans Hs))).trans (ev.ext aW)).trans (Wa eG jU);clear bA fq;have Vr:∀{W:World},W.heap[xy]? = bY.heap[xy]? -> _:=fun e=>e.trans x4;refine aa ?_;refine K.dj 16 m.procs[p].vars.length [1,13,14,15] (fun v:gN=>[(3,.slice v.1 v.2.1 v.2.2)]) (bl,n,c) (fun j v W=>((Ext av W/\ev [T.kY] pr W)/\W.heap[xy]? = bY.heap[xy]?)/\bs o.Cell.enc T.kY 6 av.heap.size W (.slice v.1 v.2.1 v.2.2) (o.cellsOf 1 (o.cW m) 0++o.cellsOf 2 (o.dA m) 0++o.cellsOf 3 ((o.fc m).take k) 0++o.fi 3 k (⟨0,m.procs[p].cx - 1,0⟩ :: (m.procs[p].vars.take j).map fun v=>o.fb v.scalar v.bf v.ad m.scalars) 0)) bx bx ⟨⟨⟨Ae,MI⟩,rfl⟩,by simpa[o.fi] using dO⟩ ?_;clear ao x4 dO;rintro j v S cd aR ⟨⟨⟨Af,s8⟩,C6⟩,ew⟩;have ao:=Af.obj qL;have x4:=Vr C6;have dw:=aB.trans Af;refine aa ?_;apply K.cond<;>intro g4
  .have eP:j<m.procs[p].vars.length:=by omega
   obtain⟨xu,rfl⟩:=eR.addr (by omega);have en:=((eR.at j eP).cells).ext dw;have Mp:=dt.var _ (List.getElem_mem eP);have kX:=o.IY Mp hx.1;refine aa ?_;refine K.gB (.tuple #[.int .i64 (o.bounds m.procs[p].vars[j] m.scalars).1,.int .i64 (o.bounds m.procs[p].vars[j] m.scalars).2]) (fun w' e=>NI m.procs[p].vars[j] _ m.scalars w' (ak.ext (dw.trans e))) ?_;refine aa ?_;intro dg bV;replace ao:=bV.obj ao;replace x4:=bV.obj x4;replace en:=en.ext bV;have iP:=ew.ext bV;have Dg:=Af.trans bV;refine aa ?_;refine K.call (NL m.procs[p].vars[j].scalar dg (by unfold o.ez;omega)) ?_;rintro _ np ⟨rfl,rfl⟩;refine aa ?_;intro ea hi lp b1 dJ;have ji:=iP.ext b1;have Dh:=Dg.trans b1;have aS:(o.cellsOf 1 (o.cW m) 0++o.cellsOf 2 (o.dA m) 0++o.cellsOf 3 ((o.fc m).take k) 0++o.fi 3 k (⟨0,m.procs[p].cx - 1,0⟩ :: (m.procs[p].vars.take j).map fun v=>o.fb v.scalar v.bf v.ad m.scalars) 0).length=o.total (o.cW m)+o.total (o.dA m)+o.total ((o.fc m).take k)+(j+1):=by
    rw[List.length_append,x6,o.s9,List.length_cons,List.length_map,List.length_take];omega
   have cw:((m.procs[p].vars.take j).map fun v=>o.fb v.scalar v.bf v.ad m.scalars).length=j:=by simp;omega
   refine K.mQ (y:=⟨3,k,1+(j:Int),(o.bounds m.procs[p].vars[j] m.scalars).1,(o.bounds m.procs[p].vars[j] m.scalars).2,o.kindOf m.procs[p].vars[j].scalar⟩) ji dJ rfl (fun _=>rfl) o.Cf (by rw[aS];omega) (by rw[aS];unfold maxLen;omega) Dh.size fun bl n c e3 qT pY=>?_;have aem:=ji.box pY (b1.obj x4) (by decide);refine aa ?_;refine⟨eP,bk,(bl,n,c),bx,⟨⟨ji.mc Dh pY (Nat.le_refl _),(s8.trans (ev.ext (bV.trans b1))).trans (Wa ji pY)⟩,aem.trans (Vr rfl).symm⟩,?_⟩;rw[List.take_succ_eq_append_getElem eP,List.map_append,<-List.cons_append,List.map_cons,List.map_nil,o.MN,<-List.append_assoc,List.length_cons,cw,o.B8 m.procs[p].vars[j],show((j+1:Nat):Int)=1+(j:Int) from by omega];exact qT
  .refine aa ?_;refine⟨br,bk,v,bx,⟨Af,s8⟩,?_⟩;have a6:(0+((o.fc m).take k).length:Nat)=k:=by rw[List.length_take];omega
   rw[List.take_of_length_le (l:=m.procs[p].vars) (by omega)] at ew;rw[List.take_succ_eq_append_getElem aT,vS,o.xF,a6,<-List.append_assoc];exact ew
 .rw[List.take_of_length_le (by simp[o.fc];omega)] at fN;refine aa ?_;exact⟨bs.low aB.size fN,a6⟩
end Go.Proofs.R
end