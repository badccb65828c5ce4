/- Texts joined: ModG LayA LayB LayC LayD LayE LayF LayG LayH. -/
import Derived.Test.YtempnjgiohpopaaGreatDoorQrdd
import Derived.Test.YtempnjgiohpopaaGreatDoorQrde
import Derived.Test.YtempnjgiohpopaaGreatDoorQrdi
import Derived.Test.YtempnjgiohpopaaGreatDoorQrdj
import Derived.Test.YtempnjgiohpopaaGreatDoorQrdl
set_option linter.all false
set_option maxRecDepth 8000
set_option maxHeartbeats 16000000
section
namespace o
theorem ad8{m:Model}(h:(ou m).dp=0):ou m=rn:=Kz (ad9 h)
end o
namespace Go.Proofs.R
open Go Go.RowKit bt
theorem Xu(b:Nat)(w:World):CallsD Tryz.prog F.n #[.pointer (some ⟨b,0,none⟩)] .returning w fun e iY w'=>iY = .returning∧∃v,e = .returned v∧w'=w:=by
 refine K.UH lx Ml.n (args:=[_]) (Nat.le_of_ble_eq_true rfl) ?_;dsimp only[GU.n];refine bF ?_;dsimp only[nw];refine aa ?_;refine K.adh (by kernel_rfl) ?_
 (repeat' first
 | assumption
 | exact Ext.refl _
 | refine Ext.trans ?_ (by assumption)
 | refine K.wrap (by omega) ?_
 | refine K.rO (by assumption) ?_ rfl ?_
 | refine K.pQ (by assumption) ?_ rfl ?_
 | refine K.tg (by assumption) ?_ (by omega) rfl ?_
 | refine K.th (by assumption) ?_ (by omega) rfl ?_
 | refine K.tf (by assumption) ?_ (by omega) rfl ?_
 | refine K.s9 (by omega) ?_
 | refine K.su (by first | assumption | omega) ?_
 | refine K.ss (by first | assumption | omega) ?_
 | refine K.qs (by assumption) ?_
 | refine K.qq (by assumption) ?_
 | simp -dsimp only[cJ,cw,Nat.reduceAdd,Nat.reduceEqDiff,reduceIte,reduceCtorEq,cU])
theorem Xt(f:o.p9)(b:Nat)(w:World)(aD:w.heap[b]? = some (.cells #[.int .i64 0,.int .i64 0,.int .i64 0,.int .i64 0] T.s)) :
  CallsD Tryz.prog F.n #[.pointer (some ⟨b,0,none⟩)] (.panicking (tH f)) w fun e iY w'=>iY=(nw (.panicking (tH f))).2∧∃v,e = .returned v ∧
   (w'.heap[b]? = some (.cells #[.int .i64 f.dp,.int .i64 f.part,.int .i64 f.item,.int .i64 f.sub] T.s)∧∀w0,Ext w0 w→w0.heap.size≤b→Ext w0 w'):=by
 refine K.UH lx Ml.n (args:=[_]) (Nat.le_of_ble_eq_true rfl) ?_;dsimp only[GU.n];refine bF ?_;dsimp only[nw,tH];refine aa ?_;refine K.adi (by kernel_rfl) ?_;refine aa ?_;refine K.Wf rfl (by kernel_rfl) ?_;refine aa ?_;intro av bC cL aA aq;have DI:=cM aD;replace aD:=aA.obj aD;refine aa ?_;intro aT rJ aM;refine aa ?_;exact⟨aM,fun w0 e aP=>rJ.ext (e.trans aA) aP⟩
theorem J9(cs:List Value)(m:o.Model)(w:World)(h:o.er w cs m)(a8:m.cX)(a1:iu w) :
  bu Tryz.prog F.z #[.agg cs.toArray] w fun v w'=>v = .agg #[.int .i64 (o.check m).dp,.int .i64 (o.check m).part,.int .i64 (o.check m).item,.int .i64 (o.check m).sub]∧Ext w w':=by
 obtain⟨cy,bO,b9,c1,ch,c2,cm,bN,cA,bT,rfl,_⟩:=h.form;refine K.afW lx Vq.z (args:=[_]) (Nat.le_of_ble_eq_true rfl) ?_;dsimp only[Mg.z];refine bF ?_;refine aa ?_;intro av bC cL aA aq;refine aa ?_;intro aT ca dB aC aM;replace aq:=aC.obj aq;have fE:=cM aq;have z5:=cM aM;refine aa ?_;refine K.defer (by kernel_rfl) ?_;refine aa ?_;refine K.vc fun bf dz yD aw h8=>?_;replace aq:=aw.obj aq;replace aM:=aw.obj aM;have z2:=cM aM;have z3:=aC.size;have z4:=aA.size;have bQ:=(aA.trans aC).trans aw;have Hx:∀(f:o.p9) (w':World) (S:Fr),Ext w w'→w'.heap[ca]? = some (.cells #[.int .i64 0,.int .i64 0,.int .i64 0,.int .i64 0] T.s)→S 2 = .pointer (some ⟨ca,0,none⟩)→f=o.check m →
   A2 Tryz.prog [.hN 4 2] F.n #[.pointer (some ⟨ca,0,none⟩)] (fun v w'=>v = .agg #[.int .i64 (o.check m).dp,.int .i64 (o.check m).part,.int .i64 (o.check m).item,.int .i64 (o.check m).sub]∧Ext w w') (.fK (tH f)) S w':=by
  rintro f w' S e ax ck rfl;refine K.XS (q5.of (Xt (o.check m) ca w' ax) rfl ?_);rintro bq ⟨aD,he⟩;simp -dsimp only[cJ,cw,Nat.reduceAdd,Nat.reduceEqDiff,reduceIte,reduceCtorEq,cU,ck];refine K.gm aD (Ext.refl _) rfl ?_;simp -dsimp only[cJ,cw,Nat.reduceAdd,Nat.reduceEqDiff,reduceIte,reduceCtorEq,cU];exact⟨bw,he _ e (by omega)⟩
 refine aa ?_;refine K.eQ (Y6 _ m dz bf h bQ (by omega) a1 (e7.empty h8)) ?_ ?_;rotate_left
 ·rintro c bq ⟨h1,rfl,b3,m4⟩;refine aa ?_;exact Hx _ bq _ b3 (m4.obj (by omega) aM) rfl (by rw[o.check,if_pos h1])
 rintro _ bq ⟨h1,b3,m4,nz⟩;replace aq:=m4.obj (by omega) aq;replace aM:=m4.obj (by omega) aM;refine aa ?_;refine K.eQ (ad6 _ m dz bq h a8 b3 (by omega) a1 h1 nz) ?_ ?_;rotate_left
 ·rintro c bS ⟨U,rfl,cc,m5⟩;refine aa ?_;exact Hx _ bS _ cc (m5.obj (by omega) aM) rfl (by rw[o.check,if_neg (by simpa using h1),if_pos U])
 rintro _ bS ⟨U,cc,m5,mL⟩;replace aq:=m5.obj (by omega) aq;replace aM:=m5.obj (by omega) aM;refine aa ?_;refine K.eQ (ad7 _ m dz bS h a8 cc (by omega) a1 mL) ?_ ?_;rotate_left
 ·rintro c bX ⟨ag,rfl,c0,m6⟩;refine aa ?_;exact Hx _ bX _ c0 (m6.obj (by omega) aM) rfl (by rw[o.check,if_neg (by simpa using h1),if_neg (by simpa using U)])
 rintro _ bX ⟨ag,c0,m6⟩;replace aq:=m6.obj (by omega) aq;replace aM:=m6.obj (by omega) aM;have kX:o.check m=o.rn:=by rw[o.check,if_neg (by simpa using h1),if_neg (by simpa using U),o.ad8 ag]
 refine aa ?_;intro cn ek da;refine aa ?_;refine K.XT (q5.of (Xu ca cn) rfl ?_);rintro _ rfl;refine aa ?_;exact⟨by rw[kX];rfl,ek.ext c0 (by omega)⟩
end Go.Proofs.R
end
section
namespace o
open Go
def dm.enc(b:dm):List Value:=[.int .i64 b.aZ,.int .i64 b.ad,.int .i64 b.kind]
def Cell.slot(x:Cell):List Value:=[.int .i64 x.sort,.int .i64 x.tL,.int .i64 x.place,.int .i64 x.kind]
def Cell.enc(x:Cell):List Value:=[.int .i64 x.sort,.int .i64 x.tL,.int .i64 x.place,.int .i64 x.aZ,.int .i64 x.ad,.int .i64 x.kind]
theorem uf:∀(y:dm),∀u∈y.enc,u.oneCell'=true:=by intro y u hu;simp[dm.enc] at hu;rcases hu with rfl | rfl | rfl<;>rfl
theorem afI:∀(y:Cell),∀u∈y.slot,u.oneCell'=true:=by intro y u hu;simp[Cell.slot] at hu;rcases hu with rfl | rfl | rfl | rfl<;>rfl
theorem AG:∀(y:Cell),∀u∈y.enc,u.oneCell'=true:=by intro y u hu;simp[Cell.enc] at hu;rcases hu with rfl | rfl | rfl | rfl | rfl | rfl<;>rfl
end o
namespace Go.Proofs.R
open Go Go.RowKit bt
theorem acL(k:Int)(w:World)(h:o.en (k+1)):bu Tryz.prog F.AX #[.int .i64 k] w fun v w'=>v = .int .i64 (o.kindOf k)∧w'=w:=by
 unfold o.en at h;refine bM E.AX ?_;refine bF ?_;unfold o.kindOf;refine aa ?_;apply K.cond<;>intro g1
 ·refine aa ?_;exact⟨by rw[if_pos g1],bw⟩
 ·refine aa ?_;exact⟨by rw[if_neg g1],bw⟩
theorem KP(k:Int)(w:World)(h:o.en (k+1)):bu Tryz.prog F.xa #[.int .i64 k] w fun v w'=>v = .int .i64 (o.kindOf k)∧w'=w:=by
 unfold o.en at h;refine bM E.xa ?_;refine bF ?_;unfold o.kindOf;refine aa ?_;apply K.cond<;>intro g1
 ·refine aa ?_;exact⟨by rw[if_pos g1],bw⟩
 ·refine aa ?_;exact⟨by rw[if_neg g1,Int.add_comm],bw⟩
theorem J7(x:o.Var)(v:Value)(l:List o.Scalar)(w:World)(aP:o.gi w v l)(h:o.en (x.scalar+1)) :
  bu Tryz.prog F.qk #[.agg x.enc.toArray,v] w fun v w'=>v = .agg (o.eM x.scalar x.aZ x.ad l).enc.toArray∧Ext w w':=by
 obtain⟨au,c,rfl,_⟩:=aP.form;rw[o.AA];refine bM E.qk ?_;refine bF ?_;refine aa ?_;intro av bC cL aA aq;refine aa ?_;intro aT ca dB aC aM;replace aq:=aC.obj aq;have fE:=cM aq;have z2:=cM aM;have ba:=aA.trans aC;refine aa ?_;refine K.call (OY x _ l aT (aP.ext ba)) ?_;rintro _ bf ⟨rfl,aw⟩;replace aq:=aw.obj aq;replace aM:=aw.obj aM;have bQ:=ba.trans aw;refine aa ?_;refine K.call (acL x.scalar bf h) ?_;rintro _ mh ⟨rfl,rfl⟩;refine aa ?_;intro bq ee bI;refine aa ?_;exact⟨bw,ee.ext bQ (by have:=aA.size;omega)⟩
theorem acW(cs:List Value)(m:o.Model)(w:World)(h:o.er w cs m)(a8:m.cX)(a1:iu w) :
  bu Tryz.prog F.AJ #[.agg cs.toArray] w fun v w'=>v = .bool (decide ((o.check m).dp=0))∧Ext w w':=by
 obtain⟨cy,bO,b9,c1,ch,c2,cm,bN,cA,bT,rfl,_⟩:=h.form;refine bM E.AJ ?_;refine bF ?_;refine aa ?_;intro av bC cL aA aq;refine aa ?_;refine K.call (J9 _ m av (h.ext aA) a8 (a1.ext aA)) ?_;rintro _ aT ⟨rfl,aC⟩;refine aa ?_;refine K.kx (v:=.int .i64 (o.check m).dp) rfl ?_;refine aa ?_;exact⟨bw,aA.trans aC⟩
theorem Y7(cs:List Value)(m:o.Model)(w:World)(h:o.er w cs m)(a8:m.cX) :
  bu Tryz.prog F.CD #[.agg cs.toArray] w fun v w'=>v = .bool (decide ((o.check m).dp=0))∧Ext w w':=by
 obtain⟨cy,bO,b9,c1,ch,c2,cm,bN,cA,bT,rfl,_⟩:=h.form;refine bM E.CD ?_;refine bF ?_;refine aa ?_;intro av bC cL aA aq;refine aa ?_;refine K.call (KN _ m av (h.ext aA) a8) ?_;rintro _ aT ⟨rfl,aC⟩;unfold ux;refine aa ?_;refine K.kx (v:=.int .i64 (o.check m).dp) rfl ?_;refine aa ?_;exact⟨bw,aA.trans aC⟩
end Go.Proofs.R
end
section
namespace bt
open Go Go.RowKit
theorem hx.congr{α:Type}{enc:α→List Value}{e:TypeId}{sz base n:Nat}{w:World}{vs qX:Nat→Option Addr×Nat×Nat}{xs DB:Nat→List α}(h:hx enc e sz base w n vs xs)(aS:∀i,i<n→vs i=qX i)(ar:∀i,i<n→xs i=DB i):hx enc e sz base w n qX DB :=
 ⟨fun i ad=>by rw[←aS i ad,←ar i ad];exact h.own i ad,fun i j k ad aU dg he=>by rw[←aS j aU];rw[←aS i ad] at he;exact h.apart i j k ad aU dg he⟩
theorem Ib{S:Fr}{t:Nat}{n:Int}(h:S t = .int .i64 n):ew S ((List.range 1).map fun i=>(i*1,1)) [(0,.tmp t)] [.int .i64 0]=some [.int .i64 n]:=by
 simp[ew,lay,fv,h,Value.cells,List.range,List.range.loop]
structure dW(cQ:List TypeId)(w w':World):Prop where
 size:w.heap.size≤w'.heap.size
 aW:∀(k:Nat) (c:Array Value) (t:TypeId),w.heap[k]? = some (.cells c t)→t∉cQ→w'.heap[k]? = some (.cells c t)
section
variable{cQ:List TypeId}{a b w w':World}
theorem dW.refl:dW cQ w w:=⟨Nat.le_refl _,fun _ _ _ h _=>h⟩
theorem dW.trans{c:World}(h:dW cQ a b)(k:dW cQ b c):dW cQ a c:=⟨Nat.le_trans h.size k.size,fun i c t ax aL=>k.aW i c t (h.aW i c t ax aL) aL⟩
theorem dW.ext(h:Ext a b):dW cQ a b:=⟨h.size,fun _ _ _ ax _=>h.obj ax⟩
theorem dW.mod{A:Nat→Prop}(h:Mod A a b)(e2:∀(k:Nat) (c:Array Value) (t:TypeId),a.heap[k]? = some (.cells c t)→A k→t∈cQ):dW cQ a b:=⟨h.size,fun k c t ax aL=>h.obj (fun hk=>aL (e2 k c t ax hk)) ax⟩
theorem dW.wr{k:Nat}{c:Array Value}{t:TypeId}{f:Nat×Nat}(h:dK k a b)(ax:a.heap[k]? = some (.cells c t f))(aL:t∈cQ):dW cQ a b:=dW.mod (h.mod (A:=fun i=>i=k) rfl) fun i l0 hr lq e=>by
 subst e;rw[ax] at lq;injection lq with lq;injection lq with _ e;exact e ▸ aL
theorem bs.hl{α:Type}{enc:α→List Value}{e:TypeId}{sz base:Nat}{v:Value}{xs:List α}(h:bs enc e sz base a v xs)(k:dW cQ a b)(he:e∉cQ):bs enc e sz base b v xs:=by
 refine⟨h.1,?_⟩;rcases h.2 with aI | ⟨g,cap,cur,rfl,aD,a8,rest⟩
 ·exact .inl aI
 ·exact .inr ⟨g,cap,cur,rfl,aD,k.aW _ _ _ a8 he,rest⟩
end
end bt
namespace o
structure fZ where
 V:List Int
 C:List Int
 eB:List Int
 n:Nat
 L:List Int
 H:List Int
 Z:List Cell
def fZ.of(V C eB:List Int)(cs:List Cell):fZ:=⟨V,C,eB,cs.length,cs.map (·.aZ),cs.map (·.ad),cs⟩
def fZ.rows(s:fZ):Nat→List Int:=fun i=>if i=0 then s.V else if i=1 then s.C else if i=2 then s.eB else if i=3 then s.L else s.H
end o
namespace Go.Proofs.R
open Go Go.RowKit bt
def qN:List TypeId:=[T.a,T.r,T.i,T.sh]
structure jq(av:World)(cv cT:Nat)(s:o.fZ)(W:World):Prop where
 mod:Mod (fun k=>k=cv∨k=cT) av W
 ex:∃(vs:Nat→gj) (u:gj),W.heap[cv]? = some (.cells #[cj (vs 0),cj (vs 1),cj (vs 2),.int .i64 s.n,cj (vs 3),cj (vs 4)] T.i)∧hx dA T.a 1 av.heap.size W 5 vs s.rows ∧
  W.heap[cT]? = some (.cells #[cj u] T.sh)∧bs o.Cell.slot T.r 4 av.heap.size W (cj u) s.Z
theorem jq.move{av:World}{cv cT:Nat}{s:o.fZ}{W cu:World}{A:Nat→Prop}(h:jq av cv cT s W)(m:Mod A W cu)(e2:∀(k:Nat) (c:Array Value) (t:TypeId),W.heap[k]? = some (.cells c t)→t∈qN→¬A k)(jN:∀k,A k→av.heap.size≤k):jq av cv cT s cu:=by
 obtain⟨vs,u,h1,U,ag,aK⟩:=h.ex;refine⟨h.mod.comp m (fun _ _ a=>a) fun k hk a=>absurd (jN k a) (by omega),vs,u,m.obj (e2 _ _ _ h1 (by decide)) h1,U.mod m fun i k ad hk=>?_,m.obj (e2 _ _ _ ag (by decide)) ag,aK.mod m fun k hk=>?_⟩
 ·obtain⟨cur,ax⟩:=(U.own i ad).aW k hk;exact e2 _ _ _ ax (by decide)
 ·obtain⟨cur,ax⟩:=aK.aW k hk;exact e2 _ _ _ ax (by decide)
theorem jq.ext{av:World}{cv cT:Nat}{s:o.fZ}{W cu:World}(h:jq av cv cT s W)(e:Ext W cu):jq av cv cT s cu:=h.move (A:=fun _=>False) e.mod (fun _ _ _ _ _ h=>h) fun _ h=>h.elim
structure lX(av:World)(s:o.fZ)(x:o.dm)(mn:Fr)(w0:World)(vs:Nat→gj)(a33:Addr)(d25 d26 d31 d32 d33:Bool)(S:Fr)(w:World):Prop where
 mw:∀t,t∉[25,26,31,32,33,34]→S t=mn t
 mod:Mod (fun k=>(cj (vs 3)).ownBlock=some k∨(cj (vs 4)).ownBlock=some k) w0 w
 rows:∃v3 v4,hx dA T.a 1 av.heap.size w 5 (di (di vs 3 v3) 4 v4) (di (di s.rows 3 (if d26 then s.L++[x.aZ] else s.L)) 4 (if d32 then s.H++[x.ad] else s.H))∧(d26=false→v3=vs 3)∧(d32=false→v4=vs 4) ∧
  (d26=true→S 26=cj v3)∧(d32=true→S 32=cj v4)
 zx:d25=true→d26=false→∃b,S 25 = .slice (some ⟨b,0,none⟩) 1 1∧w0.heap.size≤b∧w.heap[b]? = some (.cells #[.int .i64 x.aZ] T.a)
 C5:d31=true→d32=false→∃b,S 31 = .slice (some ⟨b,0,none⟩) 1 1∧w0.heap.size≤b∧w.heap[b]? = some (.cells #[.int .i64 x.ad] T.a)
 C6:d33=true→S 33 = .pointer (some a33)
section
variable{av w0 w:World}{s:o.fZ}{x:o.dm}{mn S:Fr}{vs:Nat→gj}{a33:Addr}{d25 d26 d31 d32 d33:Bool}{K:Value→World→Prop}
theorem lX.S9(h:lX av s x mn w0 vs a33 false false d31 d32 d33 S w)(sG:mn 24 = .int .i64 x.aZ)(hk:∀v w',lX av s x mn w0 vs a33 true false d31 d32 d33 (put S (some 25) v) w'→K v w') :
  lO Tryz.prog (.cV T.a 1 1 [.int .i64 0] [(0,.tmp 24)]) S w K:=by
 have he:Ext w (w.alloc (.cells #[.int .i64 x.aZ] T.a)):=(Ext.refl w).alloc _;refine AB (Ib (by rw[h.mw 24 (by decide),sG])) (hk _ _ ⟨fun t aL=>?_,h.mod.trans he.mod,?_,fun _ _=>⟨_,by simp[hn,cd],h.mod.size,heap_alloc_new w _⟩,fun a b=>?_,fun a=>by rw[hn,cd,if_neg (by decide)];exact h.C6 a⟩)
 ·rw[hn,cd,if_neg (by intro e;subst e;simp at aL)];exact h.mw t aL
 ·obtain⟨v3,v4,h1,U,ag,aK,bc⟩:=h.rows;exact⟨v3,v4,h1.ext he,U,ag,fun e=>(by cases e),fun e=>by rw[hn,cd,if_neg (by decide)];exact bc e⟩
 ·obtain⟨b,h1,U,ag⟩:=h.C5 a b;exact⟨b,by rw[hn,cd,if_neg (by decide)];exact h1,U,he.obj ag⟩
theorem lX.Kh(h:lX av s x mn w0 vs a33 d25 d26 false false d33 S w)(Zk:mn 30 = .int .i64 x.ad)(hk:∀v w',lX av s x mn w0 vs a33 d25 d26 true false d33 (put S (some 31) v) w'→K v w') :
  lO Tryz.prog (.cV T.a 1 1 [.int .i64 0] [(0,.tmp 30)]) S w K:=by
 have he:Ext w (w.alloc (.cells #[.int .i64 x.ad] T.a)):=(Ext.refl w).alloc _;refine AB (Ib (by rw[h.mw 30 (by decide),Zk])) (hk _ _ ⟨fun t aL=>?_,h.mod.trans he.mod,?_,fun a b=>?_,fun _ _=>⟨_,by simp[hn,cd],h.mod.size,heap_alloc_new w _⟩,fun a=>by rw[hn,cd,if_neg (by decide)];exact h.C6 a⟩)
 ·rw[hn,cd,if_neg (by intro e;subst e;simp at aL)];exact h.mw t aL
 ·obtain⟨v3,v4,h1,U,ag,aK,bc⟩:=h.rows;exact⟨v3,v4,h1.ext he,U,ag,fun e=>by rw[hn,cd,if_neg (by decide)];exact aK e,fun e=>by cases e⟩
 ·obtain⟨b,h1,U,ag⟩:=h.zx a b;exact⟨b,by rw[hn,cd,if_neg (by decide)];exact h1,U,he.obj ag⟩
theorem lX.Hg(h:lX av s x mn w0 vs a33 true false d31 d32 d33 S w)(Zi:mn 22=cj (vs 3))(cq:∀i k,i<5→(cj (vs i)).ownBlock=some k→k<w0.heap.size)(aD:av.heap.size≤w0.heap.size)(hm:s.L.length≤100000)
  (hk:∀v w',lX av s x mn w0 vs a33 true true d31 d32 d33 (put S (some 26) v) w'→K v w') :
  lO Tryz.prog (.app T.b T.a 1 8 (.tmp 22) (.tmp 25)) S w K:=by
 obtain⟨b,bP,ba,bQ⟩:=h.zx rfl rfl;obtain⟨v3,v4,h1,U,ag,aK,bc⟩:=h.rows;obtain rfl:=U rfl;show vr Tryz.prog T.b T.a 1 8 (S 22) (S 25) w K;rw[h.mw 22 (by decide),Zi,bP];have sW:=h.mod.size;refine hx.app (vs:=di (di vs 3 (vs 3)) 4 v4) (xs:=di (di s.rows 3 (if false=true then s.L++[x.aZ] else s.L)) 4 (if d32=true then s.H++[x.ad] else s.H)) (y:=x.aZ) 3 (by decide) h1 (fun _=>rfl) (gK bQ) j4 (by simp[di];omega) (by simp[di];unfold maxLen;omega) (by omega) fun b8 w' a1 a8 _=>?_;have bg:Mod (fun k=>(cj (vs 3)).ownBlock=some k) w w':=Mod.grown a8 fun k hk=>hk;refine hk _ _ ⟨fun t aL=>?_,h.mod.trans (bg.GJ fun k hk=>.inl hk),?_,fun _ e=>(by cases e),fun a b=>?_,fun a=>by rw[hn,cd,if_neg (by decide)];exact h.C6 a⟩
 ·rw[hn,cd,if_neg (by intro e;subst e;simp at aL)];exact h.mw t aL
 ·refine⟨b8,v4,a1.congr (fun i ad=>?_) (fun i ad=>?_),fun e=>(by cases e),ag,fun _=>by simp[hn,cd],fun e=>by rw[hn,cd,if_neg (by decide)];exact bc e⟩
  ·unfold di;by_cases a:i=3
   ·subst a;simp
   ·simp[a]
  ·unfold di;by_cases a:i=3
   ·subst a;simp
   ·simp[a]
 ·obtain⟨mZ,h1,U,ag⟩:=h.C5 a b;exact⟨mZ,by rw[hn,cd,if_neg (by decide)];exact h1,U,bg.obj (fun e=>by have:=cq 3 mZ (by decide) e;omega) ag⟩
theorem lX.Hh(h:lX av s x mn w0 vs a33 true true true false d33 S w)(Zj:mn 28=cj (vs 4))(aD:av.heap.size≤w0.heap.size)(hm:s.H.length≤100000)
  (hk:∀v w',lX av s x mn w0 vs a33 true true true true d33 (put S (some 32) v) w'→K v w') :
  lO Tryz.prog (.app T.b T.a 1 8 (.tmp 28) (.tmp 31)) S w K:=by
 obtain⟨b,bP,ba,bQ⟩:=h.C5 rfl rfl;obtain⟨v3,v4,h1,U,ag,aK,bc⟩:=h.rows;obtain rfl:=ag rfl;show vr Tryz.prog T.b T.a 1 8 (S 28) (S 31) w K;rw[h.mw 28 (by decide),Zj,bP];have sW:=h.mod.size;refine hx.app (vs:=di (di vs 3 v3) 4 (vs 4)) (xs:=di (di s.rows 3 (if true=true then s.L++[x.aZ] else s.L)) 4 (if false=true then s.H++[x.ad] else s.H)) (y:=x.ad) 4 (by decide) h1 (fun _=>rfl) (gK bQ) j4 (by simp[di];omega) (by simp[di];unfold maxLen;omega) (by omega) fun b8 w' a1 a8 _=>?_;have bg:Mod (fun k=>(cj (vs 4)).ownBlock=some k) w w':=Mod.grown a8 fun k hk=>hk;refine hk _ _ ⟨fun t aL=>?_,h.mod.trans (bg.GJ fun k hk=>.inr hk),?_,fun _ e=>(by cases e),fun _ e=>(by cases e),fun a=>by rw[hn,cd,if_neg (by decide)];exact h.C6 a⟩
 ·rw[hn,cd,if_neg (by intro e;subst e;simp at aL)];exact h.mw t aL
 ·refine⟨v3,b8,a1.congr (fun i ad=>?_) (fun i ad=>?_),fun e=>(by cases e),fun e=>(by cases e),fun e=>by rw[hn,cd,if_neg (by decide)];exact aK e,fun _=>by simp[hn,cd]⟩
  ·unfold di;by_cases a:i=4
   ·subst a;simp
   ·simp[a]
  ·unfold di;by_cases a:i=4
   ·subst a;simp
   ·simp[a]
theorem lX.Lb(h:lX av s x mn w0 vs a33 d25 d26 d31 d32 d33 S w):lX av s x mn w0 vs a33 d25 d26 d31 d32 true (b7 S 33 (.pointer (some a33))) w:=by
 have q:∀t,t≠33→b7 S 33 (.pointer (some a33)) t=S t:=fun t aL=>by rw[cd,if_neg aL]
 refine⟨fun t aL=>?_,h.mod,?_,fun a b=>?_,fun a b=>?_,fun _=>by simp[cd]⟩
 ·rw[q t (by intro e;subst e;simp at aL)];exact h.mw t aL
 ·obtain⟨v3,v4,h1,U,ag,aK,bc⟩:=h.rows;exact⟨v3,v4,h1,U,ag,fun e=>by rw[q _ (by decide)];exact aK e,fun e=>by rw[q _ (by decide)];exact bc e⟩
 ·obtain⟨mZ,h1,U⟩:=h.zx a b;exact⟨mZ,by rw[q _ (by decide)];exact h1,U⟩
 ·obtain⟨mZ,h1,U⟩:=h.C5 a b;exact⟨mZ,by rw[q _ (by decide)];exact h1,U⟩
end
end Go.Proofs.R
end
section
namespace Go.Proofs.R
open Go Go.RowKit bt
def jo(b:Nat)(w w':World):Prop := ∀j,j<3→w'.cell? (Addr.add ⟨b,0,none⟩ j)=w.cell? (Addr.add ⟨b,0,none⟩ j)
theorem jo.refl{b:Nat}{w:World}:jo b w w:=fun _ _=>rfl
theorem jo.trans{b:Nat}{w w' bZ:World}(h:jo b w w')(k:jo b w' bZ):jo b w bZ:=fun j aU=>(k j aU).trans (h j aU)
theorem jo.of{b:Nat}{w w':World}{bO c1 c2:Value}{l te:List Value}{t hr:TypeId}{f rm:Nat×Nat}(h:w.heap[b]? = some (.cells (bO :: c1 :: c2 :: l).toArray t f))(bA:w'.heap[b]? = some (.cells (bO :: c1 :: c2 :: te).toArray hr rm)):jo b w w':=fun j aU=>by
 have:j=0∨j=1∨j=2:=by omega
 rcases this with rfl | rfl | rfl
 ·rw[fp h (v:=bO) rfl,fp bA (v:=bO) rfl]
 ·rw[fp h (v:=c1) rfl,fp bA (v:=c1) rfl]
 ·rw[fp h (v:=c2) rfl,fp bA (v:=c2) rfl]
theorem jo.ext{b:Nat}{w w':World}(he:Ext w w')(h:b<w.heap.size):jo b w w':=fun j _=>by
 rw[add_eq];simp only[World.cell?,he.heap h]
def OL:eE:=(.take (af 21 4 3) (.take (ae 22 21) (.take (af 23 0 11) (.take (ae 24 23) (.take (af 27 5 3) (.take (ae 28 27) (.take (af 29 1 11) (.take (ae 30 29) (.alt (aG 25 (.cV T.a 1 1 [(.int .i64 0)] [(0,(ab 24))])) (.alt (aG 26 (.app T.b T.a 1 8 (ab 22) (ab 25))) (.take (af 33 4 3) (.alt (aG 31 (.cV T.a 1 1 [(.int .i64 0)] [(0,(ab 30))])) (.b0 (aG 32 (.app T.b T.a 1 8 (ab 28) (ab 31))) (.b0 (ys 33 26) (.take (af 34 5 3) (.b0 (ys 34 32) .done .nil)) .nil) .nil) .nil)) (.alt (aG 31 (.cV T.a 1 1 [(.int .i64 0)] [(0,(ab 30))])) (.alt (aG 26 (.app T.b T.a 1 8 (ab 22) (ab 25))) (.take (af 33 4 3) (.b0 (aG 32 (.app T.b T.a 1 8 (ab 28) (ab 31))) (.b0 (ys 33 26) (.take (af 34 5 3) (.b0 (ys 34 32) .done .nil)) .nil) .nil)) .nil) .nil)) (.alt (aG 31 (.cV T.a 1 1 [(.int .i64 0)] [(0,(ab 30))])) (.alt (aG 25 (.cV T.a 1 1 [(.int .i64 0)] [(0,(ab 24))])) (.alt (aG 26 (.app T.b T.a 1 8 (ab 22) (ab 25))) (.take (af 33 4 3) (.b0 (aG 32 (.app T.b T.a 1 8 (ab 28) (ab 31))) (.b0 (ys 33 26) (.take (af 34 5 3) (.b0 (ys 34 32) .done .nil)) .nil) .nil)) .nil) .nil) .nil))))))))))
theorem kO{S:Fr}{n m:Nat}{v u:Value}(h:S m=u)(aI:m≠n):b7 S n v m=u:=by rw[cd,if_neg aI];exact h
theorem VZ{av w:World}{cv cT b5:Nat}{s:o.fZ}{x:o.dm}{S:Fr}{c6:Fr→World→Prop}(dg:cv≠cT)(jN:cv<av.heap.size∧cT<av.heap.size)(ay:jq av cv cT s w)(ag:S 3 = .pointer (some ⟨cv,0,none⟩))(EW:S 11 = .pointer (some ⟨b5,0,none⟩))
  (ax:w.heap[b5]? = some (.cells x.enc.toArray T.j))(hm:s.L.length≤100000)(Jg:s.H.length≤100000)
  (hk:∀a6 w',jq av cv cT ⟨s.V,s.C,s.eB,s.n,s.L++[x.aZ],s.H++[x.ad],s.Z⟩ w'→dW qN w w'→jo cv w w'→c6 a6 w'):∃C:World→Prop,C w∧dC Tryz.prog C OL S w c6:=by
 obtain⟨vs,u,g1,g2,g3,g4⟩:=ay.ex;have pY:=g2.not g1 (by decide);have pT:=g2.not ax (by decide);refine⟨Mod (fun k=>(cj (vs 3)).ownBlock=some k∨(cj (vs 4)).ownBlock=some k) w,Mod.refl _ _,?_⟩;have rx:∀w',Mod (fun k=>(cj (vs 3)).ownBlock=some k∨(cj (vs 4)).ownBlock=some k) w w'→w'.heap[cv]? = some (.cells #[cj (vs 0),cj (vs 1),cj (vs 2),.int .i64 s.n,cj (vs 3),cj (vs 4)] T.i) :=
  fun w' m=>m.obj (fun h=>h.elim (pY 3 (by decide)) (pY 4 (by decide))) g1
 have hp:∀w',Mod (fun k=>(cj (vs 3)).ownBlock=some k∨(cj (vs 4)).ownBlock=some k) w w'→w'.heap[b5]? = some (.cells x.enc.toArray T.j) :=
  fun w' m=>m.obj (fun h=>h.elim (pT 3 (by decide)) (pT 4 (by decide))) ax
 have c8:av.heap.size≤w.heap.size:=ay.mod.size;unfold OL;refine dC.iB ag ?_;refine dC.ld (v:=cj (vs 3)) (by simp[cd];rfl) (fun w' m=>fp (rx w' m) rfl) ?_;refine dC.iB (a:=⟨b5,0,none⟩) (by simp[cd,EW]) ?_;refine dC.ld (v:=.int .i64 x.aZ) (by simp[cd];rfl) (fun w' m=>fp (hp w' m) rfl) ?_;refine dC.iB (a:=⟨cv,0,none⟩) (by simp[cd,ag]) ?_;refine dC.ld (v:=cj (vs 4)) (by simp[cd];rfl) (fun w' m=>fp (rx w' m) rfl) ?_;refine dC.iB (a:=⟨b5,0,none⟩) (by simp[cd,EW]) ?_;refine dC.ld (v:=.int .i64 x.ad) (by simp[cd];rfl) (fun w' m=>fp (hp w' m) rfl) ?_;generalize Bd:b7 _ 30 _=ub;have bQ:ub 3 = .pointer (some ⟨cv,0,none⟩):=by subst Bd;simp[cd,ag]
 have HT:ub 22=cj (vs 3):=by subst Bd;simp[cd]
 have EI:ub 24 = .int .i64 x.aZ:=by subst Bd;simp[cd]
 have HU:ub 28=cj (vs 4):=by subst Bd;simp[cd]
 have HV:ub 30 = .int .i64 x.ad:=by subst Bd;simp[cd]
 have ff:∀i,vs i=di (di vs 3 (vs 3)) 4 (vs 4) i:=fun i=>by
  unfold di;by_cases a:i=4
  ·subst a;simp
  ·by_cases b:i=3
   ·subst b;simp
   ·simp[a,b]
 have gf:∀i,s.rows i=di (di s.rows 3 (if false=true then s.L++[x.aZ] else s.L)) 4 (if false=true then s.H++[x.ad] else s.H) i:=fun i=>by
  unfold di;by_cases a:i=4
  ·subst a;simp[o.fZ.rows]
  ·by_cases b:i=3
   ·subst b;simp[o.fZ.rows]
   ·simp[a,b]
 have t0:lX av s x ub w vs (Addr.add ⟨cv,0,none⟩ 4) false false false false false ub w :=
  ⟨fun _ _=>rfl,Mod.refl _ _,⟨vs 3,vs 4,g2.congr (fun i ad=>ff i) (fun i ad=>gf i),
   fun _=>rfl,fun _=>rfl,fun e=>(by cases e),fun e=>(by cases e)⟩,fun e=>(by cases e),fun e=>(by cases e),fun e=>(by cases e)⟩
 have cq:∀i k,i<5→(cj (vs i)).ownBlock=some k→k<w.heap.size:=fun i k ad he=>(g2.lt i k ad he).2;have fin:∀S aT,lX av s x ub w vs (Addr.add ⟨cv,0,none⟩ 4) true true true true true S aT→dC Tryz.prog (Mod (fun k=>(cj (vs 3)).ownBlock=some k∨(cj (vs 4)).ownBlock=some k) w) (.b0 (ys 33 26) (.take (af 34 5 3) (.b0 (ys 34 32) .done .nil)) .nil) S aT c6:=by
  intro S aT t;obtain⟨v3,v4,dO,_,_,gR,pf⟩:=t.rows;have ar:=rx aT t.mod;refine dC.wj ?_;show vK (S 33) (S 26) aT _;rw[t.C6 rfl,gR rfl];refine K6 fun r2=>K.st1 ar (by simp) rfl fun bf eZ bK=>?_;show dC _ _ _ S _ _;refine dC.iB (a:=⟨cv,0,none⟩) (by rw[t.mw 3 (by decide),bQ]) ?_;refine dC.wj ?_;show vK (b7 S 34 _ 34) (b7 S 34 _ 32) bf _;rw[show b7 S 34 (.pointer (some (Addr.add ⟨cv,0,none⟩ 5))) 34 = .pointer (some (Addr.add ⟨cv,0,none⟩ 5)) from by simp[cd],kO (pf rfl) (by decide)];refine K6 fun r2=>K.st1 bK (by simp) rfl fun bq ee bI=>?_;have hw:=eZ.trans ee;have jl:=dO.not ar (by decide);obtain⟨us,ait⟩:∃us,us=cj u:=⟨_,rfl⟩;refine hk _ _ ⟨?_,di (di vs 3 v3) 4 v4,u,?_,(dO.mod (hw.mod (A:=fun k=>k=cv) rfl) fun i k ad hk e=>jl i ad (by rw[←e];exact hk)).congr (fun _ _=>rfl) (fun i ad=>?_),?_,?_⟩ ?_ ?_
  ·refine(ay.mod.comp t.mod (B:=fun k=>k=cv∨k=cT) (fun _ _ a=>a) fun i ad a=>?_).trans (hw.mod (A:=fun k=>k=cv∨k=cT) (.inl rfl));rcases a with a | a
   ·have:=(g2.lt 3 i (by decide) a).1;omega
   ·have:=(g2.lt 4 i (by decide) a).1;omega
  ·exact bI
  ·have:i=0∨i=1∨i=2∨i=3∨i=4:=by omega
   rcases this with rfl | rfl | rfl | rfl | rfl<;>simp[di,o.fZ.rows]
  ·exact hw.obj (t.mod.obj (fun h=>h.elim (g2.not g3 (by decide) 3 (by decide)) (g2.not g3 (by decide) 4 (by decide))) g3) (Ne.symm dg)
  ·refine(g4.mod t.mod fun k hk h=>?_).mod (hw.mod (A:=fun k=>k=cv) rfl) fun k hk e=>?_
   ·obtain⟨cur,gu⟩:=g4.aW k hk;exact h.elim (g2.not gu (by decide) 3 (by decide)) (g2.not gu (by decide) 4 (by decide))
   ·obtain⟨cur,gu⟩:=g4.aW k hk;subst e;rw[g1] at gu;injection gu with gu;injection gu with _ e;exact absurd e (by decide)
  ·refine(dW.mod t.mod fun k c hr ax a=>?_).trans (dW.wr hw ar (by decide));rcases a with a | a
   ·obtain⟨cur,gu⟩:=(g2.own 3 (by decide)).aW k a;rw[ax] at gu;injection gu with gu;injection gu with _ e;rw[e];decide
   ·obtain⟨cur,gu⟩:=(g2.own 4 (by decide)).aW k a;rw[ax] at gu;injection gu with gu;injection gu with _ e;rw[e];decide
  ·exact jo.of g1 bI
 clear hk;refine⟨kr.e (t0.S9 EI fun v2 aT t2=>⟨t2.mod,?_,?_,trivial⟩),kr.e (t0.Kh HV fun v2 aT t2=>⟨t2.mod,?_⟩),trivial⟩
 ·refine kr.e (t2.Hg HT cq c8 hm fun v3 bf t3=>⟨t3.mod,?_⟩);refine dC.iB (a:=⟨cv,0,none⟩) (by rw[t3.mw 3 (by decide),bQ]) ?_;refine dC.x1 (kr.e (t3.Lb.Kh HV fun v4 bq t4=>⟨t4.mod,?_⟩));exact dC.wj (nh.e (t4.Hh HU c8 Jg fun v5 bS t5=>fin _ _ t5))
 ·refine kr.e (t2.Kh HV fun v3 bf t3=>⟨t3.mod,?_⟩);refine dC.x1 (kr.e (t3.Hg HT cq c8 hm fun v4 bq t4=>⟨t4.mod,?_⟩));refine dC.iB (a:=⟨cv,0,none⟩) (by rw[t4.mw 3 (by decide),bQ]) ?_;exact dC.wj (nh.e (t4.Lb.Hh HU c8 Jg fun v5 bS t5=>fin _ _ t5))
 ·refine dC.x1 (kr.e (t2.S9 EI fun v3 bf t3=>⟨t3.mod,?_⟩));refine dC.x1 (kr.e (t3.Hg HT cq c8 hm fun v4 bq t4=>⟨t4.mod,?_⟩));refine dC.iB (a:=⟨cv,0,none⟩) (by rw[t4.mw 3 (by decide),bQ]) ?_;exact dC.wj (nh.e (t4.Lb.Hh HU c8 Jg fun v5 bS t5=>fin _ _ t5))
end Go.Proofs.R
end
section
namespace Go.Proofs.R
open Go Go.RowKit bt
section
variable{av:World}{cv cT:Nat}{s:o.fZ}{W cu:World}
theorem afH{vs:Nat→gj}{u:gj}{qe kT py:World}{y:o.Cell}{b8:Value}(dg:cv≠cT)(hm:Mod (fun k=>k=cv∨k=cT) av W)(g1:W.heap[cv]? = some (.cells #[cj (vs 0),cj (vs 1),cj (vs 2),.int .i64 s.n,cj (vs 3),cj (vs 4)] T.i))(g2:hx dA T.a 1 av.heap.size W 5 vs s.rows)
  (g3:W.heap[cT]? = some (.cells #[cj u] T.sh))(g4:bs o.Cell.slot T.r 4 av.heap.size W (cj u) s.Z)(he:Ext W qe)(a8:qe.grownBy kT (cj u).ownBlock)(a1:bs o.Cell.slot T.r 4 av.heap.size kT b8 (s.Z++[y]))
  (hw:dK cT kT py)(ax:py.heap[cT]? = some (.cells #[b8] T.sh)):jq av cv cT ⟨s.V,s.C,s.eB,s.n,s.L,s.H,s.Z++[y]⟩ py∧dW qN W py∧jo cv W py:=by
 obtain⟨bl,cap,rfl,_⟩:=a1.form;have u7:Mod (fun k=>(cj u).ownBlock=some k) qe kT:=Mod.grown a8 fun k hk=>hk;have iF:∀{k:Nat} {c:Array Value} {t:TypeId},W.heap[k]? = some (.cells c t)→t≠T.r→¬(cj u).ownBlock=some k:=fun {k c t} hk aL e=>by
  obtain⟨cur,h⟩:=g4.aW k e;rw[hk] at h;injection h with h;injection h with _ h;exact aL h
 have m6:∀{k:Nat} {c:Array Value} {t:TypeId},W.heap[k]? = some (.cells c t)→t≠T.r→kT.heap[k]? = some (.cells c t):=fun hk aL=>u7.obj (iF hk aL) (he.obj hk);have qR:Mod (fun k=>k=cT) kT py:=hw.mod rfl;refine⟨⟨?_,vs,(bl,_,cap),qR.obj dg (m6 g1 (by decide)),?_,ax,a1.mod qR fun k hk e=>?_⟩,?_,jo.of g1 (qR.obj dg (m6 g1 (by decide)))⟩
 ·have h1:Mod (fun k=>k=cv∨k=cT) av qe:=hm.comp (A':=fun _=>False) he.mod (fun _ _ a=>a) fun _ _ a=>a.elim;have U:Mod (fun k=>k=cv∨k=cT) av kT:=h1.comp u7 (fun _ _ a=>a) fun i ad a=>by have:=(g4.lt i a).1;omega
  exact U.trans (hw.mod (.inr rfl))
 ·refine((g2.ext he).mod u7 fun i k ad hk e=>?_).mod qR fun i k ad hk e=>?_
  ·obtain⟨cur,h⟩:=(g2.own i ad).aW k hk;exact iF h (by decide) e
  ·subst e;obtain⟨cur,h⟩:=(g2.own i ad).aW k hk;rw[g3] at h;injection h with h;injection h with _ h;exact absurd h (by decide)
 ·subst e;obtain⟨cur,h⟩:=a1.aW k hk;rw[m6 g3 (by decide)] at h;injection h with h;injection h with _ h;exact absurd h (by decide)
 ·refine((dW.ext he).trans (dW.mod u7 fun k c t ax a=>?_)).trans (dW.wr hw (m6 g3 (by decide)) (by decide));obtain⟨cur,h⟩:=(g4.ext he).aW k a;rw[ax] at h;injection h with h;injection h with _ h;rw[h];decide
theorem XE{vs:Nat→gj}{u:gj}{n:Int}(dg:cv≠cT)(hm:Mod (fun k=>k=cv∨k=cT) av W)(g1:W.heap[cv]? = some (.cells #[cj (vs 0),cj (vs 1),cj (vs 2),.int .i64 s.n,cj (vs 3),cj (vs 4)] T.i))(g2:hx dA T.a 1 av.heap.size W 5 vs s.rows)
  (g3:W.heap[cT]? = some (.cells #[cj u] T.sh))(g4:bs o.Cell.slot T.r 4 av.heap.size W (cj u) s.Z)(hw:dK cv W cu)(aI:n=((s.n+1:Nat):Int))
  (ax:cu.heap[cv]? = some (.cells #[cj (vs 0),cj (vs 1),cj (vs 2),.int .i64 n,cj (vs 3),cj (vs 4)] T.i)):jq av cv cT ⟨s.V,s.C,s.eB,s.n+1,s.L,s.H,s.Z⟩ cu∧dW qN W cu∧jo cv W cu:=by
 subst aI;have qR:Mod (fun k=>k=cv) W cu:=hw.mod rfl;refine⟨⟨hm.trans (hw.mod (.inl rfl)),vs,u,ax,g2.mod qR fun i k ad hk e=>?_,qR.obj (Ne.symm dg) g3,g4.mod qR fun k hk e=>?_⟩,dW.wr hw g1 (by decide),jo.of g1 ax⟩
 ·subst e;exact g2.not g1 (by decide) i ad hk
 ·subst e;obtain⟨cur,h⟩:=g4.aW k hk;rw[g1] at h;injection h with h;injection h with _ h;exact absurd h (by decide)
end
theorem acp(so ht:Int)(v:Value)(l:List o.dm)(nG nC nE:List Int)(cs:List o.Cell)(base:Nat)(av:World)(cv cT:Nat)(w:World)(dg:cv≠cT)(jN:cv<av.heap.size∧cT<av.heap.size)(ay:jq av cv cT (o.fZ.of nG nC nE cs) w)(aS:bs o.dm.enc T.j 3 base w v l)
  (hm:cs.length+l.length≤100000) :
  bu Tryz.prog F.am #[.int .i64 so,.int .i64 ht,v,.pointer (some ⟨cv,0,none⟩),.pointer (some ⟨cT,0,none⟩)] w fun v w'=>v = .int .i64 cs.length∧jq av cv cT (o.fZ.of nG nC nE (cs++o.eT so ht l 0)) w'∧dW qN w w'∧jo cv w w':=by
 obtain⟨bl,cap,rfl,_⟩:=aS.form;obtain⟨agA,UX,g1,g2,g3,g4⟩:=ay.ex;refine bM E.am ?_;refine bF ?_;refine aa ?_;refine K.df 16 l.length [0,1,2,3,4,9,14,15] (fun _:Unit=>[]) () (fun k _ w'=>jq av cv cT (o.fZ.of nG nC nE (cs++o.eT so ht (l.take k) 0)) w'∧dW qN w w'∧jo cv w w') bB bB ⟨by simpa[o.eT] using ay,dW.refl,jo.refl⟩ ?_;clear g1 g2 g3 g4 ay;rintro k _ S aT hk ⟨ay,l8,j6⟩;have lB:bz 3 (Flat o.dm.enc) aT (.slice bl l.length cap) l:=bs.lH (enc:=o.dm.enc) (fun _=>rfl) (aS.hl l8 (by decide));refine aa ?_;apply K.cond<;>intro g1
 ·have bh:k<l.length:=by omega
  obtain⟨a,rfl⟩:=lB.addr (by omega);have IA:(o.eT so ht (l.take k) 0).length=k:=by rw[o.rN,List.length_take];omega
  have sZ:=o.uf l[k];refine ei ?_;simp -dsimp only[cw];refine ei ?_;simp -dsimp only[cw];refine ei ?_;intro wn b5 fU hU gA;refine ei ?_;intro bf eZ bK;have aw:=eZ.ext hU fU;have hj:=ay.ext aw;clear eZ hU gA;refine ei ?_;refine K.hQ [0,1,2,3,4,9,10,11,14,15,16] (fun _:Unit=>[]) (fun _ w'=>jq av cv cT ⟨nG,nC,nE,(cs++o.eT so ht (l.take k) 0).length,(cs++o.eT so ht (l.take k) 0).map (·.aZ)++[l[k].aZ],(cs++o.eT so ht (l.take k) 0).map (·.ad)++[l[k].ad],cs++o.eT so ht (l.take k) 0⟩ w'∧dW qN bf w'∧jo cv bf w') ?_ ?_
  ·refine aa ?_;intro bq aR;refine K.wide (VZ dg jN (hj.ext aR) (by simp[cd]) (by simp[cd]) (aR.obj bK) (by simp[o.fZ.of,IA];omega) (by simp[o.fZ.of,IA];omega) fun a6 w' h k br=>?_);refine aa ?_;exact⟨(),trivial,h,(dW.ext aR).trans k,(jo.ext aR (by have:=hj.mod.size;omega)).trans br⟩
  have Z8:jo cv aT bf:=jo.ext aw (by have:=ay.mod.size;omega);clear hj;rintro _ S bq ⟨l6,Sv,IT⟩;obtain⟨vs,⟨UX,UY,zO⟩,g1,g2,g3,g4⟩:=l6.ex;have bI:=Sv.aW _ _ _ bK (by decide);refine aa ?_;intro bS dH mB bj cC;replace cC:bS.heap[dH]? = some (.cells (o.Cell.slot ⟨so,ht,k,l[k].aZ,l[k].ad,l[k].kind⟩).toArray T.r):=cC;have ea:=g4.ext bj;have fE:=l6.mod.size;have z2:=bj.size;have aP:(cs++o.eT so ht (l.take k) 0).length=cs.length+k:=by rw[List.length_append,IA]
  refine K.mr (y:=⟨so,ht,k,l[k].aZ,l[k].ad,l[k].kind⟩) ea cC rfl (fun _=>rfl) o.afI (by simp only[aP];omega) (by unfold maxLen;simp only[aP];omega) (by omega) fun bl n c bX dn jM=>?_;have gM:=ea.box jM (bj.obj g3) (by decide);refine aa ?_;intro cn ek da;obtain⟨iQ,rM,Z9⟩:=afH dg l6.mod g1 g2 g3 g4 bj jM dn ek da;dsimp only at iQ;obtain⟨qX,iY,dO,dP,eg,gR⟩:=iQ.ex;clear g1 g2 g3 g4 l6 ea dn jM gM da cC;have aee:=dO;dsimp only[cj] at dO;refine aa ?_;intro dv kG eN;obtain⟨BV,acf,aaa⟩:=XE dg iQ.mod aee dP eg gR kG (by dsimp only;omega) eN;refine aa ?_;refine⟨bh,bw,(),trivial,?_,((((l8.trans (dW.ext aw)).trans Sv).trans rM).trans acf),((((j6.trans Z8).trans IT).trans Z9).trans aaa)⟩;rw[o.acq bh,←List.append_assoc];have e:o.fZ.of nG nC nE ((cs++o.eT so ht (l.take k) 0)++[⟨so,ht,k,l[k].aZ,l[k].ad,l[k].kind⟩])=⟨nG,nC,nE,(cs++o.eT so ht (l.take k) 0).length+1,(cs++o.eT so ht (l.take k) 0).map (·.aZ)++[l[k].aZ],(cs++o.eT so ht (l.take k) 0).map (·.ad)++[l[k].ad],cs++o.eT so ht (l.take k) 0++[⟨so,ht,k,l[k].aZ,l[k].ad,l[k].kind⟩]⟩:=by
   simp[o.fZ.of,List.map_append,Nat.add_assoc]
  rw[e];exact BV
 ·refine aa ?_;rw[List.take_of_length_le (by omega)] at ay;exact⟨bw,ay,l8,j6⟩
end Go.Proofs.R
end
section
namespace bt
open Go Go.RowKit
section
variable{P:Program}{C:World→Prop}{S:Fr}{w:World}{K:Fr→World→Prop}
theorem dC.pb{d m:Nat}{r:eE}{v:Value}(ar:S m=v)(h:dC P C r (b7 S d v) w K):dC P C (.take ⟨some d,none,.p (.pb (.tmp m))⟩ r) S w K:=by subst ar;exact h
theorem kr.c{i:oC}{d:Nat}{k:Fr→World→Prop}(h:p6 P i S w fun v w'=>C w'∧k (put S (some d) v) w'):kr P C ⟨some d,none,.c i⟩ S w k:=h
end
end bt
namespace o
def fZ.add(s:fZ)(off:Nat)(y:Int):fZ:=if off=0 then { s with V:=s.V++[y] } else if off=1 then { s with C:=s.C++[y] } else { s with eB:=s.eB++[y] }
end o
namespace Go.Proofs.R
open Go Go.RowKit bt
def O5(n x y off:Nat)(so:Int):eE :=
 (.take (af n off 4) (.take (ae (n+1) n) (.take (I (n+2) 6) (.take (I (n+3) x) (.take (I (n+4) y)
 (.alt (de (n+5) (.val (ab (n+2)) [(ai so),(ab (n+3)),(ab (n+4))]))
 (.alt (aG (n+6) (.cV T.a 1 1 [(.int .i64 0)] [(0,(ab (n+5)))]))
 (.b0 (aG (n+7) (.app T.b T.a 1 8 (ab (n+1)) (ab (n+6))))
 (.take (af (n+8) off 4) (.b0 (ys (n+8) (n+7)) .done .nil)) .nil) .nil) .nil))))))
theorem Hv{av w:World}{cv cT n x y off base:Nat}{so ht:Int}{k7:Value}{l:List o.dm}{nG nC nE:List Int}{cs:List o.Cell}{S:Fr}{c6:Fr→World→Prop}(Jn:off<3)(aI:20≤n)(ar:x<20)(cx:y<20)
  (dg:cv≠cT)(jN:cv<av.heap.size∧cT<av.heap.size)(aK:S 4 = .pointer (some ⟨cv,0,none⟩))(bD:S 6 = .func (.func F.am) #[] #[.pointer (some ⟨cv,0,none⟩),.pointer (some ⟨cT,0,none⟩)])(rK:S x = .int .i64 ht)(abC:S y=k7)
  (ay:jq av cv cT (o.fZ.of nG nC nE cs) w)(aS:bs o.dm.enc T.j 3 base w k7 l)(hm:cs.length+l.length≤100000)(bd:nG.length≤100000∧nC.length≤100000∧nE.length≤100000)
  (hk:∀a6 w',(∀t,t<n∨n+8<t→a6 t=S t)→jq av cv cT ((o.fZ.of nG nC nE (cs++o.eT so ht l 0)).add off cs.length) w'→dW qN w w'→c6 a6 w'):∃C:World→Prop,C w∧dC Tryz.prog C (O5 n x y off so) S w c6:=by
 obtain⟨vs,u,g1,g2,g3,g4⟩:=ay.ex;have bO:w.cell? (Addr.add ⟨cv,0,none⟩ off)=some (cj (vs off)):=by
  have:off=0∨off=1∨off=2:=by omega
  rcases this with rfl | rfl | rfl<;>exact fp g1 rfl
 refine⟨fun w'=>w'.cell? (Addr.add ⟨cv,0,none⟩ off)=some (cj (vs off)),bO,?_⟩;unfold O5;refine dC.iB aK ?_;refine dC.ld (v:=cj (vs off)) (by simp[cd]) (fun w' m=>m) ?_;refine dC.pb (kO (kO bD (by omega)) (by omega)) ?_;refine dC.pb (kO (kO (kO rK (by omega)) (by omega)) (by omega)) ?_;refine dC.pb (kO (kO (kO (kO abC (by omega)) (by omega)) (by omega)) (by omega)) ?_;generalize yC:b7 _ (n+4) _=px;have YF:∀t,t<n∨n+8<t→px t=S t:=by
  subst yC;intro t aL;simp only[cd];rw[if_neg (by omega),if_neg (by omega),if_neg (by omega),if_neg (by omega),if_neg (by omega)]
 have b3:px 4 = .pointer (some ⟨cv,0,none⟩):=by subst yC;exact kO (kO (kO (kO (kO aK (by omega)) (by omega)) (by omega)) (by omega)) (by omega)
 have f1:px (n+1)=cj (vs off):=by subst yC;simp[cd]
 have f2:px (n+2) = .func (.func F.am) #[] #[.pointer (some ⟨cv,0,none⟩),.pointer (some ⟨cT,0,none⟩)]:=by subst yC;simp[cd]
 have f3:px (n+3) = .int .i64 ht:=by subst yC;simp[cd]
 have f4:px (n+4)=k7:=by subst yC;simp[cd]
 refine dC.x1 (kr.c ?_);show xJ _ (px (n+2)) [.int .i64 so,px (n+3),px (n+4)] w _;rw[f2,f3,f4];refine Hu (first:=[]) (cap:=[.pointer (some ⟨cv,0,none⟩),.pointer (some ⟨cT,0,none⟩)]) (by kernel_rfl) (acp so ht k7 l nG nC nE cs base av cv cT w dg jN ay aS hm) ?_;rintro _ aT ⟨rfl,eb,l8,j6⟩;refine⟨(j6 off Jn).trans bO,?_⟩;refine dC.x1 (kr.e ?_);have he:Ext aT (aT.alloc (.cells #[.int .i64 cs.length] T.a)):=(Ext.refl aT).alloc _;rw[X0];refine AB (cs:=[.int .i64 cs.length]) (Ib (by simp[hn,cd])) ?_;refine⟨he.cell ((j6 off Jn).trans bO),?_⟩;have bK:=heap_alloc_new aT (.cells #[.int .i64 cs.length] T.a);have bN:=he.cell ((j6 off Jn).trans bO);have hj:=eb.ext he;have Su:dW qN w (aT.alloc (.cells #[.int .i64 cs.length] T.a)):=l8.trans (dW.ext he);show dC _ _ _ _ (aT.alloc (.cells #[.int .i64 cs.length] T.a)) _;generalize aT.alloc (.cells #[.int .i64 cs.length] T.a)=bf at bK bN hj Su;clear he g1 g2 g3 g4;obtain⟨qX,iY,g1,g2,g3,g4⟩:=hj.ex;have Yg:cj (vs off)=cj (qX off):=by
  have:off=0∨off=1∨off=2:=by omega
  rcases this with rfl | rfl | rfl
  ·rw[fp g1 (v:=cj (qX 0)) rfl] at bN;exact(Option.some.inj bN).symm
  ·rw[fp g1 (v:=cj (qX 1)) rfl] at bN;exact(Option.some.inj bN).symm
  ·rw[fp g1 (v:=cj (qX 2)) rfl] at bN;exact(Option.some.inj bN).symm
 refine dC.wj (nh.e ?_);rw[XZ];unfold ab;rw[fv,fv];rw[show ∀a b,put (put px (some (n+5)) a) (some (n+6)) b (n+1)=cj (qX off) from fun a b=>by rw[hn,hn,←Yg];exact kO (kO f1 (by omega)) (by omega),
  show ∀a b,put (put px (some (n+5)) a) (some (n+6)) b (n+6)=b from fun a b=>by rw[hn,hn,cd,if_pos rfl]]
 have fE:=hj.mod.size;have hlen:((o.fZ.of nG nC nE (cs++o.eT so ht l 0)).rows off).length≤100000:=by
  have:off=0∨off=1∨off=2:=by omega
  rcases this with rfl | rfl | rfl
  ·exact bd.1
  ·exact bd.2.1
  ·exact bd.2.2
 refine hx.app (y:=(cs.length:Int)) off (by omega) g2 (fun _=>rfl) (gK bK) j4 (by omega) (by unfold maxLen;omega) (by omega) fun b8 bq ey n0 _=>?_;have m4:Mod (fun k=>(cj (qX off)).ownBlock=some k) bf bq:=Mod.grown n0 fun k hk=>hk;have iF:∀{k:Nat} {c:Array Value} {t:TypeId},bf.heap[k]? = some (.cells c t)→t≠T.a→bq.heap[k]? = some (.cells c t):=fun hk aL=>m4.obj (g2.not hk aL off (by omega)) hk;refine dC.iB (a:=⟨cv,0,none⟩) (by rw[hn,hn,hn];exact kO (kO (kO b3 (by omega)) (by omega)) (by omega)) ?_;refine dC.wj ?_;show vK (b7 _ (n+8) _ (n+8)) (b7 (put _ (some (n+7)) _) (n+8) _ (n+7)) bq _;rw[show ∀(S:Fr) v,b7 S (n+8) v (n+8)=v from fun S v=>by rw[cd,if_pos rfl],show ∀(S:Fr) a b,b7 (put S (some (n+7)) a) (n+8) b (n+7)=a from fun S a b=>by rw[hn,cd,if_neg (by omega),cd,if_pos rfl]];have cO:=iF g1 (by decide);refine K6 fun r2=>K.st1 cO (by simp;omega) rfl fun bS fx cC=>?_;have qR:Mod (fun k=>k=cv) bq bS:=fx.mod rfl;refine hk _ _ (fun t aL=>?_) ⟨?_,di qX off b8,iY,?_,(ey.mod qR fun i k ad aB e=>?_).congr (fun _ _=>rfl) (fun i ad=>?_),?_,?_⟩ ?_
 ·simp only[hn,Tx,cd];rw[if_neg (by omega),if_neg (by omega),if_neg (by omega),if_neg (by omega)];exact YF t aL
 ·refine(hj.mod.comp m4 (B:=fun k=>k=cv∨k=cT) (fun _ _ a=>a) fun i ad a=>?_).trans (fx.mod (A:=fun k=>k=cv∨k=cT) (.inl rfl))
  have:=(g2.lt off i (by omega) a).1;omega
 ·rw[cC]
  have:off=0∨off=1∨off=2:=by omega
  rcases this with rfl | rfl | rfl<;>rfl
 ·subst e;exact ey.not cO (by decide) i ad aB
 ·have a:off=0∨off=1∨off=2:=by omega
  have b:i=0∨i=1∨i=2∨i=3∨i=4:=by omega
  rcases a with rfl | rfl | rfl<;>rcases b with rfl | rfl | rfl | rfl | rfl<;>rfl
 ·exact fx.obj (iF g3 (by decide)) (Ne.symm dg)
 ·have ER:((o.fZ.of nG nC nE (cs++o.eT so ht l 0)).add off cs.length).Z=(o.fZ.of nG nC nE (cs++o.eT so ht l 0)).Z:=by unfold o.fZ.add; (repeat' split)<;>rfl
  rw[ER];refine(g4.mod m4 fun k hk h=>?_).mod qR fun k hk e=>?_
  ·obtain⟨cur,gu⟩:=g4.aW k hk;exact g2.not gu (by decide) off (by omega) h
  ·obtain⟨cur,gu⟩:=g4.aW k hk;subst e;rw[g1] at gu;injection gu with gu;injection gu with _ e;exact absurd e (by decide)
 ·refine(Su.trans (dW.mod m4 fun k c hr ax a=>?_)).trans (dW.wr fx cO (by decide));obtain⟨cur,gu⟩:=(g2.own off (by omega)).aW k a;rw[ax] at gu;injection gu with gu;injection gu with _ e;rw[e];decide
end Go.Proofs.R
end
section
namespace bt
open Go Go.RowKit
theorem bs.Eo{α:Type}{enc:α→List Value}{e:TypeId}{sz base b n:Nat}{w:World}{cs:List Value}(xs:List α)(h:w.heap[b]? = some (.cells cs.toArray e))(aD:base≤b)(fV:cs=xs.flatMap enc)(c8:∀x,(enc x).length=sz)(aI:n=xs.length)(hm:xs.length≤maxLen):bs enc e sz base w (.slice (some ⟨b,0,none⟩) n n) xs:=by
 subst aI;have aP:cs.length=xs.length*sz:=by rw[fV,wi c8]
 exact⟨by rw[wi c8],.inr ⟨b,xs.length,cs.toArray,rfl,aD,h,Nat.le_refl _,hm,by simpa using aP,by simp only;rw[←aP,List.take_length,fV]⟩⟩
theorem K.V7{P:Program}{c6:Value→World→Prop}{α:Type}{enc:α→List Value}{e:TypeId}{sz base:Nat}{w:World}{v:Value}{xs:List α}{ty:TypeId}{fS b:Nat}{y:α}{cs:List Value}{t}(ay:bs enc e sz base w v xs)(ax:w.heap[b]? = some (.cells cs.toArray e))(fV:cs=enc y)(c8:∀x,(enc x).length=sz)(h1:∀y,∀u∈enc y,u.oneCell'=true)
  (aD:(xs.length+1)*fS≤140737488355328)(jA:xs.length+1≤maxLen)(iP:base≤w.heap.size)
  (hk:∀bl n c w',bs enc e sz base w' (.slice bl n c) (xs++[y])→w.grownBy w' v.ownBlock→((Value.slice bl n c).ownBlock=v.ownBlock∨(Value.slice bl n c).ownBlock=some w.heap.size)→c6 (.slice bl n c) w'):ki P ty e sz fS v (.slice (some ⟨b,0,none⟩) 1 1) w c6 t:=by
 refine K.ud (ys:=[y]) ay c8 (by subst fV;simpa using gK ax) rfl h1 aD jA iP fun b8 w' a1 a8 jB=>?_;obtain⟨bl,cap,rfl,_⟩:=a1.form;exact hk _ _ _ _ a1 a8 jB
end bt
namespace o
open Go Go.RowKit bt
structure jr(w:World)(cs:List Value)(x:tU):Prop where
 ex:∃v0 v1 v2 v3 v4,cs=[v0,v1,v2,.int .i64 x.cells,v3,v4]∧bz 1 (Flat dA) w v0 x.vars∧bz 1 (Flat dA) w v1 x.aJ∧bz 1 (Flat dA) w v2 x.insts∧bz 1 (Flat dA) w v3 x.aZ∧bz 1 (Flat dA) w v4 x.ad
theorem jr.ext{w w':World}{cs:List Value}{x:tU}(he:Ext w w')(h:jr w cs x):jr w' cs x :=
 let ⟨v0,v1,v2,v3,v4,e,aj,h1,U,ag,aK⟩:=h.ex
 ⟨v0,v1,v2,v3,v4,e,aj.ext Flat.ext he,h1.ext Flat.ext he,U.ext Flat.ext he,ag.ext Flat.ext he,aK.ext Flat.ext he⟩
theorem jr.form{w:World}{cs:List Value}{x:tU}(h:jr w cs x):∃cy bO b9 c1 ch c2 cm bN cA bT,cs=[.slice cy x.vars.length bO,.slice b9 x.aJ.length c1,.slice ch x.insts.length c2,.int .i64 x.cells,.slice cm x.aZ.length bN,.slice cA x.ad.length bT] ∧
  bz 1 (Flat dA) w (.slice cy x.vars.length bO) x.vars∧bz 1 (Flat dA) w (.slice b9 x.aJ.length c1) x.aJ∧bz 1 (Flat dA) w (.slice ch x.insts.length c2) x.insts∧bz 1 (Flat dA) w (.slice cm x.aZ.length bN) x.aZ∧bz 1 (Flat dA) w (.slice cA x.ad.length bT) x.ad:=by
 obtain⟨v0,v1,v2,v3,v4,rfl,aj,h1,U,ag,aK⟩:=h.ex;obtain⟨cy,bO,rfl,_⟩:=aj.form;obtain⟨b9,c1,rfl,_⟩:=h1.form;obtain⟨ch,c2,rfl,_⟩:=U.form;obtain⟨cm,bN,rfl,_⟩:=ag.form;obtain⟨cA,bT,rfl,_⟩:=aK.form;exact⟨cy,bO,b9,c1,ch,c2,cm,bN,cA,bT,rfl,aj,h1,U,ag,aK⟩
theorem GC{v:Var}{s:List Scalar}(h:Aq v s)(ay:s.length≤2):0≤v.scalar∧v.scalar≤2:=by
 rcases h.fg with e | e
 ·omega
 ·unfold size at e;split at e
  ·rename_i x ar
   have:=(List.getElem?_eq_some_iff.1 ar).1
   split at e<;>omega
  ·exact absurd rfl e
theorem HA{v:c5}{s:List Scalar}(h:zZ v s)(ay:s.length≤2):0≤v.scalar∧v.scalar≤2:=by
 rcases h.fg with e | e
 ·omega
 ·unfold size at e;split at e
  ·rename_i x ar
   have:=(List.getElem?_eq_some_iff.1 ar).1
   split at e<;>omega
  ·exact absurd rfl e
theorem Gx(m:Model)(h:eI m)(k:Nat):total ((cG m).take k)≤64:=by
 have h1:=FU h;have U:=h.cells;have ag:=B9 m;have e:total (cG m)=total ((cG m).take k)+total ((cG m).drop k):=by rw[←Du,List.take_append_drop]
 omega
theorem Lj(m:Model)(h:eI m)(k:Nat):total (cG m)+total ((dc m).take k)≤64:=by
 have h1:=FU h;have U:=h.cells;have ag:=B9 m;have e:total (dc m)=total ((dc m).take k)+total ((dc m).drop k):=by rw[←Du,List.take_append_drop]
 omega
theorem UQ(m:Model)(h:eI m)(k:Nat):total (cG m)+total (dc m)+total ((eP m).take k)≤64:=by
 have h1:=FU h;have U:=h.cells;have ag:=B9 m;have e:total (eP m)=total ((eP m).take k)+total ((eP m).drop k):=by rw[←Du,List.take_append_drop]
 omega
end o
namespace Go.Proofs.R
open Go Go.RowKit bt
theorem acz(cs:List Value)(m:o.Model)(w:World)(h:o.er w cs m)(a8:m.cX)(bg:o.eI m) :
  bu Tryz.prog F.AK #[.agg cs.toArray] w fun v w'=>(∃xs u,v = .tuple #[.agg xs.toArray,u]∧ev w (fun w=>o.jr w xs (o.layout m)) w'∧ev w (fun w=>bz 4 (Flat o.Cell.slot) w u (o.b1 m)) w')∧Ext w w':=by
 obtain⟨cy,bO,b9,c1,ch,c2,cm,bN,cA,bT,rfl,aj,h1,U,ag,aK,eG,du,dF,dV,eo⟩:=h.form;have gU:=bg.gU;refine bM E.AK ?_;refine bF ?_;refine aa ?_;intro GH bC cL o2 aq;have dO:=cM aq;refine aa ?_;intro GI ca dB nV aM;have dP:=cM aM;replace aq:=nV.obj aq;refine aa ?_;intro vq cv rv lv mE;have ajr:=cM mE;replace aq:=lv.obj aq;replace aM:=lv.obj aM;refine aa ?_;intro av cT ahN nW fV;have ajq:=cM fV;replace aq:=nW.obj aq;replace aM:=nW.obj aM;replace mE:=nW.obj mE;have nB:=o2.size;have mP:=nV.size;have zT:=lv.size;have xF:=nW.size;have bP:=((o2.trans nV).trans lv).trans nW;clear o2 nV lv nW;have dg:cv≠cT:=by omega
 have jN:cv<av.heap.size∧cT<av.heap.size:=⟨by omega,by omega⟩;have iG:jq av cv cT (o.fZ.of [] [] [] []) av:=⟨Mod.refl _ _,fun _=>(none,0,0),(none,0,0),mE,⟨fun i ad=>by
   have e:(o.fZ.of [] [] [] []).rows i=[]:=by unfold o.fZ.rows; (repeat' split)<;>rfl
   rw[e];exact bs.nil _ _ _ _ _,fun i j k _ _ _ e=>by cases e⟩,fV,bs.nil _ _ _ _ _⟩
 have pN:∀{s W},jq av cv cT s W→W.heap[bC]? = av.heap[bC]? := fun h=>h.mod.block _ (by omega) (by omega);have hV:∀{s W},jq av cv cT s W→W.heap[ca]? = av.heap[ca]? := fun h=>h.mod.block _ (by omega) (by omega);have e9:∀{s W},jq av cv cT s W→Ext w W:=fun h=>h.mod.ext bP fun i ad e=>by omega
 rw[aq] at pN;rw[aM] at hV;refine aa ?_;refine K.df 24 m.vars.length [1,2,4,5,6,22,23] (fun _:Unit=>[]) () (fun k _ W=>jq av cv cT (o.fZ.of (o.gF 0 ((o.cG m).take k)) [] [] (o.cellsOf 1 ((o.cG m).take k) 0)) W) bB bB (by simpa[o.gF,o.cellsOf] using iG) ?_;clear iG mE fV aq aM;rintro k _ S aT hk ay;have aq:=pN ay;have cR:=e9 ay;refine aa ?_;apply K.cond<;>intro g1
 ·have bh:k<m.vars.length:=by omega
  obtain⟨a,rfl⟩:=h1.addr (by omega);have et:=((h1.at k bh).cells).ext cR;have dh:=bg.var _ (List.getElem_mem bh);have j8:=o.GC dh gU.1;refine aa ?_;intro wn mu Bk hU gA;refine aa ?_;intro bf eZ bK;have aw:Ext aT bf:=eZ.ext hU Bk;replace bK:bf.heap[mu]? = some (.cells m.vars[k].enc.toArray T.f):=bK;replace aq:=aw.obj aq;clear eZ hU gA et;have fF:=cR.trans aw;refine aa ?_;refine K.call (Eu m.vars[k] _ m.scalars bf (aj.ext fF)) ?_;rintro _ bq ⟨rfl,aR⟩;have fa:=o.sm m.vars[k] m.scalars;have ed:=fF.trans aR;have o0:=aR.obj aq;have ZP:=aR.obj bK;refine aa ?_;refine K.df 33 (o.cells m.vars[k] m.scalars).toNat [1,2,4,5,6,7,8,22,23,24,32] (fun v:gj=>[(9,.slice v.1 v.2.1 v.2.2)]) (none,0,0) (fun j v W=>Ext bq W∧bs o.dm.enc T.j 3 bq.heap.size W (.slice v.1 v.2.1 v.2.2) (List.replicate j (o.eM m.vars[k].scalar m.vars[k].aZ m.vars[k].ad m.scalars))) bB bB ⟨Ext.refl _,bs.nil _ _ _ _ _⟩ ?_;clear aq bK;rintro j v S bS aU ⟨bj,ea⟩;have aq:=bj.obj o0;have bK:=bj.obj ZP;refine aa ?_;apply K.cond<;>intro g2
  ·have ef:j<(o.cells m.vars[k] m.scalars).toNat:=by omega
   refine aa ?_;refine K.call (J7 m.vars[k] _ m.scalars bS (aj.ext (ed.trans bj)) (by unfold o.en;omega)) ?_;rintro _ bX ⟨rfl,bk⟩;have sZ:=o.uf (o.eM m.vars[k].scalar m.vars[k].aZ m.vars[k].ad m.scalars);refine aa ?_;intro cn Wp ahI bR da;replace da:cn.heap[Wp]? = some (.cells (o.eM m.vars[k].scalar m.vars[k].aZ m.vars[k].ad m.scalars).enc.toArray T.j):=da;have dX:=ea.ext (bk.trans bR);have Fg:=(bj.trans bk).trans bR;have aP:(List.replicate j (o.eM m.vars[k].scalar m.vars[k].aZ m.vars[k].ad m.scalars)).length=j:=List.length_replicate;refine K.mr (y:=o.eM m.vars[k].scalar m.vars[k].aZ m.vars[k].ad m.scalars) dX da rfl (fun _=>rfl) o.uf (by rw[aP];omega) (by rw[aP];unfold maxLen;omega) Fg.size fun bl n c dv h9 Fp=>?_;refine aa ?_;exact⟨ef,bw,(bl,n,c),bB,dX.mv Fg Fp (Nat.le_refl _),by rw[List.replicate_succ'];exact h9⟩
  ·have kY:j=(o.cells m.vars[k] m.scalars).toNat:=by omega
   have s3:=ay.ext ((aw.trans aR).trans bj);replace ea:bs o.dm.enc T.j 3 bq.heap.size bS (.slice v.1 v.2.1 v.2.2) (o.xB m.scalars m.vars[k]):=by rw[kY] at ea;exact ea
   have gA:=o.jx 1 ((o.cG m).take k) 0;have qI:=o.Gx m bg k;refine aa ?_;intro bX bk;refine K.wide (Hv (n:=43) (x:=7) (y:=9) (off:=0) (so:=1) (by decide) (by decide) (by decide) (by decide) dg jN (by simp[cd]) (by simp[cd]) (by simp[cd];rfl) (by simp[cd]) (s3.ext bk) (ea.ext bk) (by rw[gA,o.zQ];omega) ⟨by rw[o.r1,List.length_take];omega,by simp,by simp⟩ fun a6 cn aN b6 uZ=>?_);have sG:a6 24 = .int .i64 k:=by rw[aN 24 (by decide)];simp[cd]
   refine aa ?_;rw[sG];refine aa ?_;refine⟨bh,bw,(),trivial,?_⟩;have aS:k<(o.cG m).length:=by simpa[o.cG] using bh
   have e:(o.cG m)[k]=o.xB m.scalars m.vars[k]:=by simp[o.cG]
   rw[List.take_succ_eq_append_getElem aS,e,o.Gt,o.vY];have ba:(0+((o.cG m).take k).length:Nat)=k:=by rw[List.length_take];omega
   rw[ba,Nat.zero_add,←gA];exact b6
 have kZ:m.vars.length≤k:=by omega
 rw[List.take_of_length_le (by simpa[o.cG] using kZ)] at ay;have Lk:=o.Gx m bg m.vars.length;rw[List.take_of_length_le (by simp[o.cG])] at Lk;refine aa ?_;refine K.df 56 m.aJ.length [1,2,4,5,6,54,55] (fun _:Unit=>[]) () (fun k _ W=>jq av cv cT (o.fZ.of (o.gF 0 (o.cG m)) (o.gF (o.total (o.cG m)) ((o.dc m).take k)) [] (o.cellsOf 1 (o.cG m) 0++o.cellsOf 2 ((o.dc m).take k) 0)) W) bB bB (by simpa[o.gF,o.cellsOf] using ay) ?_;clear ay aq cR;rintro k _ S aT hk ay;have aq:=pN ay;have cR:=e9 ay;refine aa ?_;apply K.cond<;>intro g2
 ·have bh:k<m.aJ.length:=by omega
  obtain⟨a,rfl⟩:=U.addr (by omega);have et:=((U.at k bh).cells).ext cR;have dh:=bg.chan _ (List.getElem_mem bh);have j8:=o.HA dh gU.1;have hz:=dh.cap;refine aa ?_;intro wn Hl ID hU gA;refine aa ?_;intro bf eZ bK;have aw:Ext aT bf:=eZ.ext hU ID;replace bK:bf.heap[Hl]? = some (.cells m.aJ[k].enc.toArray T.q):=bK;replace aq:=aw.obj aq;clear eZ hU gA et;have IG:=aq;have ZQ:=bK;have fF:=cR.trans aw;refine aa ?_;intro bq Em ZH aR Bp;replace Bp:bq.heap[Em]? = some (.cells ([(⟨0,m.aJ[k].cap,0⟩:o.dm)].flatMap o.dm.enc).toArray T.j):=Bp;have ey:bs o.dm.enc T.j 3 bf.heap.size bq (.slice (some ⟨Em,0,none⟩) 1 1) [(⟨0,m.aJ[k].cap,0⟩:o.dm)]:=bs.Eo _ Bp ZH rfl (fun _=>rfl) rfl (by simp[maxLen]);replace aq:=aR.obj aq;replace bK:=aR.obj bK;have ed:=fF.trans aR;have QI:=Bp;clear Bp;refine aa ?_;refine K.call (J7 ⟨⟨#[]⟩,m.aJ[k].scalar,0,min m.aJ[k].aZ 0,max m.aJ[k].ad 0,0⟩ _ m.scalars bq (aj.ext ed) (by unfold o.en;simp only;omega)) ?_;rintro _ bS ⟨rfl,bj⟩;have sZ:=o.uf (o.eM m.aJ[k].scalar (min m.aJ[k].aZ 0) (max m.aJ[k].ad 0) m.scalars);refine aa ?_;intro bX sk IE bk iD;replace iD:bX.heap[sk]? = some (.cells (o.jy m.scalars m.aJ[k]).enc.toArray T.j):=iD;replace aq:=(bj.trans bk).obj aq;replace bK:=(bj.trans bk).obj bK;have dn:=ey.ext (bj.trans bk);have aae:=(aR.trans bj).trans bk;clear ey;refine aa ?_;have ahE:Em<sk:=by have:=cM QI;have:=bj.size;omega
  refine K.df 79 m.aJ[k].cap.toNat [1,2,4,5,6,10,11,13,54,55,56,78] (fun v:gj=>[(12,.slice v.1 v.2.1 v.2.2)]) (some ⟨Em,0,none⟩,1,1) (fun j v W=>Ext bf W∧W.heap[sk]? = bX.heap[sk]? ∧ bs o.dm.enc T.j 3 bf.heap.size W (.slice v.1 v.2.1 v.2.2) (⟨0,m.aJ[k].cap,0⟩ :: List.replicate j (o.jy m.scalars m.aJ[k]))∧(Value.slice v.1 v.2.1 v.2.2).ownBlock≠some sk) bB bB ⟨aae,rfl,dn,by simp[Value.ownBlock];omega⟩ ?_;rw[iD];have ajY:=cM iD;clear aq bK iD dn QI;rintro j v S cn aU ⟨Fj,iD,dX,hg⟩;have aq:=Fj.obj IG;have bK:=Fj.obj ZQ;refine aa ?_;apply K.cond<;>intro g3
  ·have ef:j<m.aJ[k].cap.toNat:=by omega
   have sZ:=o.uf (o.jy m.scalars m.aJ[k]);refine aa ?_;intro dv Wq ahJ bW IJ;replace IJ:dv.heap[Wq]? = some (.cells (o.jy m.scalars m.aJ[k]).enc.toArray T.j):=IJ;have h9:=dX.ext bW;have aP:((⟨0,m.aJ[k].cap,0⟩:o.dm) :: List.replicate j (o.jy m.scalars m.aJ[k])).length=j+1:=by simp
   have QY:=Fj.trans bW;have z138:=cM (bW.obj iD);refine K.V7 (y:=o.jy m.scalars m.aJ[k]) h9 IJ rfl (fun _=>rfl) o.uf (by rw[aP];omega) (by rw[aP];unfold maxLen;omega) QY.size fun bl n c eA hh Q8 jB=>?_;have uL:eA.heap[sk]? = _:=(Mod.grown (A:=fun i=>(Value.slice v.1 v.2.1 v.2.2).ownBlock=some i) Q8 fun k hk=>hk).obj hg (bW.obj iD);refine aa ?_;refine⟨ef,bw,(bl,n,c),bB,h9.mv QY Q8 (Nat.le_refl _),uL,by rw[List.replicate_succ'];exact hh,fun e=>?_⟩;rcases jB with a | a
   ·exact hg (a.symm.trans e)
   ·rw[a] at e;injection e with e;omega
  ·have kY:j=m.aJ[k].cap.toNat:=by omega
   have iQ:=ay.ext (aw.trans Fj);replace dX:bs o.dm.enc T.j 3 bf.heap.size cn (.slice v.1 v.2.1 v.2.2) (o.lh m.scalars m.aJ[k]):=by rw[kY] at dX;exact dX
   have gA:=o.jx 1 (o.cG m) 0;have IN:=o.jx 2 ((o.dc m).take k) 0;have hlen:(o.cellsOf 1 (o.cG m) 0++o.cellsOf 2 ((o.dc m).take k) 0).length=o.total (o.cG m)+o.total ((o.dc m).take k):=by rw[List.length_append,gA,IN]
   have qI:=o.Lj m bg k;refine aa ?_;intro dv bW;refine K.wide (Hv (n:=86) (x:=10) (y:=12) (off:=1) (so:=2) (by decide) (by decide) (by decide) (by decide) dg jN (by simp[cd]) (by simp[cd]) (by simp[cd];rfl) (by simp[cd]) (iQ.ext bW) (dX.ext bW) (by rw[hlen,o.sn];omega) ⟨by rw[o.r1];simp[o.cG];omega,by rw[o.r1,List.length_take];omega,by simp⟩ fun a6 cn aN b6 uZ=>?_);have sG:a6 56 = .int .i64 k:=by rw[aN 56 (by decide)];simp[cd]
   refine aa ?_;rw[sG];refine aa ?_;refine⟨bh,bw,(),trivial,?_⟩;have aS:k<(o.dc m).length:=by simpa[o.dc] using bh
   have e:(o.dc m)[k]=o.lh m.scalars m.aJ[k]:=by simp[o.dc]
   rw[List.take_succ_eq_append_getElem aS,e,o.Gt,o.vY];have ba:(0+((o.dc m).take k).length:Nat)=k:=by rw[List.length_take];omega
   rw[ba,←List.append_assoc,←hlen];exact b6
 have yO:m.aJ.length≤k:=by omega
 rw[List.take_of_length_le (by simpa[o.dc] using yO)] at ay;have Ld:=o.Lj m bg m.aJ.length;rw[List.take_of_length_le (by simp[o.dc])] at Ld;refine aa ?_;refine K.call (JR _ m aT (h.ext cR) a8) ?_;rintro cr oz ⟨fm,rB⟩;obtain⟨eu,ci,rfl,_⟩:=fm.form;have Jx:=ay.ext rB;have pJ:(o.insts m).length≤30:=by have:=o.ta m;have:=bg.procs;omega
 refine aa ?_;refine K.df 99 (o.insts m).length [1,2,4,5,6,97,98] (fun _:Unit=>[]) () (fun k _ W=>jq av cv cT (o.fZ.of (o.gF 0 (o.cG m)) (o.gF (o.total (o.cG m)) (o.dc m)) (o.gF (o.total (o.cG m)+o.total (o.dc m)) ((o.eP m).take k)) (o.cellsOf 1 (o.cG m) 0++o.cellsOf 2 (o.dc m) 0++o.cellsOf 3 ((o.eP m).take k) 0)) W∧dW qN oz W) bB bB ⟨by simpa[o.gF,o.cellsOf] using Jx,dW.refl⟩ ?_;clear ay Jx aq cR;rintro k _ S aT hk ⟨ay,l8⟩;have aq:=pN ay;have cR:=e9 ay;have fw:oE aT (.slice eu (o.insts m).length ci) (o.insts m):=bs.lH (enc:=o.c3.enc) (fun _=>rfl) (fm.hl l8 (by decide));refine aa ?_;apply K.cond<;>intro g3
 ·have bh:k<(o.insts m).length:=by omega
  obtain⟨lY,rfl⟩:=fw.addr (by omega);have wN:=o.qK _ (List.getElem_mem bh);obtain⟨p,aO,iE,ru⟩:=o.B5 wN;have dh:=bg.proc _ (List.getElem_mem aO);have Ru:=dh.cz;have rC:=dh.gU.1;refine aa ?_;intro wn vR Bi hU gA;refine aa ?_;intro bf eZ bK;have aw:Ext aT bf:=eZ.ext hU Bi;replace bK:bf.heap[vR]? = some (.cells #[.int .i64 p,.int .i64 (o.insts m)[k].elem] T.l):=by rw[←iE];exact bK
  replace aq:=aw.obj aq;clear eZ hU gA fw;have fF:=cR.trans aw;obtain⟨a,rfl⟩:=ag.addr (by omega);obtain⟨oa,ct,dM,ej,eJ,hi⟩:=ag.at p aO;obtain⟨e1,fu,rfl,fQ⟩:=eJ.form;obtain⟨om,j0,rfl,lc⟩:=hi.form;replace ej:=ej.ext fF;refine aa ?_;intro bq Wn ahF aR pH;replace pH:bq.heap[Wn]? = some (.cells (m.procs[p].enc (.slice e1 m.procs[p].vars.length fu) (.slice om m.procs[p].cB.length j0)).toArray T.g):=pH;unfold o.dj.enc at pH;have ed:=fF.trans aR;replace aq:=aR.obj aq;clear ej;refine aa ?_;intro bS Hm ZF bj E9;replace E9:bS.heap[Hm]? = some (.cells ([(⟨0,m.procs[p].cz - 1,0⟩:o.dm)].flatMap o.dm.enc).toArray T.j):=E9;have ea:bs o.dm.enc T.j 3 bq.heap.size bS (.slice (some ⟨Hm,0,none⟩) 1 1) [(⟨0,m.procs[p].cz - 1,0⟩:o.dm)]:=bs.Eo _ E9 ZF rfl (fun _=>rfl) rfl (by simp[maxLen]);have IG:=aq;have ZM:=pH;replace pH:=bj.obj pH;clear E9 aq;refine aa ?_;refine K.df 118 m.procs[p].vars.length [1,2,4,5,6,14,16,97,98,99,116,117] (fun v:gj=>[(17,.slice v.1 v.2.1 v.2.2)]) (some ⟨Hm,0,none⟩,1,1) (fun j v W=>Ext bq W∧bs o.dm.enc T.j 3 bq.heap.size W (.slice v.1 v.2.1 v.2.2) (⟨0,m.procs[p].cz - 1,0⟩ :: (m.procs[p].vars.take j).map fun v=>o.eM v.scalar v.aZ v.ad m.scalars)) bB bB ⟨bj,by simpa using ea⟩ ?_;clear pH ea;rintro j v S bX aU ⟨yG,dn⟩;have aq:=yG.obj IG;have pH:=yG.obj ZM;have kj:=ed.trans yG;refine aa ?_;apply K.cond<;>intro g4
  ·have ef:j<m.procs[p].vars.length:=by omega
   obtain⟨nH,rfl⟩:=eJ.addr (by omega);have et:=((eJ.at j ef).cells).ext kj;have JH:=dh.var _ (List.getElem_mem ef);have j8:=o.GC JH gU.1;refine aa ?_;intro cn Wo ahH bR QF;replace QF:cn.heap[Wo]? = some (.cells m.procs[p].vars[j].enc.toArray T.f):=QF;replace aq:=bR.obj aq;have gI:=kj.trans bR;clear et;refine aa ?_;refine K.call (J7 m.procs[p].vars[j] _ m.scalars cn (aj.ext gI) (by unfold o.en;omega)) ?_;rintro _ dv ⟨rfl,bW⟩;have sZ:=o.uf (o.eM m.procs[p].vars[j].scalar m.procs[p].vars[j].aZ m.procs[p].vars[j].ad m.scalars);refine aa ?_;intro eA Wm ahD cp IH;replace IH:eA.heap[Wm]? = some (.cells (o.eM m.procs[p].vars[j].scalar m.procs[p].vars[j].aZ m.procs[p].vars[j].ad m.scalars).enc.toArray T.j):=IH;have hh:=dn.ext ((bR.trans bW).trans cp);have QZ:=((yG.trans bR).trans bW).trans cp;have aP:((⟨0,m.procs[p].cz - 1,0⟩:o.dm) :: (m.procs[p].vars.take j).map fun v=>o.eM v.scalar v.aZ v.ad m.scalars).length=j+1:=by simp;omega
   refine K.mr (y:=o.eM m.procs[p].vars[j].scalar m.procs[p].vars[j].aZ m.procs[p].vars[j].ad m.scalars) hh IH rfl (fun _=>rfl) o.uf (by rw[aP];omega) (by rw[aP];unfold maxLen;omega) QZ.size fun bl n c eR ly mG=>?_;refine aa ?_;exact⟨ef,bw,(bl,n,c),bB,hh.mv QZ mG (Nat.le_refl _),by rw[List.take_succ_eq_append_getElem ef,List.map_append];exact ly⟩
  ·have aa9:=ay.ext ((aw.trans aR).trans yG);have JY:dW qN aT bX:=dW.ext ((aw.trans aR).trans yG);replace dn:bs o.dm.enc T.j 3 bq.heap.size bX (.slice v.1 v.2.1 v.2.2) (o.ka m (o.insts m)[k]):=by rw[List.take_of_length_le (by omega)] at dn;rw[ru];exact dn
   have gA:=o.jx 1 (o.cG m) 0;have IN:=o.jx 2 (o.dc m) 0;have Z6:=o.jx 3 ((o.eP m).take k) 0;have hlen:(o.cellsOf 1 (o.cG m) 0++o.cellsOf 2 (o.dc m) 0++o.cellsOf 3 ((o.eP m).take k) 0).length=o.total (o.cG m)+o.total (o.dc m)+o.total ((o.eP m).take k):=by rw[List.length_append,List.length_append,gA,IN,Z6]
   have qI:=o.UQ m bg k;have Bl:(o.ka m (o.insts m)[k]).length≤10:=by rw[ru,o.xp];omega
   refine aa ?_;intro dv bW;refine K.wide (Hv (n:=130) (x:=14) (y:=17) (off:=2) (so:=3) (by decide) (by decide) (by decide) (by decide) dg jN (by simp[cd]) (by simp[cd]) (by simp[cd];rfl) (by simp[cd]) (aa9.ext bW) (dn.ext bW) (by rw[hlen];omega) ⟨by rw[o.r1];simp[o.cG];omega,by rw[o.r1];simp[o.dc];omega,by rw[o.r1,List.length_take];omega⟩ fun a6 cn aN b6 uZ=>?_);have sG:a6 99 = .int .i64 k:=by rw[aN 99 (by decide)];simp[cd]
   refine aa ?_;rw[sG];refine aa ?_;refine⟨bh,bw,(),trivial,?_,((l8.trans JY).trans (dW.ext bW)).trans uZ⟩;have aS:k<(o.eP m).length:=by simpa[o.eP] using bh
   have e:(o.eP m)[k]=o.ka m (o.insts m)[k]:=by simp[o.eP]
   rw[List.take_succ_eq_append_getElem aS,e,o.Gt,o.vY];have ba:(0+((o.eP m).take k).length:Nat)=k:=by rw[List.length_take];omega
   rw[ba,←List.append_assoc,←hlen];exact b6
 have BF:(o.insts m).length≤k:=by omega
 rw[List.take_of_length_le (by simpa[o.eP] using BF)] at ay;have aM:=hV ay;obtain⟨vs,u,g1,g2,g3,g4⟩:=ay.ex;have fin:∀{bf W},Ext aT bf→dK ca bf W→(∃xs iY,Value.tuple #[.agg #[cj (vs 0),cj (vs 1),cj (vs 2),.int .i64 (o.b1 m).length,cj (vs 3),cj (vs 4)],cj u] = .tuple #[.agg xs.toArray,iY]∧ev w (fun w=>o.jr w xs (o.layout m)) W∧ev w (fun w=>bz 4 (Flat o.Cell.slot) w iY (o.b1 m)) W)∧Ext w W:=by
  intro bf W he hw;have dB:=he.obj aM;have YS:=(g2.ext he).mod (hw.mod (A:=fun i=>i=ca) rfl) fun i k ad hk e=>by subst e;exact(g2.ext he).not dB (by decide) i ad hk
  have YT:=(g4.ext he).mod (hw.mod (A:=fun i=>i=ca) rfl) fun k hk e=>by
   subst e;obtain⟨cur,gu⟩:=(g4.ext he).aW k hk;rw[dB] at gu;injection gu with gu;injection gu with _ e;exact absurd e (by decide)
  have bU:w.heap.size≤av.heap.size:=by omega
  have qS:=fun(i:Nat) (ad:i<5)=>bs.new (e:=T.a) (enc:=dA) (fun _=>rfl) (bs.low bU (YS.own i ad));refine⟨⟨[_,_,_,_,_,_],_,rfl,fun ft qP=>⟨⟨_,_,_,_,_,rfl,qS 0 (by decide) ft qP,qS 1 (by decide) ft qP,qS 2 (by decide) ft qP,qS 3 (by decide) ft qP,qS 4 (by decide) ft qP⟩⟩,bs.new (e:=T.r) (enc:=o.Cell.slot) (fun _=>rfl) (bs.low bU YT)⟩,hw.ext (cR.trans he) (by omega)⟩
 replace g1:aT.heap[cv]? = some (.cells #[cj (vs 0),cj (vs 1),cj (vs 2),.int .i64 (o.b1 m).length,cj (vs 3),cj (vs 4)] T.i):=g1;refine aa ?_;intro bf aw;replace g1:=aw.obj g1;replace g3:=aw.obj g3;replace aM:=aw.obj aM;dsimp only[cj] at g1 g3;refine aa ?_;refine⟨?_,?_⟩
 ·refine aa ?_;refine⟨?_,?_⟩
  ·refine aa ?_;intro bq ee bI;refine aa ?_;exact fin aw ee
  ·refine aa ?_;intro bq ee bI;replace g3:=ee.obj g3 (by omega);refine aa ?_;exact fin aw ee
 ·refine aa ?_;intro bq ee bI;refine aa ?_;exact fin aw ee
end Go.Proofs.R
end
section
namespace o
theorem Ca{m:Model}(h:(check m).dp=0):lay m=layout m:=by unfold lay;rw[if_pos h]
theorem SF{m:Model}(h:¬(check m).dp=0):lay m=Kj:=by unfold lay;rw[if_neg h]
theorem mJ{m:Model}(h:eI m):(b1 m).length≤64:=by
 have:=FU h
 have:=h.cells
 omega
open Go Go.RowKit bt in
theorem jr.zero(w:World):jr w [.slice none 0 0,.slice none 0 0,.slice none 0 0,.int .i64 0,.slice none 0 0,.slice none 0 0] Kj:=⟨_,_,_,_,_,rfl,bz.nil,bz.nil,bz.nil,bz.nil,bz.nil⟩
end o
namespace Go.Proofs.R
open Go Go.RowKit bt
theorem SD(cs:List Value)(m:o.Model)(w:World)(h:o.er w cs m)(a8:m.cX)(a1:iu w) :
  bu Tryz.prog F.fS #[.agg cs.toArray] w fun v w'=>(∃xs,v = .agg xs.toArray∧ev w (fun w=>o.jr w xs (o.lay m)) w')∧Ext w w':=by
 have bg:=h;obtain⟨cy,bO,b9,c1,ch,c2,cm,bN,cA,bT,rfl,_⟩:=h.form;refine bM E.fS ?_;refine bF ?_;refine aa ?_;intro av bC cL aA aq;refine aa ?_;intro aT ca dB aC aM;have fE:=cM aq;replace aq:=aC.obj aq;have z2:=cM aM;have z3:=aA.size;have ba:=aA.trans aC;refine aa ?_;refine K.call (acW _ m aT (bg.ext ba) a8 (a1.ext ba)) ?_;rintro _ bf ⟨rfl,aw⟩;replace aq:=aw.obj aq;replace aM:=aw.obj aM;have bQ:=ba.trans aw;by_cases hk:(o.check m).dp=0
 ·rw[decide_eq_true hk];refine aa ?_;refine K.call (acz _ m bf (bg.ext bQ) a8 (o.qO hk)) ?_;rintro _ bq ⟨⟨xs,u,rfl,dE,ay⟩,aR⟩;obtain⟨jW,d0,lK,d1,lL,d2,mi,d3,lM,d4,rfl,_⟩:=dE.here.form;obtain⟨Kn,HL,rfl,_⟩:=ay.here.form;replace aM:=aR.obj aM;have b3:=bQ.trans aR;have z4:=aw.size;refine aa ?_;intro bS b5 fU bj bK;replace aM:=bj.obj aM;refine aa ?_;intro bX fW dr;have aI:=(dE.ext bj aR.size).wr fW (by omega);refine aa ?_;exact⟨⟨_,rfl,by rw[o.Ca hk];exact aI.low bQ.size⟩,fW.ext (b3.trans bj) (by omega)⟩
 ·rw[decide_eq_false hk];refine aa ?_;intro bq ee bI;refine aa ?_;exact⟨⟨[_,_,_,_,_,_],rfl,by rw[o.SF hk];exact ga.of fun _=>o.jr.zero _⟩,ee.ext bQ (by omega)⟩
end Go.Proofs.R
end
section
namespace o
theorem Xj{c:c5}{s:List Scalar}(h:zZ c s)(aj:c.scalar≠0):∃i,∃ad:i<s.length,c.scalar=(i:Int)+1∧s[i].size=size c.scalar s:=by
 have e:=h.fg.resolve_left aj;unfold size at e ⊢;split at e
 ·rename_i x ar;obtain⟨cq,rK⟩:=List.getElem?_eq_some_iff.1 ar;split at e
  ·rename_i h1;refine⟨(c.scalar - 1).toNat,cq,by omega,?_⟩;rw[rK,if_pos h1]
  ·exact absurd rfl e
 ·exact absurd rfl e
theorem J1(so ht:Int)(l:List dm)(b:dm):eT so ht (l++[b]) 0=eT so ht l 0++[⟨so,ht,(l.length:Nat),b.aZ,b.ad,b.kind⟩]:=by
 rw[J0,Nat.zero_add]
end o
namespace Go.Proofs.R
open Go Go.RowKit bt
theorem Sx{α:Type}{enc:α→List Value}{e:TypeId}{sz base:Nat}{w w':World}{v:Value}{xs:List α}(a1:bs enc e sz base w v xs)(a8:w.grownBy w' v.ownBlock):dW [e] w w':=dW.mod (A:=fun k=>v.ownBlock=some k) (Mod.grown a8 fun k hk=>hk) fun k c t ax a=>by
 obtain⟨cur,h⟩:=a1.aW k a;rw[ax] at h;injection h with h;injection h with _ h;rw[h];simp
theorem aeL(cs:List Value)(m:o.Model)(w:World)(h:o.er w cs m)(a8:m.cX)(bg:o.eI m) :
  bu Tryz.prog F.CB #[.agg cs.toArray] w fun v w'=>bs o.Cell.enc T.kb 6 w.heap.size w' v (o.b1 m)∧Ext w w':=by
 obtain⟨cy,bO,b9,c1,ch,c2,cm,bN,cA,bT,rfl,aj,h1,U,ag,aK,eG,du,dF,dV,eo⟩:=h.form;have gU:=bg.gU;refine bM E.CB ?_;refine bF ?_;refine aa ?_;intro av bC cL aA aq;refine aa ?_;refine K.df 4 m.vars.length [1] (fun v:gj=>[(3,.slice v.1 v.2.1 v.2.2)]) (none,0,0) (fun k v W=>Ext av W∧bs o.Cell.enc T.kb 6 av.heap.size W (.slice v.1 v.2.1 v.2.2) (o.cellsOf 1 ((o.cG m).take k) 0)) bB bB ⟨Ext.refl _,bs.nil _ _ _ _ _⟩ ?_;have o0:=aq;clear aq;rintro k v S aT hk ⟨aC,eX⟩;have aq:=aC.obj o0;have ba:=aA.trans aC;refine aa ?_;apply K.cond<;>intro g1
 ·have bh:k<m.vars.length:=by omega
  obtain⟨a,rfl⟩:=h1.addr (by omega);have et:=((h1.at k bh).cells).ext ba;have dh:=bg.var _ (List.getElem_mem bh);have j8:=o.GC dh gU.1;have aS:k<(o.cG m).length:=by simpa[o.cG] using bh
  have qI:=o.Gx m bg (k+1);rw[o.Dw aS] at qI;have uv:(o.cG m)[k]=o.xB m.scalars m.vars[k]:=by simp[o.cG]
  rw[uv,o.zQ] at qI;have fa:=o.sm m.vars[k] m.scalars;refine aa ?_;refine K.gn (.tuple #[.int .i64 (o.bounds m.vars[k] m.scalars).1,.int .i64 (o.bounds m.vars[k] m.scalars).2]) (fun w' e=>KL m.vars[k] _ m.scalars w' (aj.ext (ba.trans e))) ?_;refine aa ?_;intro bf aw;have eY:=eX.ext aw;have bK:=aw.obj aq;have hB:=aC.trans aw;clear aq et;refine aa ?_;refine K.df 7 (o.cells m.vars[k] m.scalars).toNat [1,4,5,6] (fun v:gj=>[(3,.slice v.1 v.2.1 v.2.2)]) v (fun j v W=>Ext av W∧bs o.Cell.enc T.kb 6 av.heap.size W (.slice v.1 v.2.1 v.2.2) (o.cellsOf 1 ((o.cG m).take k) 0++o.eT 1 k (List.replicate j (o.eM m.vars[k].scalar m.vars[k].aZ m.vars[k].ad m.scalars)) 0)) bB bB ⟨hB,by simpa[o.eT] using eY⟩ ?_;clear bK eY eX aC aw hB;rintro j v S bq aU ⟨aR,ey⟩;have aq:=aR.obj o0;have b3:=aA.trans aR;have et:=((h1.at k bh).cells).ext b3;refine aa ?_;refine K.gn _ (fun w' e=>KM m.vars[k] _ m.scalars w' (aj.ext (b3.trans e))) ?_;refine aa ?_;intro bS bj;replace aq:=bj.obj aq;replace et:=et.ext bj;have ea:=ey.ext bj;have kC:=aR.trans bj;refine aa ?_;apply K.cond<;>intro g2
  ·have ef:j<(o.cells m.vars[k] m.scalars).toNat:=by omega
   refine aa ?_;refine K.call (KP m.vars[k].scalar bS (by unfold o.en;omega)) ?_;rintro _ mh ⟨rfl,rfl⟩;refine aa ?_;intro bX ix gM bk dr;have dn:=ea.ext bk;have nj:=kC.trans bk;have aP:(o.cellsOf 1 ((o.cG m).take k) 0++o.eT 1 k (List.replicate j (o.eM m.vars[k].scalar m.vars[k].aZ m.vars[k].ad m.scalars)) 0).length=o.total ((o.cG m).take k)+j:=by
    rw[List.length_append,o.jx,o.rN,List.length_replicate]
   refine K.mr (y:=⟨1,k,j,(o.bounds m.vars[k] m.scalars).1,(o.bounds m.vars[k] m.scalars).2,o.kindOf m.vars[k].scalar⟩) dn dr rfl (fun _=>rfl) o.AG (by rw[aP];omega) (by rw[aP];unfold maxLen;omega) nj.size fun bl n c cn dX ji=>?_;refine aa ?_;refine⟨ef,bw,(bl,n,c),bB,dn.mv nj ji (Nat.le_refl _),?_⟩;rw[List.replicate_succ',o.J1,←List.append_assoc,List.length_replicate,o.AA];rw[o.AA] at dX;exact dX
  ·have kY:j=(o.cells m.vars[k] m.scalars).toNat:=by omega
   refine aa ?_;refine⟨bh,bw,v,bB,kC,?_⟩;have ba:(0+((o.cG m).take k).length:Nat)=k:=by rw[List.length_take];omega
   rw[List.take_succ_eq_append_getElem aS,uv,o.vY,ba];rw[kY] at ea;exact ea
 have kZ:m.vars.length≤k:=by omega
 rw[List.take_of_length_le (by simpa[o.cG] using kZ)] at eX;have Lk:=o.Gx m bg m.vars.length;rw[List.take_of_length_le (by simp[o.cG])] at Lk;refine aa ?_;refine K.df 8 m.aJ.length [1] (fun v:gj=>[(3,.slice v.1 v.2.1 v.2.2)]) v (fun k v W=>Ext av W∧bs o.Cell.enc T.kb 6 av.heap.size W (.slice v.1 v.2.1 v.2.2) (o.cellsOf 1 (o.cG m) 0++o.cellsOf 2 ((o.dc m).take k) 0)) bB bB ⟨aC,by simpa[o.cellsOf] using eX⟩ ?_;clear aq eX aC ba;rintro k v S aT hk ⟨aC,eX⟩;have aq:=aC.obj o0;have ba:=aA.trans aC;refine aa ?_;apply K.cond<;>intro g2
 ·have bh:k<m.aJ.length:=by omega
  obtain⟨a,rfl⟩:=U.addr (by omega);have et:=((U.at k bh).cells).ext ba;have dh:=bg.chan _ (List.getElem_mem bh);have j8:=o.HA dh gU.1;have hz:=dh.cap;have aS:k<(o.dc m).length:=by simpa[o.dc] using bh
  have qI:=o.Lj m bg (k+1);rw[o.Dw aS] at qI;have uv:(o.dc m)[k]=o.lh m.scalars m.aJ[k]:=by simp[o.dc]
  rw[uv,o.sn] at qI;have wF:(o.cellsOf 1 (o.cG m) 0++o.cellsOf 2 ((o.dc m).take k) 0).length=o.total (o.cG m)+o.total ((o.dc m).take k):=by rw[List.length_append,o.jx,o.jx]
  refine aa ?_;intro bf iy kz aw dI;replace dI:bf.heap[iy]? = some (.cells m.aJ[k].enc.toArray T.q):=dI;replace aq:=aw.obj aq;have eY:=eX.ext aw;clear et;have hB:=aC.trans aw;refine aa ?_;intro bq cO fo aR bI;have ey:=eY.ext aR;have nU:=hB.trans aR;refine K.mr (y:=⟨2,k,0,0,m.aJ[k].cap,0⟩) ey bI rfl (fun _=>rfl) o.AG (by rw[wF];omega) (by rw[wF];unfold maxLen;omega) nU.size fun bl n c bS ea kD=>?_;have aq:=ey.box kD (aR.obj aq) (by decide);have dI:=ey.box kD (aR.obj dI) (by decide);have kC:=ey.mv nU kD (Nat.le_refl _);have cc:=aA.trans kC;have aj2:=cM dI;clear eX eY bI fo aR aw kz;refine ei ?_;simp -dsimp only[cw];refine ei ?_;intro bX bk;replace aq:=bk.obj aq;replace dI:=bk.obj dI;have dn:=ea.ext bk;have c0:=cc.trans bk;have nj:=kC.trans bk;refine K.hQ [1,3,8,9] (fun _:Unit=>[(10,.int .i64 (o.jy m.scalars m.aJ[k]).aZ),(11,.int .i64 (o.jy m.scalars m.aJ[k]).ad)]) (fun _ W=>Ext bX W) ?_ ?_
  ·refine aa ?_;apply K.cond<;>intro g3
   ·obtain⟨i,ad,Jx,Jz⟩:=o.Xj dh (by omega);obtain⟨a0,rfl⟩:=aj.addr (by omega);have fV:=((aj.at i ad).cells).ext c0;refine aa ?_;refine K.dk i (by omega) ad ?_;refine aa ?_;intro cn bR;refine aa ?_;have e:o.jy m.scalars m.aJ[k]=⟨0,m.scalars[i].size,m.aJ[k].scalar+1⟩:=by unfold o.jy o.eM;rw[if_neg (by omega),Jz]
    rw[e];exact⟨(),bB,bR⟩
   ·have gb:m.aJ[k].scalar=0:=by omega
    refine aa ?_;have e:o.jy m.scalars m.aJ[k]=⟨min 0 m.aJ[k].aZ,max 0 m.aJ[k].ad,0⟩:=by unfold o.jy o.eM;rw[if_pos gb,Int.min_comm,Int.max_comm]
    rw[e];exact⟨(),bB,Ext.refl _⟩
  rintro _ S cn bR;replace aq:=bR.obj aq;replace dI:=bR.obj dI;have dX:=dn.ext bR;have uD:=nj.trans bR;have BE:o.jy m.scalars m.aJ[k]=⟨(o.jy m.scalars m.aJ[k]).aZ,(o.jy m.scalars m.aJ[k]).ad,o.kindOf m.aJ[k].scalar⟩:=by
   unfold o.jy o.eM o.kindOf;split<;>rfl
  have FK:∀{W:World},W.heap[iy]? = cn.heap[iy]? → _:=fun e=>e.trans dI;refine aa ?_;refine K.DA [1,8,9,10,11] (fun x:gj×Nat=>[(3,.slice x.1.1 x.1.2.1 x.1.2.2),(12,.int .i64 ((x.2:Int)+1))]) ((bl,n,c),0) (fun x W=>(Ext av W∧W.heap[iy]? = cn.heap[iy]? ∧ (x.2:Int)≤m.aJ[k].cap)∧bs o.Cell.enc T.kb 6 av.heap.size W (.slice x.1.1 x.1.2.1 x.1.2.2) (o.cellsOf 1 (o.cG m) 0++o.cellsOf 2 ((o.dc m).take k) 0++o.eT 2 k (⟨0,m.aJ[k].cap,0⟩ :: List.replicate x.2 (o.jy m.scalars m.aJ[k])) 0)) (fun x=>(m.aJ[k].cap - x.2).toNat) bB ⟨⟨uD,rfl,by simp only;omega⟩,by simpa[o.eT] using dX⟩ ?_;clear aq dI dX dn ea;rintro⟨v,j⟩ S dv ⟨⟨Bt,kz,aU⟩,h9⟩;have aq:=Bt.obj o0;have dI:=FK kz;simp only at aU;refine aa ?_;apply K.cond<;>intro g4
  ·refine aa ?_;refine K.call (KP m.aJ[k].scalar dv (by unfold o.en;omega)) ?_;rintro _ mh ⟨rfl,rfl⟩;refine aa ?_;intro eA Ek E3 cp kB;have hh:=h9.ext cp;have Bu:=Bt.trans cp;have aP:(o.cellsOf 1 (o.cG m) 0++o.cellsOf 2 ((o.dc m).take k) 0++o.eT 2 k (⟨0,m.aJ[k].cap,0⟩ :: List.replicate j (o.jy m.scalars m.aJ[k])) 0).length=o.total (o.cG m)+o.total ((o.dc m).take k)+(j+1):=by
    rw[List.length_append,wF,o.rN,List.length_cons,List.length_replicate]
   refine K.mr (y:=⟨2,k,(j:Int)+1,(o.jy m.scalars m.aJ[k]).aZ,(o.jy m.scalars m.aJ[k]).ad,o.kindOf m.aJ[k].scalar⟩) hh kB rfl (fun _=>rfl) o.AG (by rw[aP];omega) (by rw[aP];unfold maxLen;omega) Bu.size fun bl n c eR ly mG=>?_;have ZZ:=hh.box mG (cp.obj dI) (by decide);refine aa ?_;refine⟨((bl,n,c),j+1),bB,⟨⟨hh.mv Bu mG (Nat.le_refl _),ZZ.trans (FK rfl).symm,by simp only;omega⟩,?_⟩,by simp only;omega⟩;rw[List.replicate_succ',←List.cons_append,o.J1,←List.append_assoc,List.length_cons,List.length_replicate];rw[BE] at ly ⊢;exact ly
  ·refine aa ?_;refine⟨bh,bw,v,bB,Bt,?_⟩;have ba:(0+((o.dc m).take k).length:Nat)=k:=by rw[List.length_take];omega
   have wb:j=m.aJ[k].cap.toNat:=by omega
   rw[List.take_succ_eq_append_getElem aS,uv,o.vY,ba,←List.append_assoc];rw[wb] at h9;exact h9
 have yO:m.aJ.length≤k:=by omega
 rw[List.take_of_length_le (by simpa[o.dc] using yO)] at eX;refine aa ?_;refine K.call (Da _ m aT (h.ext ba) a8) ?_;rintro cr oz ⟨fm,rB⟩;obtain⟨eu,ci,rfl,_⟩:=fm.form;have I9:∀{W:World},dW [T.kb] oz W→oE W (.slice eu (o.insts m).length ci) (o.insts m):=fun k=>bs.lH (enc:=o.c3.enc) (fun _=>rfl) (fm.hl k (by decide));have pJ:(o.insts m).length≤30:=by have:=o.ta m;have:=bg.procs;omega
 have RH:=eX.ext rB;have QX:=aC.trans rB;have ajZ:=rB.size;refine aa ?_;refine K.df 14 (o.insts m).length [1,13] (fun v:gj=>[(3,.slice v.1 v.2.1 v.2.2)]) v (fun k v W=>(Ext av W∧dW [T.kb] oz W)∧bs o.Cell.enc T.kb 6 av.heap.size W (.slice v.1 v.2.1 v.2.2) (o.cellsOf 1 (o.cG m) 0++o.cellsOf 2 (o.dc m) 0++o.cellsOf 3 ((o.eP m).take k) 0)) bB bB ⟨⟨QX,dW.refl⟩,by simpa[o.cellsOf] using RH⟩ ?_;clear aq eX aC ba RH rB QX;rintro k v S aT hk ⟨⟨aC,l8⟩,eX⟩;have fw:=I9 l8;have aq:=aC.obj o0;have ba:=aA.trans aC;refine aa ?_;apply K.cond<;>intro g3
 ·have bh:k<(o.insts m).length:=by omega
  obtain⟨lY,rfl⟩:=fw.addr (by omega);have wN:=o.qK _ (List.getElem_mem bh);obtain⟨p,aO,iE,ru⟩:=o.B5 wN;have dh:=bg.proc _ (List.getElem_mem aO);have Ru:=dh.cz;have rC:=dh.gU.1;obtain⟨a,rfl⟩:=ag.addr (by omega);obtain⟨oa,ct,dM,ej,eJ,hi⟩:=ag.at p aO;obtain⟨e1,fu,rfl,fQ⟩:=eJ.form;obtain⟨om,j0,rfl,lc⟩:=hi.form;replace ej:=ej.ext ba;have aS:k<(o.eP m).length:=by simpa[o.eP] using bh
  have qI:=o.UQ m bg (k+1);rw[o.Dw aS] at qI;have uv:(o.eP m)[k]=o.rU m.scalars m.procs[p]:=by simp[o.eP,ru]
  rw[uv,o.xp] at qI;have wF:(o.cellsOf 1 (o.cG m) 0++o.cellsOf 2 (o.dc m) 0++o.cellsOf 3 ((o.eP m).take k) 0).length=o.total (o.cG m)+o.total (o.dc m)+o.total ((o.eP m).take k):=by rw[List.length_append,List.length_append,o.jx,o.jx,o.jx]
  refine aa ?_;intro bf aw;replace ej:=ej.ext aw;replace aq:=aw.obj aq;replace fw:=fw.ext Flat.ext aw;have eY:=eX.ext aw;have hB:=aC.trans aw;refine aa ?_;refine K.dk p iE aO ?_;refine aa ?_;intro wn vR Bi hU gA;refine⟨hU,?_⟩;refine aa ?_;intro bq ee bI;have Fi:Ext bf bq:=ee.ext hU Bi;replace bI:bq.heap[vR]? = some (.cells (m.procs[p].enc (.slice e1 m.procs[p].vars.length fu) (.slice om m.procs[p].cB.length j0)).toArray T.g):=bI;unfold o.dj.enc at bI;replace aq:=Fi.obj aq;have ey:=eY.ext Fi;have nU:=hB.trans Fi;clear ee hU gA ej eY eX fw;refine aa ?_;intro bS dH mB bj cC;have ea:=ey.ext bj;have kC:=nU.trans bj;refine K.mr (y:=⟨3,k,0,0,m.procs[p].cz - 1,0⟩) ea cC rfl (fun _=>rfl) o.AG (by rw[wF];omega) (by rw[wF];unfold maxLen;omega) kC.size fun bl n c bX dn jM=>?_;have aq:=ea.box jM (bj.obj aq) (by decide);have wC:=ea.box jM (bj.obj bI) (by decide);have nj:=ea.mv kC jM (Nat.le_refl _);have JY:dW [T.kb] oz bX:=((l8.trans (dW.ext (aw.trans Fi))).trans (dW.ext bj)).trans (Sx ea jM);clear bI ey;have RX:∀{W:World},W.heap[vR]? = bX.heap[vR]? → _:=fun e=>e.trans wC;refine aa ?_;refine K.df 16 m.procs[p].vars.length [1,13,14,15] (fun v:gj=>[(3,.slice v.1 v.2.1 v.2.2)]) (bl,n,c) (fun j v W=>((Ext av W∧dW [T.kb] oz W)∧W.heap[vR]? = bX.heap[vR]?)∧bs o.Cell.enc T.kb 6 av.heap.size W (.slice v.1 v.2.1 v.2.2) (o.cellsOf 1 (o.cG m) 0++o.cellsOf 2 (o.dc m) 0++o.cellsOf 3 ((o.eP m).take k) 0++o.eT 3 k (⟨0,m.procs[p].cz - 1,0⟩ :: (m.procs[p].vars.take j).map fun v=>o.eM v.scalar v.aZ v.ad m.scalars) 0)) bB bB ⟨⟨⟨nj,JY⟩,rfl⟩,by simpa[o.eT] using dn⟩ ?_;clear aq wC dn;rintro j v S cn aU ⟨⟨⟨uD,rM⟩,Bi⟩,dX⟩;have aq:=uD.obj o0;have wC:=RX Bi;have dZ:=aA.trans uD;refine aa ?_;apply K.cond<;>intro g4
  ·have ef:j<m.procs[p].vars.length:=by omega
   obtain⟨nH,rfl⟩:=eJ.addr (by omega);have et:=((eJ.at j ef).cells).ext dZ;have JH:=dh.var _ (List.getElem_mem ef);have j8:=o.GC JH gU.1;refine aa ?_;refine K.gn (.tuple #[.int .i64 (o.bounds m.procs[p].vars[j] m.scalars).1,.int .i64 (o.bounds m.procs[p].vars[j] m.scalars).2]) (fun w' e=>KL m.procs[p].vars[j] _ m.scalars w' (aj.ext (dZ.trans e))) ?_;refine aa ?_;intro dv bW;replace aq:=bW.obj aq;replace wC:=bW.obj wC;replace et:=et.ext bW;have h9:=dX.ext bW;have Bt:=uD.trans bW;refine aa ?_;refine K.call (KP m.procs[p].vars[j].scalar dv (by unfold o.en;omega)) ?_;rintro _ mh ⟨rfl,rfl⟩;refine aa ?_;intro eA iy kz cp dI;have hh:=h9.ext cp;have Bu:=Bt.trans cp;have aP:(o.cellsOf 1 (o.cG m) 0++o.cellsOf 2 (o.dc m) 0++o.cellsOf 3 ((o.eP m).take k) 0++o.eT 3 k (⟨0,m.procs[p].cz - 1,0⟩ :: (m.procs[p].vars.take j).map fun v=>o.eM v.scalar v.aZ v.ad m.scalars) 0).length=o.total (o.cG m)+o.total (o.dc m)+o.total ((o.eP m).take k)+(j+1):=by
    rw[List.length_append,wF,o.rN,List.length_cons,List.length_map,List.length_take];omega
   have cq:((m.procs[p].vars.take j).map fun v=>o.eM v.scalar v.aZ v.ad m.scalars).length=j:=by simp;omega
   refine K.mr (y:=⟨3,k,1+(j:Int),(o.bounds m.procs[p].vars[j] m.scalars).1,(o.bounds m.procs[p].vars[j] m.scalars).2,o.kindOf m.procs[p].vars[j].scalar⟩) hh dI rfl (fun _=>rfl) o.AG (by rw[aP];omega) (by rw[aP];unfold maxLen;omega) Bu.size fun bl n c eR ly mG=>?_;have ZL:=hh.box mG (cp.obj wC) (by decide);refine aa ?_;refine⟨ef,bw,(bl,n,c),bB,⟨⟨hh.mv Bu mG (Nat.le_refl _),(rM.trans (dW.ext (bW.trans cp))).trans (Sx hh mG)⟩,ZL.trans (RX rfl).symm⟩,?_⟩;rw[List.take_succ_eq_append_getElem ef,List.map_append,←List.cons_append,List.map_cons,List.map_nil,o.J1,←List.append_assoc,List.length_cons,cq,o.AA m.procs[p].vars[j],show((j+1:Nat):Int)=1+(j:Int) from by omega];exact ly
  ·refine aa ?_;refine⟨bh,bw,v,bB,⟨uD,rM⟩,?_⟩;have ba:(0+((o.eP m).take k).length:Nat)=k:=by rw[List.length_take];omega
   rw[List.take_of_length_le (l:=m.procs[p].vars) (by omega)] at dX;rw[List.take_succ_eq_append_getElem aS,uv,o.vY,ba,←List.append_assoc];exact dX
 ·rw[List.take_of_length_le (by simp[o.eP];omega)] at eX;refine aa ?_;exact⟨bs.low aA.size eX,ba⟩
end Go.Proofs.R
end