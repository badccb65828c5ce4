/- Parts. -/
import Derived.Test.YtakmdjclehkglaaGreatDoorQamj
set_option linter.all false
set_option maxRecDepth 8000
set_option maxHeartbeats 16000000
namespace o
def arJ{m:Model}(h:(qt m).cJ=0):qt m=vg:=TG (M6 h)
end o
namespace Go.Proofs.R
open Go Go.RowKit ba o
theorem aiA(b:Nat)(w:A_):CallsD Tryz.prog F.g #[.pointer (some ⟨b,0,none⟩)] .returning w λe kZ w'=>kZ = .returning/\∃v,e = .returned v/\w'=w:=by
 refine AA3 l3 VM.g (args:=[_]) (Nat.le_of_ble_eq_true rfl) ?_;dsimp only[Oc.g];refine oR ?_;dsimp only[qw];refine aa ?_;refine AC8 Cx ?_
 (repeat' first
 | assumption
 | exact Ext.refl _
 | refine Ext.trans ?_ CV
 | refine Q_ Aw ?_
 | refine _M CV ?_ rfl ?_
 | refine _E CV ?_ rfl ?_
 | refine _O CV ?_ Aw rfl ?_
 | refine _P CV ?_ Aw rfl ?_
 | refine _Q CV ?_ Aw rfl ?_
 | refine _T Aw ?_
 | refine _R (by first | assumption | omega) ?_
 | refine _S (by first | assumption | omega) ?_
 | refine _I CV ?_
 | refine _J CV ?_
 | simp -dsimp only[dg,cK,Nat.reduceAdd,Nat.reduceEqDiff,reduceIte,reduceCtorEq,dq])
def aiz(f:tq)(b:Nat)(w:A_)(ak:w.heap[b]? = some (.cells #[.I 0,.I 0,.I 0,.I 0] T.x)) :
  CallsD Tryz.prog F.g #[.pointer (some ⟨b,0,none⟩)] (.panicking (x6 f)) w λe kZ w'=>kZ=(qw (.panicking (x6 f))).2/\∃v,e = .returned v /\
   (w'.heap[b]? = some (.cells #[.I f.cJ,.I f.part,.I f.item,.I f.sub] T.x)/\∀w0,Ext w0 w->w0.heap.size<=b->Ext w0 w'):=by
 refine AA3 l3 VM.g (args:=[_]) (Nat.le_of_ble_eq_true rfl) ?_;dsimp only[Oc.g];refine oR ?_;dsimp only[qw,x6];refine aa ?_;refine AC9 Cx ?_;refine aa ?_;refine AD0 rfl Cx ?_;refine aa ?_;intro w1 bx cN af al;have Ig:=cq ak;replace ak:=af.obj ak;refine aa ?_;intro az ov ao;refine aa ?_;exact⟨ao,λw0 e aE=>ov.ext (e.trans af) aE⟩
def zx(cs:C_ B_)(m:o.Model)(w:A_)(h:dh w cs m)(aG:m.cr)(aS:gQ w) :
  Ei F.iN #[.agg cs.toArray] w λv w'=>v = .agg #[.I (o.check m).cJ,.I (o.check m).part,.I (o.check m).item,.I (o.check m).sub]/\Ext w w':=by
 obtain⟨bZ,bz,bN,c1,bT,c2,bW,bw,b1,bD,rfl,_⟩:=h.form;refine AC4 l3 agl.iN (args:=[_]) (Nat.le_of_ble_eq_true rfl) ?_;dsimp only[VJ.iN];refine oR ?_;refine aa ?_;intro w1 bx cN af al;refine aa ?_;intro az bP c8 ai ao;replace al:=ai.obj al;have fT:=cq al;have z5:=cq ao;refine aa ?_;refine AC5 Cx ?_;refine aa ?_;refine _e λaM cz qi ag jz=>?_;replace al:=ag.obj al;replace ao:=ag.obj ao;have z2:=cq ao;have z3:=ai.size;have z4:=af.size;have aO:=(af.trans ai).trans ag;have Pq:∀(f:tq) (w':A_) (S:Fr),Ext w w'->w'.heap[bP]? = some (.cells #[.I 0,.I 0,.I 0,.I 0] T.x)->S 2 = .pointer (some ⟨bP,0,none⟩)->f=o.check m ->
   FB Tryz.prog [.iZ 4 2] F.g #[.pointer (some ⟨bP,0,none⟩)] (λv w'=>v = .agg #[.I (o.check m).cJ,.I (o.check m).part,.I (o.check m).item,.I (o.check m).sub]/\Ext w w') (.hD (x6 f)) S w':=by
  rintro f w' S e an b7 rfl;refine AC7 (uT.of (aiz (o.check m) bP w' an) rfl ?_);rintro aR ⟨ak,he⟩;simp -dsimp only[dg,cK,Nat.reduceAdd,Nat.reduceEqDiff,reduceIte,reduceCtorEq,dq,b7];refine T_ ak (Ext.refl _) rfl ?_;simp -dsimp only[dg,cK,Nat.reduceAdd,Nat.reduceEqDiff,reduceIte,reduceCtorEq,dq];exact⟨aJ,he _ e Aw⟩
 refine aa ?_;refine W_ (akX _ m cz aM h aO Aw aS (gl.empty jz)) ?_ ?_;rotate_left
 .rintro c aR ⟨h1,rfl,bo,m4⟩;refine aa ?_;exact Pq _ aR _ bo (m4.obj Aw ao) rfl (by rw[o.check,if_pos h1])
 rintro _ aR ⟨h1,bo,m4,qB⟩;replace al:=m4.obj Aw al;replace ao:=m4.obj Aw ao;refine aa ?_;refine W_ (arE _ m cz aR h aG bo Aw aS h1 qB) ?_ ?_;rotate_left
 .rintro c bg ⟨J,rfl,bC,m5⟩;refine aa ?_;exact Pq _ bg _ bC (m5.obj Aw ao) rfl (by rw[o.check,if_neg (by simpa using h1),if_pos J])
 rintro _ bg ⟨J,bC,m5,pV⟩;replace al:=m5.obj Aw al;replace ao:=m5.obj Aw ao;refine aa ?_;refine W_ (arI _ m cz bg h aG bC Aw aS pV) ?_ ?_;rotate_left
 .rintro c bp ⟨ab,rfl,b5,m6⟩;refine aa ?_;exact Pq _ bp _ b5 (m6.obj Aw ao) rfl (by rw[o.check,if_neg (by simpa using h1),if_neg (by simpa using J)])
 rintro _ bp ⟨ab,b5,m6⟩;replace al:=m6.obj Aw al;replace ao:=m6.obj Aw ao;have mw:o.check m=vg:=by rw[o.check,if_neg (by simpa using h1),if_neg (by simpa using J),arJ ab]
 refine aa ?_;intro bH dz b3;refine aa ?_;refine AC6 (uT.of (aiA bP bH) rfl ?_);rintro _ rfl;refine aa ?_;exact⟨by rw[mw];rfl,dz.ext b5 Aw⟩
end Go.Proofs.R
namespace o
open Go
def eb.enc(b:eb):C_ B_:=[.int .i64 b.aV,.int .i64 b.U,.int .i64 b.kind]
def Cell.slot(x:Cell):C_ B_:=[.int .i64 x.sort,.int .i64 x.yb,.int .i64 x.place,.int .i64 x.kind]
def Cell.enc(x:Cell):C_ B_:=[.int .i64 x.sort,.int .i64 x.yb,.int .i64 x.place,.int .i64 x.aV,.int .i64 x.U,.int .i64 x.kind]
def yA:∀(y:eb),∀u∈y.enc,u.oneCell'=true:=by intro y u hu;simp[eb.enc] at hu;rcases hu with rfl | rfl | rfl<;>rfl
def atL:∀(y:Cell),∀u∈y.slot,u.oneCell'=true:=by intro y u hu;simp[Cell.slot] at hu;rcases hu with rfl | rfl | rfl | rfl<;>rfl
def Fp:∀(y:Cell),∀u∈y.enc,u.oneCell'=true:=by intro y u hu;simp[Cell.enc] at hu;rcases hu with rfl | rfl | rfl | rfl | rfl | rfl<;>rfl
end o
namespace Go.Proofs.R
open Go Go.RowKit ba o
def apK(k:Int)(w:A_)(h:dZ (k+1)):Ei F.yQ #[.I k] w λv w'=>v = .I (o.kindOf k)/\w'=w:=by
 unfold dZ at h;refine bk E.yQ ?_;unfold o.kindOf;refine aa ?_;apply I_<;>intro g1
 .refine aa ?_;exact⟨by rw[if_pos g1],aJ⟩
 .refine aa ?_;exact⟨by rw[if_neg g1],aJ⟩
def TZ(k:Int)(w:A_)(h:dZ (k+1)):Ei F.L8 #[.I k] w λv w'=>v = .I (o.kindOf k)/\w'=w:=by
 unfold dZ at h;refine bk E.L8 ?_;unfold o.kindOf;refine aa ?_;apply I_<;>intro g1
 .refine aa ?_;exact⟨by rw[if_pos g1],aJ⟩
 .refine aa ?_;exact⟨by rw[if_neg g1,Int.add_comm],aJ⟩
def Ta(x:o.Var)(v:B_)(l:C_ o.Scalar)(w:A_)(aE:iz w v l)(h:dZ (x.scalar+1)) :
  Ei F.a2 #[.agg x.enc.toArray,v] w λv w'=>v = .agg (e7 x.scalar x.aV x.U l).enc.toArray/\Ext w w':=by
 obtain⟨ae,c,rfl,_⟩:=aE.form;rw[An];refine bk E.a2 ?_;refine aa ?_;intro w1 bx cN af al;refine aa ?_;intro az bP c8 ai ao;replace al:=ai.obj al;have fT:=cq al;have z2:=cq ao;have aD:=af.trans ai;refine aa ?_;refine J_ (IY x _ l az (aE.ext aD)) ?_;rintro _ aM ⟨rfl,ag⟩;replace al:=ag.obj al;replace ao:=ag.obj ao;have aO:=aD.trans ag;refine aa ?_;refine J_ (apK x.scalar aM h) ?_;rintro _ ps ⟨rfl,rfl⟩;refine aa ?_;intro aR dT bn;refine aa ?_;exact⟨aJ,dT.ext aO (by have:=af.size;omega)⟩
def apY(cs:C_ B_)(m:o.Model)(w:A_)(h:dh w cs m)(aG:m.cr)(aS:gQ w) :
  Ei F.gh #[.agg cs.toArray] w λv w'=>v = .bool (decide ((o.check m).cJ=0))/\Ext w w':=by
 obtain⟨bZ,bz,bN,c1,bT,c2,bW,bw,b1,bD,rfl,_⟩:=h.form;refine bk E.gh ?_;refine aa ?_;intro w1 bx cN af al;refine aa ?_;refine J_ (zx _ m w1 (h.ext af) aG (aS.ext af)) ?_;rintro _ az ⟨rfl,ai⟩;refine aa ?_;refine Y_ (v:=.I (o.check m).cJ) rfl ?_;refine aa ?_;exact⟨aJ,af.trans ai⟩
def akY(cs:C_ B_)(m:o.Model)(w:A_)(h:dh w cs m)(aG:m.cr) :
  Ei F.L7 #[.agg cs.toArray] w λv w'=>v = .bool (decide ((o.check m).cJ=0))/\Ext w w':=by
 obtain⟨bZ,bz,bN,c1,bT,c2,bW,bw,b1,bD,rfl,_⟩:=h.form;refine bk E.L7 ?_;refine aa ?_;intro w1 bx cN af al;refine aa ?_;refine J_ (HI _ m w1 (h.ext af) aG) ?_;rintro _ az ⟨rfl,ai⟩;unfold vf;refine aa ?_;refine Y_ (v:=.I (o.check m).cJ) rfl ?_;refine aa ?_;exact⟨aJ,af.trans ai⟩
end Go.Proofs.R
namespace ba
open Go Go.RowKit
def iW.congr{α:Type}{enc:α->C_ B_}{e:F_}{sz base n:Nat}{w:A_}{vs uN:Nat->H_ Addr×Nat×Nat}{xs H8:Nat->C_ α}(h:iW enc e sz base w n vs xs)(aH:∀i,i<n->vs i=uN i)(ah:∀i,i<n->xs i=H8 i):iW enc e sz base w n uN H8 :=
 ⟨λi U=>by rw[<-aH i U,<-ah i U];exact h.own i U,λi j k U ay cv he=>by rw[<-aH j ay];rw[<-aH i U] at he;exact h.apart i j k U ay cv he⟩
def FH{S:Fr}{t:Nat}{n:Int}(h:S t = .I n):gG S ((List.range 1).map λi=>(i*1,1)) [(0,.tmp t)] [.I 0]=some [.I n]:=by
 simp[gG,lay,dc,h,Value.cells,List.range,List.range.loop]
structure eV(cH:List TypeId)(w w':World):Prop where
 size:w.heap.size<=w'.heap.size
 cy:∀(k:Nat) (c:Array Value) (t:TypeId),w.heap[k]? = some (.cells c t)->t∉cH->w'.heap[k]? = some (.cells c t)
section
variable{cH:List TypeId}{a b w w':World}
def eV.refl:eV cH w w:=⟨E1 _,λ_ _ _ h _=>h⟩
def eV.trans{c:A_}(h:eV cH a b)(k:eV cH b c):eV cH a c:=⟨Ns h.size k.size,λi c t an aB=>k.cy i c t (h.cy i c t an aB) aB⟩
theorem eV.ext(h:Ext a b):eV cH a b:=⟨h.size,λ_ _ _ an _=>h.obj an⟩
def eV.mod{A:Nat->Prop}(h:Mod A a b)(dd:∀(k:Nat) (c:Array B_) (t:F_),a.heap[k]? = some (.cells c t)->A k->t∈cH):eV cH a b:=⟨h.size,λk c t an aB=>h.obj (λhk=>aB (dd k c t an hk)) an⟩
def eV.wr{k:Nat}{c:Array B_}{t:F_}{f:Nat×Nat}(h:dw k a b)(an:a.heap[k]? = some (.cells c t f))(aB:t∈cH):eV cH a b:=eV.mod (h.mod (A:=λi=>i=k) rfl) λi iY h5 q2 e=>by
 subst e;rw[an] at q2;injection q2 with q2;injection q2 with _ e;exact e ▸ aB
def aK.iG{α:Type}{enc:α->C_ B_}{e:F_}{sz base:Nat}{v:B_}{xs:C_ α}(h:aK enc e sz base a v xs)(k:eV cH a b)(he:e∉cH):aK enc e sz base b v xs:=by
 refine⟨h.1,?_⟩;rcases h.2 with aw | ⟨g,cap,cur,rfl,ak,aG,rest⟩
 .exact .inl aw
 .exact .inr ⟨g,cap,cur,rfl,ak,k.cy _ _ _ aG he,rest⟩
end
end ba
namespace o
structure hr where
 V:List Int
 C:List Int
 da:List Int
 n:Nat
 L:List Int
 H:List Int
 Z:List Cell
def hr.of(V C da:C_ Int)(cs:C_ Cell):hr:=⟨V,C,da,cs.length,cs.map (·.aV),cs.map (·.U),cs⟩
def hr.rows(s:hr):Nat->C_ Int:=λi=>if i=0 then s.V else if i=1 then s.C else if i=2 then s.da else if i=3 then s.L else s.H
end o
namespace Go.Proofs.R
open Go Go.RowKit ba o
def uu:C_ F_:=[T.a,T.r,T.h,T.oS]
structure lq(w1:World)(bQ bs:Nat)(s:hr)(W:World):Prop where
 mod:Mod (λk=>k=bQ\/k=bs) w1 W
 ex:∃(vs:Nat->fk) (u:fk),W.heap[bQ]? = some (.cells #[cm (vs 0),cm (vs 1),cm (vs 2),.int .i64 s.n,cm (vs 3),cm (vs 4)] T.h)/\iW bX T.a 1 w1.heap.size W 5 vs s.rows /\
  W.heap[bs]? = some (.cells #[cm u] T.oS)/\aK o.Cell.slot T.r 4 w1.heap.size W (cm u) s.Z
def lq.move{w1:A_}{bQ bs:Nat}{s:hr}{W b4:A_}{A:Nat->Prop}(h:lq w1 bQ bs s W)(m:Mod A W b4)(dd:∀(k:Nat) (c:Array B_) (t:F_),W.heap[k]? = some (.cells c t)->t∈uu->¬A k)(hA:∀k,A k->w1.heap.size<=k):lq w1 bQ bs s b4:=by
 obtain⟨vs,u,h1,J,ab,aF⟩:=h.ex;refine⟨h.mod.comp m (λ_ _ a=>a) λk hk a=>absurd (hA k a) Aw,vs,u,m.obj (dd _ _ _ h1 BS) h1,J.mod m λi k U hk=>?_,m.obj (dd _ _ _ ab BS) ab,aF.mod m λk hk=>?_⟩
 .obtain⟨cur,an⟩:=(J.own i U).cy k hk;exact dd _ _ _ an BS
 .obtain⟨cur,an⟩:=aF.cy k hk;exact dd _ _ _ an BS
theorem lq.ext{w1:A_}{bQ bs:Nat}{s:hr}{W b4:A_}(h:lq w1 bQ bs s W)(e:Ext W b4):lq w1 bQ bs s b4:=h.move (A:=λ_=>False) e.mod (λ_ _ _ _ _ h=>h) λ_ h=>h.elim
structure oP(w1:World)(s:hr)(x:eb)(gg:Fr)(w0:World)(vs:Nat->fk)(a33:Addr)(d25 d26 d31 d32 d33:Bool)(S:Fr)(w:World):Prop where
 jw:∀t,t∉[25,26,31,32,33,34]->S t=gg t
 mod:Mod (λk=>(cm (vs 3)).ownBlock=some k\/(cm (vs 4)).ownBlock=some k) w0 w
 rows:∃v3 v4,iW bX T.a 1 w1.heap.size w 5 (fH (fH vs 3 v3) 4 v4) (fH (fH s.rows 3 (if d26 then s.L++[x.aV] else s.L)) 4 (if d32 then s.H++[x.U] else s.H))/\(d26=false->v3=vs 3)/\(d32=false->v4=vs 4) /\
  (d26=true->S 26=cm v3)/\(d32=true->S 32=cm v4)
 oD:d25=true->d26=false->∃b,S 25 = .slice (some ⟨b,0,none⟩) 1 1/\w0.heap.size<=b/\w.heap[b]? = some (.cells #[.int .i64 x.aV] T.a)
 HD:d31=true->d32=false->∃b,S 31 = .slice (some ⟨b,0,none⟩) 1 1/\w0.heap.size<=b/\w.heap[b]? = some (.cells #[.int .i64 x.U] T.a)
 HE:d33=true->S 33 = .pointer (some a33)
section
variable{w1 w0 w:World}{s:hr}{x:eb}{gg S:Fr}{vs:Nat->fk}{a33:Addr}{d25 d26 d31 d32 d33:Bool}{K:Value->World->Prop}
def oP.adz(h:oP w1 s x gg w0 vs a33 false false d31 d32 d33 S w)(w4:gg 24 = .I x.aV)(hk:∀v w',oP w1 s x gg w0 vs a33 true false d31 d32 d33 (put S (some 25) v) w'->K v w') :
  oJ Tryz.prog (.ku T.a 1 1 [.I 0] [(0,.tmp 24)]) S w K:=by
 have he:Ext w (w.alloc (.cells #[.I x.aV] T.a)):=(Ext.refl w).alloc _;refine Ao (FH (by rw[h.jw 24 BS,w4])) (hk _ _ ⟨λt aB=>?_,h.mod.trans he.mod,?_,λ_ _=>⟨_,by simp[gV,bE],h.mod.size,heap_alloc_new w _⟩,λa b=>?_,λa=>by rw[gV,bE,if_neg BS];exact h.HE a⟩)
 .rw[gV,bE,if_neg (by intro e;subst e;simp at aB)];exact h.jw t aB
 .obtain⟨v3,v4,h1,J,ab,aF,a7⟩:=h.rows;exact⟨v3,v4,h1.ext he,J,ab,λe=>(by cases e),λe=>by rw[gV,bE,if_neg BS];exact a7 e⟩
 .obtain⟨b,h1,J,ab⟩:=h.HD a b;exact⟨b,by rw[gV,bE,if_neg BS];exact h1,J,he.obj ab⟩
def oP.Tj(h:oP w1 s x gg w0 vs a33 d25 d26 false false d33 S w)(ak9:gg 30 = .I x.U)(hk:∀v w',oP w1 s x gg w0 vs a33 d25 d26 true false d33 (put S (some 31) v) w'->K v w') :
  oJ Tryz.prog (.ku T.a 1 1 [.I 0] [(0,.tmp 30)]) S w K:=by
 have he:Ext w (w.alloc (.cells #[.I x.U] T.a)):=(Ext.refl w).alloc _;refine Ao (FH (by rw[h.jw 30 BS,ak9])) (hk _ _ ⟨λt aB=>?_,h.mod.trans he.mod,?_,λa b=>?_,λ_ _=>⟨_,by simp[gV,bE],h.mod.size,heap_alloc_new w _⟩,λa=>by rw[gV,bE,if_neg BS];exact h.HE a⟩)
 .rw[gV,bE,if_neg (by intro e;subst e;simp at aB)];exact h.jw t aB
 .obtain⟨v3,v4,h1,J,ab,aF,a7⟩:=h.rows;exact⟨v3,v4,h1.ext he,J,ab,λe=>by rw[gV,bE,if_neg BS];exact aF e,λe=>by cases e⟩
 .obtain⟨b,h1,J,ab⟩:=h.oD a b;exact⟨b,by rw[gV,bE,if_neg BS];exact h1,J,he.obj ab⟩
def oP.O5(h:oP w1 s x gg w0 vs a33 true false d31 d32 d33 S w)(ak8:gg 22=cm (vs 3))(cu:∀i k,i<5->(cm (vs i)).ownBlock=some k->k<w0.heap.size)(ak:w1.heap.size<=w0.heap.size)(hm:s.L.length<=100000)
  (hk:∀v w',oP w1 s x gg w0 vs a33 true true d31 d32 d33 (put S (some 26) v) w'->K v w') :
  oJ Tryz.prog (.app T.b T.a 1 8 (.tmp 22) (.tmp 25)) S w K:=by
 obtain⟨b,bG,aD,aO⟩:=h.oD rfl rfl;obtain⟨v3,v4,h1,J,ab,aF,a7⟩:=h.rows;obtain rfl:=J rfl;show zT Tryz.prog T.b T.a 1 8 (S 22) (S 25) w K;rw[h.jw 22 BS,ak8,bG];have xk:=h.mod.size;refine iW.app (vs:=fH (fH vs 3 (vs 3)) 4 v4) (xs:=fH (fH s.rows 3 (if false=true then s.L++[x.aV] else s.L)) 4 (if d32=true then s.H++[x.U] else s.H)) (y:=x.aV) 3 BS h1 (λ_=>rfl) (hK aO) ht (by simp[fH];omega) (by simp[fH];unfold maxLen;omega) Aw λbU w' aS aG _=>?_;have aL:Mod (λk=>(cm (vs 3)).ownBlock=some k) w w':=Mod.grown aG λk hk=>hk;refine hk _ _ ⟨λt aB=>?_,h.mod.trans (aL.B1 λk hk=>.inl hk),?_,λ_ e=>(by cases e),λa b=>?_,λa=>by rw[gV,bE,if_neg BS];exact h.HE a⟩
 .rw[gV,bE,if_neg (by intro e;subst e;simp at aB)];exact h.jw t aB
 .refine⟨bU,v4,aS.congr (λi U=>?_) (λi U=>?_),λe=>(by cases e),ab,λ_=>by simp[gV,bE],λe=>by rw[gV,bE,if_neg BS];exact a7 e⟩
  .unfold fH;by_cases a:i=3
   .subst a;simp
   .simp[a]
  .unfold fH;by_cases a:i=3
   .subst a;simp
   .simp[a]
 .obtain⟨fV,h1,J,ab⟩:=h.HD a b;exact⟨fV,by rw[gV,bE,if_neg BS];exact h1,J,aL.obj (λe=>by have:=cu 3 fV BS e;omega) ab⟩
def oP.O6(h:oP w1 s x gg w0 vs a33 true true true false d33 S w)(Qi:gg 28=cm (vs 4))(ak:w1.heap.size<=w0.heap.size)(hm:s.H.length<=100000)
  (hk:∀v w',oP w1 s x gg w0 vs a33 true true true true d33 (put S (some 32) v) w'->K v w') :
  oJ Tryz.prog (.app T.b T.a 1 8 (.tmp 28) (.tmp 31)) S w K:=by
 obtain⟨b,bG,aD,aO⟩:=h.HD rfl rfl;obtain⟨v3,v4,h1,J,ab,aF,a7⟩:=h.rows;obtain rfl:=ab rfl;show zT Tryz.prog T.b T.a 1 8 (S 28) (S 31) w K;rw[h.jw 28 BS,Qi,bG];have xk:=h.mod.size;refine iW.app (vs:=fH (fH vs 3 v3) 4 (vs 4)) (xs:=fH (fH s.rows 3 (if true=true then s.L++[x.aV] else s.L)) 4 (if false=true then s.H++[x.U] else s.H)) (y:=x.U) 4 BS h1 (λ_=>rfl) (hK aO) ht (by simp[fH];omega) (by simp[fH];unfold maxLen;omega) Aw λbU w' aS aG _=>?_;have aL:Mod (λk=>(cm (vs 4)).ownBlock=some k) w w':=Mod.grown aG λk hk=>hk;refine hk _ _ ⟨λt aB=>?_,h.mod.trans (aL.B1 λk hk=>.inr hk),?_,λ_ e=>(by cases e),λ_ e=>(by cases e),λa=>by rw[gV,bE,if_neg BS];exact h.HE a⟩
 .rw[gV,bE,if_neg (by intro e;subst e;simp at aB)];exact h.jw t aB
 .refine⟨v3,bU,aS.congr (λi U=>?_) (λi U=>?_),λe=>(by cases e),λe=>(by cases e),λe=>by rw[gV,bE,if_neg BS];exact aF e,λ_=>by simp[gV,bE]⟩
  .unfold fH;by_cases a:i=4
   .subst a;simp
   .simp[a]
  .unfold fH;by_cases a:i=4
   .subst a;simp
   .simp[a]
def oP.Ux(h:oP w1 s x gg w0 vs a33 d25 d26 d31 d32 d33 S w):oP w1 s x gg w0 vs a33 d25 d26 d31 d32 true (cg S 33 (.pointer (some a33))) w:=by
 have q:∀t,t≠33->cg S 33 (.pointer (some a33)) t=S t:=λt aB=>by rw[bE,if_neg aB]
 refine⟨λt aB=>?_,h.mod,?_,λa b=>?_,λa b=>?_,λ_=>by simp[bE]⟩
 .rw[q t (by intro e;subst e;simp at aB)];exact h.jw t aB
 .obtain⟨v3,v4,h1,J,ab,aF,a7⟩:=h.rows;exact⟨v3,v4,h1,J,ab,λe=>by rw[q _ BS];exact aF e,λe=>by rw[q _ BS];exact a7 e⟩
 .obtain⟨fV,h1,J⟩:=h.oD a b;exact⟨fV,by rw[q _ BS];exact h1,J⟩
 .obtain⟨fV,h1,J⟩:=h.HD a b;exact⟨fV,by rw[q _ BS];exact h1,J⟩
end
end Go.Proofs.R
namespace Go.Proofs.R
open Go Go.RowKit ba o
def lp(b:Nat)(w w':A_):Prop := ∀j,j<3->w'.cell? (Addr.add ⟨b,0,none⟩ j)=w.cell? (Addr.add ⟨b,0,none⟩ j)
def lp.refl{b:Nat}{w:A_}:lp b w w:=λ_ _=>rfl
def lp.trans{b:Nat}{w w' bO:A_}(h:lp b w w')(k:lp b w' bO):lp b w bO:=λj ay=>(k j ay).trans (h j ay)
theorem lp.of{b:Nat}{w w':A_}{bz c1 c2:B_}{l s6:C_ B_}{t h5:F_}{f ve:Nat×Nat}(h:w.heap[b]? = some (.cells (bz :: c1 :: c2 :: l).toArray t f))(bq:w'.heap[b]? = some (.cells (bz :: c1 :: c2 :: s6).toArray h5 ve)):lp b w w':=λj ay=>by
 have:j=0\/j=1\/j=2:=Aw
 rcases this with rfl | rfl | rfl
 .rw[fP h (v:=bz) rfl,fP bq (v:=bz) rfl]
 .rw[fP h (v:=c1) rfl,fP bq (v:=c1) rfl]
 .rw[fP h (v:=c2) rfl,fP bq (v:=c2) rfl]
theorem lp.ext{b:Nat}{w w':A_}(he:Ext w w')(h:b<w.heap.size):lp b w w':=λj _=>by
 rw[add_eq];simp only[World.cell?,he.heap h]
def X0:eu:=(.take (fu 21 4 3) (.take (eJ 22 21) (.take (fu 23 0 11) (.take (eJ 24 23) (.take (fu 27 5 3) (.take (eJ 28 27) (.take (fu 29 1 11) (.take (eJ 30 29) (.alt (du 25 (.ku T.a 1 1 [(.int .i64 0)] [(0,(aQ 24))])) (.alt (du 26 (.app T.b T.a 1 8 (aQ 22) (aQ 25))) (.take (fu 33 4 3) (.alt (du 31 (.ku T.a 1 1 [(.int .i64 0)] [(0,(aQ 30))])) (.fi (du 32 (.app T.b T.a 1 8 (aQ 28) (aQ 31))) (.fi (ys 33 26) (.take (fu 34 5 3) (.fi (ys 34 32) .done .nil)) .nil) .nil) .nil)) (.alt (du 31 (.ku T.a 1 1 [(.int .i64 0)] [(0,(aQ 30))])) (.alt (du 26 (.app T.b T.a 1 8 (aQ 22) (aQ 25))) (.take (fu 33 4 3) (.fi (du 32 (.app T.b T.a 1 8 (aQ 28) (aQ 31))) (.fi (ys 33 26) (.take (fu 34 5 3) (.fi (ys 34 32) .done .nil)) .nil) .nil)) .nil) .nil)) (.alt (du 31 (.ku T.a 1 1 [(.int .i64 0)] [(0,(aQ 30))])) (.alt (du 25 (.ku T.a 1 1 [(.int .i64 0)] [(0,(aQ 24))])) (.alt (du 26 (.app T.b T.a 1 8 (aQ 22) (aQ 25))) (.take (fu 33 4 3) (.fi (du 32 (.app T.b T.a 1 8 (aQ 28) (aQ 31))) (.fi (ys 33 26) (.take (fu 34 5 3) (.fi (ys 34 32) .done .nil)) .nil) .nil)) .nil) .nil) .nil))))))))))
def nn{S:Fr}{n m:Nat}{v u:B_}(h:S m=u)(aw:m≠n):cg S n v m=u:=by rw[bE,if_neg aw];exact h
def ag0{w1 w:A_}{bQ bs bV:Nat}{s:hr}{x:eb}{S:Fr}{cO:Fr->A_->Prop}(cv:bQ≠bs)(hA:bQ<w1.heap.size/\bs<w1.heap.size)(aj:lq w1 bQ bs s w)(ab:S 3 = .pointer (some ⟨bQ,0,none⟩))(C1:S 11 = .pointer (some ⟨bV,0,none⟩))
  (an:w.heap[bV]? = some (.cells x.enc.toArray T.i))(hm:s.L.length<=100000)(RF:s.H.length<=100000)
  (hk:∀aZ w',lq w1 bQ bs ⟨s.V,s.C,s.da,s.n,s.L++[x.aV],s.H++[x.U],s.Z⟩ w'->eV uu w w'->lp bQ w w'->cO aZ w'):∃C:A_->Prop,C w/\cY Tryz.prog C X0 S w cO:=by
 obtain⟨vs,u,g1,g2,g3,g4⟩:=aj.ex;have D0:=g2.not g1 BS;have pg:=g2.not an BS;refine⟨Mod (λk=>(cm (vs 3)).ownBlock=some k\/(cm (vs 4)).ownBlock=some k) w,Mod.refl _ _,?_⟩;have rx:∀w',Mod (λk=>(cm (vs 3)).ownBlock=some k\/(cm (vs 4)).ownBlock=some k) w w'->w'.heap[bQ]? = some (.cells #[cm (vs 0),cm (vs 1),cm (vs 2),.I s.n,cm (vs 3),cm (vs 4)] T.h) :=
  λw' m=>m.obj (λh=>h.elim (D0 3 BS) (D0 4 BS)) g1
 have eN:∀w',Mod (λk=>(cm (vs 3)).ownBlock=some k\/(cm (vs 4)).ownBlock=some k) w w'->w'.heap[bV]? = some (.cells x.enc.toArray T.i) :=
  λw' m=>m.obj (λh=>h.elim (pg 3 BS) (pg 4 BS)) an
 have dt:w1.heap.size<=w.heap.size:=aj.mod.size;unfold X0;refine cY.ju ab ?_;refine cY.ld (v:=cm (vs 3)) (by simp[bE];rfl) (λw' m=>fP (rx w' m) rfl) ?_;refine cY.ju (a:=⟨bV,0,none⟩) (by simp[bE,C1]) ?_;refine cY.ld (v:=.I x.aV) (by simp[bE];rfl) (λw' m=>fP (eN w' m) rfl) ?_;refine cY.ju (a:=⟨bQ,0,none⟩) (by simp[bE,ab]) ?_;refine cY.ld (v:=cm (vs 4)) (by simp[bE];rfl) (λw' m=>fP (rx w' m) rfl) ?_;refine cY.ju (a:=⟨bV,0,none⟩) (by simp[bE,C1]) ?_;refine cY.ld (v:=.I x.U) (by simp[bE];rfl) (λw' m=>fP (eN w' m) rfl) ?_;generalize rY:cg _ 30 _=rN;have aO:rN 3 = .pointer (some ⟨bQ,0,none⟩):=by subst rY;simp[bE,ab]
 have PQ:rN 22=cm (vs 3):=by subst rY;simp[bE]
 have Jv:rN 24 = .I x.aV:=by subst rY;simp[bE]
 have PR:rN 28=cm (vs 4):=by subst rY;simp[bE]
 have PS:rN 30 = .I x.U:=by subst rY;simp[bE]
 have dI:∀i,vs i=fH (fH vs 3 (vs 3)) 4 (vs 4) i:=λi=>by
  unfold fH;by_cases a:i=4
  .subst a;simp
  .by_cases b:i=3
   .subst b;simp
   .simp[a,b]
 have ec:∀i,s.rows i=fH (fH s.rows 3 (if false=true then s.L++[x.aV] else s.L)) 4 (if false=true then s.H++[x.U] else s.H) i:=λi=>by
  unfold fH;by_cases a:i=4
  .subst a;simp[hr.rows]
  .by_cases b:i=3
   .subst b;simp[hr.rows]
   .simp[a,b]
 have t0:oP w1 s x rN w vs (Addr.add ⟨bQ,0,none⟩ 4) false false false false false rN w :=
  ⟨λ_ _=>rfl,Mod.refl _ _,⟨vs 3,vs 4,g2.congr (λi U=>dI i) (λi U=>ec i),
   λ_=>rfl,λ_=>rfl,λe=>(by cases e),λe=>(by cases e)⟩,λe=>(by cases e),λe=>(by cases e),λe=>(by cases e)⟩
 have cu:∀i k,i<5->(cm (vs i)).ownBlock=some k->k<w.heap.size:=λi k U he=>(g2.lt i k U he).2;have fin:∀S az,oP w1 s x rN w vs (Addr.add ⟨bQ,0,none⟩ 4) true true true true true S az->cY Tryz.prog (Mod (λk=>(cm (vs 3)).ownBlock=some k\/(cm (vs 4)).ownBlock=some k) w) (.fi (ys 33 26) (.take (fu 34 5 3) (.fi (ys 34 32) .done .nil)) .nil) S az cO:=by
  intro S az t;obtain⟨v3,v4,c7,_,_,gW,sf⟩:=t.rows;have ah:=rx az t.mod;refine cY.vh ?_;show wz (S 33) (S 26) az _;rw[t.HE rfl,gW rfl];refine Ut λnq=>_H ah CC rfl λaM fF a8=>?_;show cY _ _ _ S _ _;refine cY.ju (a:=⟨bQ,0,none⟩) (by rw[t.jw 3 BS,aO]) ?_;refine cY.vh ?_;show wz (cg S 34 _ 34) (cg S 34 _ 32) aM _;rw[show cg S 34 (.pointer (some (Addr.add ⟨bQ,0,none⟩ 5))) 34 = .pointer (some (Addr.add ⟨bQ,0,none⟩ 5)) from by simp[bE],nn (sf rfl) BS];refine Ut λnq=>_H a8 CC rfl λaR dT bn=>?_;have hw:=fF.trans dT;have jD:=c7.not ah BS;obtain⟨us,axf⟩:∃us,us=cm u:=⟨_,rfl⟩;refine hk _ _ ⟨?_,fH (fH vs 3 v3) 4 v4,u,?_,(c7.mod (hw.mod (A:=λk=>k=bQ) rfl) λi k U hk e=>jD i U (by rw[<-e];exact hk)).congr (λ_ _=>rfl) (λi U=>?_),?_,?_⟩ ?_ ?_
  .refine(aj.mod.comp t.mod (B:=λk=>k=bQ\/k=bs) (λ_ _ a=>a) λi U a=>?_).trans (hw.mod (A:=λk=>k=bQ\/k=bs) (.inl rfl));rcases a with a | a
   .have:=(g2.lt 3 i BS a).1;omega
   .have:=(g2.lt 4 i BS a).1;omega
  .exact bn
  .have:i=0\/i=1\/i=2\/i=3\/i=4:=Aw
   rcases this with rfl | rfl | rfl | rfl | rfl<;>simp[fH,hr.rows]
  .exact hw.obj (t.mod.obj (λh=>h.elim (g2.not g3 BS 3 BS) (g2.not g3 BS 4 BS)) g3) (Ne.symm cv)
  .refine(g4.mod t.mod λk hk h=>?_).mod (hw.mod (A:=λk=>k=bQ) rfl) λk hk e=>?_
   .obtain⟨cur,hU⟩:=g4.cy k hk;exact h.elim (g2.not hU BS 3 BS) (g2.not hU BS 4 BS)
   .obtain⟨cur,hU⟩:=g4.cy k hk;subst e;rw[g1] at hU;injection hU with hU;injection hU with _ e;exact absurd e BS
  .refine(eV.mod t.mod λk c h5 an a=>?_).trans (eV.wr hw ah BS);rcases a with a | a
   .obtain⟨cur,hU⟩:=(g2.own 3 BS).cy k a;rw[an] at hU;injection hU with hU;injection hU with _ e;rw[e];decide
   .obtain⟨cur,hU⟩:=(g2.own 4 BS).cy k a;rw[an] at hU;injection hU with hU;injection hU with _ e;rw[e];decide
  .exact lp.of g1 bn
 clear hk;refine⟨lV.e (t0.adz Jv λv2 az t2=>⟨t2.mod,?_,?_,trivial⟩),lV.e (t0.Tj PS λv2 az t2=>⟨t2.mod,?_⟩),trivial⟩
 .refine lV.e (t2.O5 PQ cu dt hm λv3 aM t3=>⟨t3.mod,?_⟩);refine cY.ju (a:=⟨bQ,0,none⟩) (by rw[t3.jw 3 BS,aO]) ?_;refine cY.Ai (lV.e (t3.Ux.Tj PS λv4 aR t4=>⟨t4.mod,?_⟩));exact cY.vh (nE.e (t4.O6 PR dt RF λv5 bg t5=>fin _ _ t5))
 .refine lV.e (t2.Tj PS λv3 aM t3=>⟨t3.mod,?_⟩);refine cY.Ai (lV.e (t3.O5 PQ cu dt hm λv4 aR t4=>⟨t4.mod,?_⟩));refine cY.ju (a:=⟨bQ,0,none⟩) (by rw[t4.jw 3 BS,aO]) ?_;exact cY.vh (nE.e (t4.Ux.O6 PR dt RF λv5 bg t5=>fin _ _ t5))
 .refine cY.Ai (lV.e (t2.adz Jv λv3 aM t3=>⟨t3.mod,?_⟩));refine cY.Ai (lV.e (t3.O5 PQ cu dt hm λv4 aR t4=>⟨t4.mod,?_⟩));refine cY.ju (a:=⟨bQ,0,none⟩) (by rw[t4.jw 3 BS,aO]) ?_;exact cY.vh (nE.e (t4.Ux.O6 PR dt RF λv5 bg t5=>fin _ _ t5))
end Go.Proofs.R
namespace Go.Proofs.R
open Go Go.RowKit ba o
section
variable{w1:World}{bQ bs:Nat}{s:hr}{W b4:World}
def atK{vs:Nat->fk}{u:fk}{qO lU sA:A_}{y:o.Cell}{bU:B_}(cv:bQ≠bs)(hm:Mod (λk=>k=bQ\/k=bs) w1 W)(g1:W.heap[bQ]? = some (.cells #[cm (vs 0),cm (vs 1),cm (vs 2),.I s.n,cm (vs 3),cm (vs 4)] T.h))(g2:iW bX T.a 1 w1.heap.size W 5 vs s.rows)
  (g3:W.heap[bs]? = some (.cells #[cm u] T.oS))(g4:aK o.Cell.slot T.r 4 w1.heap.size W (cm u) s.Z)(he:Ext W qO)(aG:qO.grownBy lU (cm u).ownBlock)(aS:aK o.Cell.slot T.r 4 w1.heap.size lU bU (s.Z++[y]))
  (hw:dw bs lU sA)(an:sA.heap[bs]? = some (.cells #[bU] T.oS)):lq w1 bQ bs ⟨s.V,s.C,s.da,s.n,s.L,s.H,s.Z++[y]⟩ sA/\eV uu W sA/\lp bQ W sA:=by
 obtain⟨aN,cap,rfl,_⟩:=aS.form;have zy:Mod (λk=>(cm u).ownBlock=some k) qO lU:=Mod.grown aG λk hk=>hk;have mD:∀{k:Nat} {c:Array B_} {t:F_},W.heap[k]? = some (.cells c t)->t≠T.r->¬(cm u).ownBlock=some k:=λ{k c t} hk aB e=>by
  obtain⟨cur,h⟩:=g4.cy k e;rw[hk] at h;injection h with h;injection h with _ h;exact aB h
 have m6:∀{k:Nat} {c:Array B_} {t:F_},W.heap[k]? = some (.cells c t)->t≠T.r->lU.heap[k]? = some (.cells c t):=λhk aB=>zy.obj (mD hk aB) (he.obj hk);have uy:Mod (λk=>k=bs) lU sA:=hw.mod rfl;refine⟨⟨?_,vs,(aN,_,cap),uy.obj cv (m6 g1 BS),?_,an,aS.mod uy λk hk e=>?_⟩,?_,lp.of g1 (uy.obj cv (m6 g1 BS))⟩
 .have h1:Mod (λk=>k=bQ\/k=bs) w1 qO:=hm.comp (A':=λ_=>False) he.mod (λ_ _ a=>a) λ_ _ a=>a.elim;have J:Mod (λk=>k=bQ\/k=bs) w1 lU:=h1.comp zy (λ_ _ a=>a) λi U a=>by have:=(g4.lt i a).1;omega
  exact J.trans (hw.mod (.inr rfl))
 .refine((g2.ext he).mod zy λi k U hk e=>?_).mod uy λi k U hk e=>?_
  .obtain⟨cur,h⟩:=(g2.own i U).cy k hk;exact mD h BS e
  .subst e;obtain⟨cur,h⟩:=(g2.own i U).cy k hk;rw[g3] at h;injection h with h;injection h with _ h;exact absurd h BS
 .subst e;obtain⟨cur,h⟩:=aS.cy k hk;rw[m6 g3 BS] at h;injection h with h;injection h with _ h;exact absurd h BS
 .refine((eV.ext he).trans (eV.mod zy λk c t an a=>?_)).trans (eV.wr hw (m6 g3 BS) BS);obtain⟨cur,h⟩:=(g4.ext he).cy k a;rw[an] at h;injection h with h;injection h with _ h;rw[h];decide
def aiM{vs:Nat->fk}{u:fk}{n:Int}(cv:bQ≠bs)(hm:Mod (λk=>k=bQ\/k=bs) w1 W)(g1:W.heap[bQ]? = some (.cells #[cm (vs 0),cm (vs 1),cm (vs 2),.I s.n,cm (vs 3),cm (vs 4)] T.h))(g2:iW bX T.a 1 w1.heap.size W 5 vs s.rows)
  (g3:W.heap[bs]? = some (.cells #[cm u] T.oS))(g4:aK o.Cell.slot T.r 4 w1.heap.size W (cm u) s.Z)(hw:dw bQ W b4)(aw:n=((s.n+1:Nat):Int))
  (an:b4.heap[bQ]? = some (.cells #[cm (vs 0),cm (vs 1),cm (vs 2),.I n,cm (vs 3),cm (vs 4)] T.h)):lq w1 bQ bs ⟨s.V,s.C,s.da,s.n+1,s.L,s.H,s.Z⟩ b4/\eV uu W b4/\lp bQ W b4:=by
 subst aw;have uy:Mod (λk=>k=bQ) W b4:=hw.mod rfl;refine⟨⟨hm.trans (hw.mod (.inl rfl)),vs,u,an,g2.mod uy λi k U hk e=>?_,uy.obj (Ne.symm cv) g3,g4.mod uy λk hk e=>?_⟩,eV.wr hw g1 BS,lp.of g1 an⟩
 .subst e;exact g2.not g1 BS i U hk
 .subst e;obtain⟨cur,h⟩:=g4.cy k hk;rw[g1] at h;injection h with h;injection h with _ h;exact absurd h BS
end
def apk(so jm:Int)(v:B_)(l:C_ eb)(qN qH qJ:C_ Int)(cs:C_ o.Cell)(base:Nat)(w1:A_)(bQ bs:Nat)(w:A_)(cv:bQ≠bs)(hA:bQ<w1.heap.size/\bs<w1.heap.size)(aj:lq w1 bQ bs (hr.of qN qH qJ cs) w)(aH:aK eb.enc T.i 3 base w v l)
  (hm:cs.length+l.length<=100000) :
  Ei F.v #[.I so,.I jm,v,.pointer (some ⟨bQ,0,none⟩),.pointer (some ⟨bs,0,none⟩)] w λv w'=>v = .I cs.length/\lq w1 bQ bs (hr.of qN qH qJ (cs++fQ so jm l 0)) w'/\eV uu w w'/\lp bQ w w':=by
 obtain⟨aN,cap,rfl,_⟩:=aH.form;obtain⟨auW,Er,g1,g2,g3,g4⟩:=aj.ex;refine bk E.v ?_;refine aa ?_;refine L_ 16 l.length [0,1,2,3,4,9,14,15] (λ_:Unit=>[]) () (λk _ w'=>lq w1 bQ bs (hr.of qN qH qJ (cs++fQ so jm (l.take k) 0)) w'/\eV uu w w'/\lp bQ w w') a6 a6 ⟨by simpa[fQ] using aj,eV.refl,lp.refl⟩ ?_;clear g1 g2 g3 g4 aj;rintro k _ S az hk ⟨aj,pc,hV⟩;have jT:bm 3 (Flat eb.enc) az (.slice aN l.length cap) l:=aK.e4 (enc:=eb.enc) (λ_=>rfl) (aH.iG pc BS);refine aa ?_;apply I_<;>intro g1
 .have a1:k<l.length:=Aw
  obtain⟨a,rfl⟩:=jT.addr;have QJ:(fQ so jm (l.take k) 0).length=k:=by rw[vO,H5];omega
  have xm:=yA l[k];refine dV ?_;simp -dsimp only[cK];refine dV ?_;simp -dsimp only[cK];refine dV ?_;intro wn bV eX fc eI;refine dV ?_;intro aM fF a8;have ag:=fF.ext fc eX;have gT:=aj.ext ag;clear fF fc eI;refine dV ?_;refine R_ [0,1,2,3,4,9,10,11,14,15,16] (λ_:Unit=>[]) (λ_ w'=>lq w1 bQ bs ⟨qN,qH,qJ,(cs++fQ so jm (l.take k) 0).length,(cs++fQ so jm (l.take k) 0).map (·.aV)++[l[k].aV],(cs++fQ so jm (l.take k) 0).map (·.U)++[l[k].U],cs++fQ so jm (l.take k) 0⟩ w'/\eV uu aM w'/\lp bQ aM w') ?_ ?_
  .refine aa ?_;intro aR aq;refine _o (ag0 cv hA (gT.ext aq) (by simp[bE]) (by simp[bE]) (aq.obj a8) (by simp[hr.of,QJ];omega) (by simp[hr.of,QJ];omega) λaZ w' h k bb=>?_);refine aa ?_;exact⟨(),trivial,h,(eV.ext aq).trans k,(lp.ext aq (by have:=gT.mod.size;omega)).trans bb⟩
  have amM:lp bQ az aM:=lp.ext ag (by have:=aj.mod.size;omega);clear gT;rintro _ S aR ⟨kW,acV,Rc⟩;obtain⟨vs,⟨Er,Es,wb⟩,g1,g2,g3,g4⟩:=kW.ex;have bn:=acV.cy _ _ _ a8 BS;refine aa ?_;intro bg dJ jc ar bI;replace bI:bg.heap[dJ]? = some (.cells (o.Cell.slot ⟨so,jm,k,l[k].aV,l[k].U,l[k].kind⟩).toArray T.r):=bI;have dC:=g4.ext ar;have fT:=kW.mod.size;have z2:=ar.size;have aE:(cs++fQ so jm (l.take k) 0).length=cs.length+k:=by rw[HO,QJ]
  refine S_ (y:=⟨so,jm,k,l[k].aV,l[k].U,l[k].kind⟩) dC bI rfl (λ_=>rfl) atL (by simp only[aE];omega) (by unfold maxLen;simp only[aE];omega) Aw λaN n c bp dk ie=>?_;have e8:=dC.box ie (ar.obj g3) BS;refine aa ?_;intro bH dz b3;obtain⟨kB,vN,amO⟩:=atK cv kW.mod g1 g2 g3 g4 ar ie dk dz b3;dsimp only at kB;obtain⟨uN,kZ,c7,dE,ed,gW⟩:=kB.ex;clear g1 g2 g3 g4 kW dC dk ie e8 b3 bI;have arW:=c7;dsimp only[cm] at c7;refine aa ?_;intro cB ji cF;obtain⟨DI,apb,amP⟩:=aiM cv kB.mod arW dE ed gW ji (by dsimp only;omega) cF;refine aa ?_;refine⟨a1,aJ,(),trivial,?_,((((pc.trans (eV.ext ag)).trans acV).trans vN).trans apb),((((hV.trans amM).trans Rc).trans amO).trans amP)⟩;rw[apl a1,<-NC];have e:hr.of qN qH qJ ((cs++fQ so jm (l.take k) 0)++[⟨so,jm,k,l[k].aV,l[k].U,l[k].kind⟩])=⟨qN,qH,qJ,(cs++fQ so jm (l.take k) 0).length+1,(cs++fQ so jm (l.take k) 0).map (·.aV)++[l[k].aV],(cs++fQ so jm (l.take k) 0).map (·.U)++[l[k].U],cs++fQ so jm (l.take k) 0++[⟨so,jm,k,l[k].aV,l[k].U,l[k].kind⟩]⟩:=by
   simp[hr.of,List.map_append,Nat.add_assoc]
  rw[e];exact DI
 .refine aa ?_;rw[MT Aw] at aj;exact⟨aJ,aj,pc,hV⟩
end Go.Proofs.R
namespace ba
open Go Go.RowKit
section
variable{P:Program}{C:World->Prop}{S:Fr}{w:World}{K:Fr->World->Prop}
def cY.lJ{d m:Nat}{r:eu}{v:B_}(ah:S m=v)(h:cY P C r (cg S d v) w K):cY P C (.take ⟨some d,none,.p (.lJ (.tmp m))⟩ r) S w K:=by subst ah;exact h
theorem lV.c{i:rE}{d:Nat}{k:Fr->A_->Prop}(h:ss P i S w λv w'=>C w'/\k (put S (some d) v) w'):lV P C ⟨some d,none,.c i⟩ S w k:=h
end
end ba
namespace o
def hr.add(s:hr)(off:Nat)(y:Int):hr:=if off=0 then { s with V:=s.V++[y] } else if off=1 then { s with C:=s.C++[y] } else { s with da:=s.da++[y] }
end o
namespace Go.Proofs.R
open Go Go.RowKit ba o
def Yu(n x y off:Nat)(so:Int):eu :=
 (.take (fu n off 4) (.take (eJ (n+1) n) (.take (aU (n+2) 6) (.take (aU (n+3) x) (.take (aU (n+4) y)
 (.alt (iv (n+5) (.val (aQ (n+2)) [(cE so),(aQ (n+3)),(aQ (n+4))]))
 (.alt (du (n+6) (.ku T.a 1 1 [(.int .i64 0)] [(0,(aQ (n+5)))]))
 (.fi (du (n+7) (.app T.b T.a 1 8 (aQ (n+1)) (aQ (n+6))))
 (.take (fu (n+8) off 4) (.fi (ys (n+8) (n+7)) .done .nil)) .nil) .nil) .nil))))))
def Po{w1 w:A_}{bQ bs n x y off base:Nat}{so jm:Int}{nQ:B_}{l:C_ eb}{qN qH qJ:C_ Int}{cs:C_ o.Cell}{S:Fr}{cO:Fr->A_->Prop}(RR:off<3)(aw:20<=n)(ah:x<20)(bF:y<20)
  (cv:bQ≠bs)(hA:bQ<w1.heap.size/\bs<w1.heap.size)(aF:S 4 = .pointer (some ⟨bQ,0,none⟩))(bJ:S 6 = .func (.func F.v) #[] #[.pointer (some ⟨bQ,0,none⟩),.pointer (some ⟨bs,0,none⟩)])(vG:S x = .I jm)(SF:S y=nQ)
  (aj:lq w1 bQ bs (hr.of qN qH qJ cs) w)(aH:aK eb.enc T.i 3 base w nQ l)(hm:cs.length+l.length<=100000)(aT:qN.length<=100000/\qH.length<=100000/\qJ.length<=100000)
  (hk:∀aZ w',(∀t,t<n\/n+8<t->aZ t=S t)->lq w1 bQ bs ((hr.of qN qH qJ (cs++fQ so jm l 0)).add off cs.length) w'->eV uu w w'->cO aZ w'):∃C:A_->Prop,C w/\cY Tryz.prog C (Yu n x y off so) S w cO:=by
 obtain⟨vs,u,g1,g2,g3,g4⟩:=aj.ex;have bz:w.cell? (Addr.add ⟨bQ,0,none⟩ off)=some (cm (vs off)):=by
  have:off=0\/off=1\/off=2:=Aw
  rcases this with rfl | rfl | rfl<;>exact fP g1 rfl
 refine⟨λw'=>w'.cell? (Addr.add ⟨bQ,0,none⟩ off)=some (cm (vs off)),bz,?_⟩;unfold Yu;refine cY.ju aF ?_;refine cY.ld (v:=cm (vs off)) (by simp[bE]) (λw' m=>m) ?_;refine cY.lJ (nn (nn bJ Aw) Aw) ?_;refine cY.lJ (nn (nn (nn vG Aw) Aw) Aw) ?_;refine cY.lJ (nn (nn (nn (nn SF Aw) Aw) Aw) Aw) ?_;generalize o0:cg _ (n+4) _=sx;have CU:∀t,t<n\/n+8<t->sx t=S t:=by
  subst o0;intro t aB;simp only[bE];rw[if_neg Aw,if_neg Aw,if_neg Aw,if_neg Aw,if_neg Aw]
 have bo:sx 4 = .pointer (some ⟨bQ,0,none⟩):=by subst o0;exact nn (nn (nn (nn (nn aF Aw) Aw) Aw) Aw) Aw
 have f1:sx (n+1)=cm (vs off):=by subst o0;simp[bE]
 have f2:sx (n+2) = .func (.func F.v) #[] #[.pointer (some ⟨bQ,0,none⟩),.pointer (some ⟨bs,0,none⟩)]:=by subst o0;simp[bE]
 have f3:sx (n+3) = .I jm:=by subst o0;simp[bE]
 have f4:sx (n+4)=nQ:=by subst o0;simp[bE]
 refine cY.Ai (lV.c ?_);show B7 _ (sx (n+2)) [.I so,sx (n+3),sx (n+4)] w _;rw[f2,f3,f4];refine Pn (first:=[]) (cap:=[.pointer (some ⟨bQ,0,none⟩),.pointer (some ⟨bs,0,none⟩)]) Cx (apk so jm nQ l qN qH qJ cs base w1 bQ bs w cv hA aj aH hm) ?_;rintro _ az ⟨rfl,eo,pc,hV⟩;refine⟨(hV off RR).trans bz,?_⟩;refine cY.Ai (lV.e ?_);have he:Ext az (az.alloc (.cells #[.I cs.length] T.a)):=(Ext.refl az).alloc _;rw[PU];refine Ao (cs:=[.I cs.length]) (FH (by simp[gV,bE])) ?_;refine⟨he.cell ((hV off RR).trans bz),?_⟩;have a8:=heap_alloc_new az (.cells #[.I cs.length] T.a);have bw:=he.cell ((hV off RR).trans bz);have gT:=eo.ext he;have acU:eV uu w (az.alloc (.cells #[.I cs.length] T.a)):=pc.trans (eV.ext he);show cY _ _ _ _ (az.alloc (.cells #[.I cs.length] T.a)) _;generalize az.alloc (.cells #[.I cs.length] T.a)=aM at a8 bw gT acU;clear he g1 g2 g3 g4;obtain⟨uN,kZ,g1,g2,g3,g4⟩:=gT.ex;have ajD:cm (vs off)=cm (uN off):=by
  have:off=0\/off=1\/off=2:=Aw
  rcases this with rfl | rfl | rfl
  .rw[fP g1 (v:=cm (uN 0)) rfl] at bw;exact(Option.some.inj bw).symm
  .rw[fP g1 (v:=cm (uN 1)) rfl] at bw;exact(Option.some.inj bw).symm
  .rw[fP g1 (v:=cm (uN 2)) rfl] at bw;exact(Option.some.inj bw).symm
 refine cY.vh (nE.e ?_);rw[Fw];unfold aQ;rw[dc,dc];rw[show ∀a b,put (put sx (some (n+5)) a) (some (n+6)) b (n+1)=cm (uN off) from λa b=>by rw[gV,gV,<-ajD];exact nn (nn f1 Aw) Aw,
  show ∀a b,put (put sx (some (n+5)) a) (some (n+6)) b (n+6)=b from λa b=>by rw[gV,gV,bE,if_pos rfl]]
 have fT:=gT.mod.size;have hlen:((hr.of qN qH qJ (cs++fQ so jm l 0)).rows off).length<=100000:=by
  have:off=0\/off=1\/off=2:=Aw
  rcases this with rfl | rfl | rfl
  .exact aT.1
  .exact aT.2.1
  .exact aT.2.2
 refine iW.app (y:=(cs.length:Int)) off Aw g2 (λ_=>rfl) (hK a8) ht Aw (by unfold maxLen;omega) Aw λbU aR dj mY _=>?_;have m4:Mod (λk=>(cm (uN off)).ownBlock=some k) aM aR:=Mod.grown mY λk hk=>hk;have mD:∀{k:Nat} {c:Array B_} {t:F_},aM.heap[k]? = some (.cells c t)->t≠T.a->aR.heap[k]? = some (.cells c t):=λhk aB=>m4.obj (g2.not hk aB off Aw) hk;refine cY.ju (a:=⟨bQ,0,none⟩) (by rw[gV,gV,gV];exact nn (nn (nn bo Aw) Aw) Aw) ?_;refine cY.vh ?_;show wz (cg _ (n+8) _ (n+8)) (cg (put _ (some (n+7)) _) (n+8) _ (n+7)) aR _;rw[show ∀(S:Fr) v,cg S (n+8) v (n+8)=v from λS v=>by rw[bE,if_pos rfl],show ∀(S:Fr) a b,cg (put S (some (n+7)) a) (n+8) b (n+7)=a from λS a b=>by rw[gV,bE,if_neg Aw,bE,if_pos rfl]];have cQ:=mD g1 BS;refine Ut λnq=>_H cQ (by simp;omega) rfl λbg e3 bI=>?_;have uy:Mod (λk=>k=bQ) aR bg:=e3.mod rfl;refine hk _ _ (λt aB=>?_) ⟨?_,fH uN off bU,kZ,?_,(dj.mod uy λi k U av e=>?_).congr (λ_ _=>rfl) (λi U=>?_),?_,?_⟩ ?_
 .simp only[gV,aea,bE];rw[if_neg Aw,if_neg Aw,if_neg Aw,if_neg Aw];exact CU t aB
 .refine(gT.mod.comp m4 (B:=λk=>k=bQ\/k=bs) (λ_ _ a=>a) λi U a=>?_).trans (e3.mod (A:=λk=>k=bQ\/k=bs) (.inl rfl))
  have:=(g2.lt off i Aw a).1;omega
 .rw[bI]
  have:off=0\/off=1\/off=2:=Aw
  rcases this with rfl | rfl | rfl<;>rfl
 .subst e;exact dj.not cQ BS i U av
 .have a:off=0\/off=1\/off=2:=Aw
  have b:i=0\/i=1\/i=2\/i=3\/i=4:=Aw
  rcases a with rfl | rfl | rfl<;>rcases b with rfl | rfl | rfl | rfl | rfl<;>rfl
 .exact e3.obj (mD g3 BS) (Ne.symm cv)
 .have wY:((hr.of qN qH qJ (cs++fQ so jm l 0)).add off cs.length).Z=(hr.of qN qH qJ (cs++fQ so jm l 0)).Z:=by unfold hr.add; (repeat' split)<;>rfl
  rw[wY];refine(g4.mod m4 λk hk h=>?_).mod uy λk hk e=>?_
  .obtain⟨cur,hU⟩:=g4.cy k hk;exact g2.not hU BS off Aw h
  .obtain⟨cur,hU⟩:=g4.cy k hk;subst e;rw[g1] at hU;injection hU with hU;injection hU with _ e;exact absurd e BS
 .refine(acU.trans (eV.mod m4 λk c h5 an a=>?_)).trans (eV.wr e3 cQ BS);obtain⟨cur,hU⟩:=(g2.own off Aw).cy k a;rw[an] at hU;injection hU with hU;injection hU with _ e;rw[e];decide
end Go.Proofs.R
namespace ba
open Go Go.RowKit
def aK.sF{α:Type}{enc:α->C_ B_}{e:F_}{sz base b n:Nat}{w:A_}{cs:C_ B_}(xs:C_ α)(h:w.heap[b]? = some (.cells cs.toArray e))(ak:base<=b)(gx:cs=xs.flatMap enc)(dt:∀x,(enc x).length=sz)(aw:n=xs.length)(hm:xs.length<=maxLen):aK enc e sz base w (.slice (some ⟨b,0,none⟩) n n) xs:=by
 subst aw;have aE:cs.length=xs.length*sz:=by rw[gx,yR dt]
 exact⟨by rw[yR dt],.inr ⟨b,xs.length,cs.toArray,rfl,ak,h,E1 _,hm,by simpa using aE,by simp only;rw[<-aE,AE8,gx]⟩⟩
def AD1{P:D_}{cO:B_->A_->Prop}{α:Type}{enc:α->C_ B_}{e:F_}{sz base:Nat}{w:A_}{v:B_}{xs:C_ α}{ty:F_}{hh b:Nat}{y:α}{cs:C_ B_}{t}(aj:aK enc e sz base w v xs)(an:w.heap[b]? = some (.cells cs.toArray e))(gx:cs=enc y)(dt:∀x,(enc x).length=sz)(h1:∀y,∀u∈enc y,u.oneCell'=true)
  (ak:(xs.length+1)*hh<=140737488355328)(lC:xs.length+1<=maxLen)(kR:base<=w.heap.size)
  (hk:∀aN n c w',aK enc e sz base w' (.slice aN n c) (xs++[y])->w.grownBy w' v.ownBlock->((Value.slice aN n c).ownBlock=v.ownBlock\/(Value.slice aN n c).ownBlock=some w.heap.size)->cO (.slice aN n c) w'):mH P ty e sz hh v (.slice (some ⟨b,0,none⟩) 1 1) w cO t:=by
 refine _U (ys:=[y]) aj dt (by subst gx;simpa using hK an) rfl h1 ak lC kR λbU w' aS aG jP=>?_;obtain⟨aN,cap,rfl,_⟩:=aS.form;exact hk _ _ _ _ aS aG jP
end ba
namespace o
open Go Go.RowKit ba
structure jq(w:World)(cs:List Value)(x:ym):Prop where
 ex:∃v0 v1 v2 v3 v4,cs=[v0,v1,v2,.int .i64 x.cells,v3,v4]/\bm 1 (Flat bX) w v0 x.vars/\bm 1 (Flat bX) w v1 x.aA/\bm 1 (Flat bX) w v2 x.insts/\bm 1 (Flat bX) w v3 x.aV/\bm 1 (Flat bX) w v4 x.U
theorem jq.ext{w w':A_}{cs:C_ B_}{x:ym}(he:Ext w w')(h:jq w cs x):jq w' cs x :=
 let ⟨v0,v1,v2,v3,v4,e,ad,h1,J,ab,aF⟩:=h.ex
 ⟨v0,v1,v2,v3,v4,e,ad.ext Flat.ext he,h1.ext Flat.ext he,J.ext Flat.ext he,ab.ext Flat.ext he,aF.ext Flat.ext he⟩
def jq.form{w:A_}{cs:C_ B_}{x:ym}(h:jq w cs x):∃bZ bz bN c1 bT c2 bW bw b1 bD,cs=[.slice bZ x.vars.length bz,.slice bN x.aA.length c1,.slice bT x.insts.length c2,.I x.cells,.slice bW x.aV.length bw,.slice b1 x.U.length bD] /\
  bm 1 (Flat bX) w (.slice bZ x.vars.length bz) x.vars/\bm 1 (Flat bX) w (.slice bN x.aA.length c1) x.aA/\bm 1 (Flat bX) w (.slice bT x.insts.length c2) x.insts/\bm 1 (Flat bX) w (.slice bW x.aV.length bw) x.aV/\bm 1 (Flat bX) w (.slice b1 x.U.length bD) x.U:=by
 obtain⟨v0,v1,v2,v3,v4,rfl,ad,h1,J,ab,aF⟩:=h.ex;obtain⟨bZ,bz,rfl,_⟩:=ad.form;obtain⟨bN,c1,rfl,_⟩:=h1.form;obtain⟨bT,c2,rfl,_⟩:=J.form;obtain⟨bW,bw,rfl,_⟩:=ab.form;obtain⟨b1,bD,rfl,_⟩:=aF.form;exact⟨bZ,bz,bN,c1,bT,c2,bW,bw,b1,bD,rfl,ad,h1,J,ab,aF⟩
def NP{v:Var}{s:C_ Scalar}(h:Cs v s)(aj:s.length<=2):0<=v.scalar/\v.scalar<=2:=by
 rcases h.ll with e | e
 .omega
 .unfold size at e;split at e
  .rename_i x ah
   have:=(List.getElem?_eq_some_iff.1 ah).1
   split at e<;>omega
  .exact absurd rfl e
def Pu{v:ea}{s:C_ Scalar}(h:EF v s)(aj:s.length<=2):0<=v.scalar/\v.scalar<=2:=by
 rcases h.ll with e | e
 .omega
 .unfold size at e;split at e
  .rename_i x ah
   have:=(List.getElem?_eq_some_iff.1 ah).1
   split at e<;>omega
  .exact absurd rfl e
def NL(m:Model)(h:eE m)(k:Nat):total ((c6 m).take k)<=64:=by
 have h1:=K9 h;have J:=h.cells;have ab:=Hd m;have e:total (c6 m)=total ((c6 m).take k)+total ((c6 m).drop k):=by rw[<-HY,AH6]
 omega
def UH(m:Model)(h:eE m)(k:Nat):total (c6 m)+total ((dM m).take k)<=64:=by
 have h1:=K9 h;have J:=h.cells;have ab:=Hd m;have e:total (dM m)=total ((dM m).take k)+total ((dM m).drop k):=by rw[<-HY,AH6]
 omega
def afF(m:Model)(h:eE m)(k:Nat):total (c6 m)+total (dM m)+total ((fG m).take k)<=64:=by
 have h1:=K9 h;have J:=h.cells;have ab:=Hd m;have e:total (fG m)=total ((fG m).take k)+total ((fG m).drop k):=by rw[<-HY,AH6]
 omega
end o
namespace Go.Proofs.R
open Go Go.RowKit ba o
def apu(cs:C_ B_)(m:o.Model)(w:A_)(h:dh w cs m)(aG:m.cr)(aL:eE m) :
  Ei F.cs #[.agg cs.toArray] w λv w'=>(∃xs u,v = .tuple #[.agg xs.toArray,u]/\er w (λw=>jq w xs (o.layout m)) w'/\er w (λw=>bm 4 (Flat o.Cell.slot) w u (cp m)) w')/\Ext w w':=by
 obtain⟨bZ,bz,bN,c1,bT,c2,bW,bw,b1,bD,rfl,ad,h1,J,ab,aF,eB,dD,dO,dU,eg⟩:=h.form;have gj:=aL.gj;refine bk E.cs ?_;refine aa ?_;intro NW bx cN r2 al;have c7:=cq al;refine aa ?_;intro NX bP c8 q8 ao;have dE:=cq ao;replace al:=q8.obj al;refine aa ?_;intro zS bQ o1 om jQ;have ayc:=cq jQ;replace al:=om.obj al;replace ao:=om.obj ao;refine aa ?_;intro w1 bs F8 q9 gx;have ayb:=cq gx;replace al:=q9.obj al;replace ao:=q9.obj ao;replace jQ:=q9.obj jQ;have jY:=r2.size;have jK:=q8.size;have sn:=om.size;have Ez:=q9.size;have bG:=((r2.trans q8).trans om).trans q9;clear r2 q8 om q9;have cv:bQ≠bs:=Aw
 have hA:bQ<w1.heap.size/\bs<w1.heap.size:=⟨Aw,Aw⟩;have kH:lq w1 bQ bs (hr.of [] [] [] []) w1:=⟨Mod.refl _ _,λ_=>(none,0,0),(none,0,0),jQ,⟨λi U=>by
   have e:(hr.of [] [] [] []).rows i=[]:=by unfold hr.rows; (repeat' split)<;>rfl
   rw[e];exact aK.nil _ _ _ _ _,λi j k _ _ _ e=>by cases e⟩,gx,aK.nil _ _ _ _ _⟩
 have pa:∀{s W},lq w1 bQ bs s W->W.heap[bx]? = w1.heap[bx]? := λh=>h.mod.block _ Aw Aw;have hb:∀{s W},lq w1 bQ bs s W->W.heap[bP]? = w1.heap[bP]? := λh=>h.mod.block _ Aw Aw;have de:∀{s W},lq w1 bQ bs s W->Ext w W:=λh=>h.mod.ext bG λi U e=>Aw
 rw[al] at pa;rw[ao] at hb;refine aa ?_;refine L_ 24 m.vars.length [1,2,4,5,6,22,23] (λ_:Unit=>[]) () (λk _ W=>lq w1 bQ bs (hr.of (il 0 ((c6 m).take k)) [] [] (o.cellsOf 1 ((c6 m).take k) 0)) W) a6 a6 (by simpa[il,o.cellsOf] using kH) ?_;clear kH jQ gx al ao;rintro k _ S az hk aj;have al:=pa aj;have df:=de aj;refine aa ?_;apply I_<;>intro g1
 .have a1:k<m.vars.length:=Aw
  obtain⟨a,rfl⟩:=h1.addr;have dK:=((h1.at k a1).cells).ext df;have c9:=aL.var _ (E2 a1);have mA:=NP c9 gj.1;refine aa ?_;intro wn j6 mv fc eI;refine aa ?_;intro aM fF a8;have ag:Ext az aM:=fF.ext fc mv;replace a8:aM.heap[j6]? = some (.cells m.vars[k].enc.toArray T.m):=a8;replace al:=ag.obj al;clear fF fc eI dK;have fw:=df.trans ag;refine aa ?_;refine J_ (CE m.vars[k] _ m.scalars aM (ad.ext fw)) ?_;rintro _ aR ⟨rfl,aq⟩;have dN:=sH m.vars[k] m.scalars;have dX:=fw.trans aq;have sT:=aq.obj al;have amf:=aq.obj a8;refine aa ?_;refine L_ 33 (o.cells m.vars[k] m.scalars).toNat [1,2,4,5,6,7,8,22,23,24,32] (λv:fk=>[(9,.slice v.1 v.2.1 v.2.2)]) (none,0,0) (λj v W=>Ext aR W/\aK eb.enc T.i 3 aR.heap.size W (.slice v.1 v.2.1 v.2.2) (List.replicate j (e7 m.vars[k].scalar m.vars[k].aV m.vars[k].U m.scalars))) a6 a6 ⟨Ext.refl _,aK.nil _ _ _ _ _⟩ ?_;clear al a8;rintro j v S bg ay ⟨ar,dC⟩;have al:=ar.obj sT;have a8:=ar.obj amf;refine aa ?_;apply I_<;>intro g2
  .have eT:j<(o.cells m.vars[k] m.scalars).toNat:=Aw
   refine aa ?_;refine J_ (Ta m.vars[k] _ m.scalars bg (ad.ext (dX.trans ar)) (by unfold dZ;omega)) ?_;rintro _ bp ⟨rfl,aC⟩;have xm:=yA (e7 m.vars[k].scalar m.vars[k].aV m.vars[k].U m.scalars);refine aa ?_;intro bH ahj awp bc b3;replace b3:bH.heap[ahj]? = some (.cells (e7 m.vars[k].scalar m.vars[k].aV m.vars[k].U m.scalars).enc.toArray T.i):=b3;have dY:=dC.ext (aC.trans bc);have Kr:=(ar.trans aC).trans bc;have aE:(List.replicate j (e7 m.vars[k].scalar m.vars[k].aV m.vars[k].U m.scalars)).length=j:=AF3;refine S_ (y:=e7 m.vars[k].scalar m.vars[k].aV m.vars[k].U m.scalars) dY b3 rfl (λ_=>rfl) yA (by rw[aE];omega) (by rw[aE];unfold maxLen;omega) Kr.size λaN n c cB gy ua=>?_;refine aa ?_;exact⟨eT,aJ,(aN,n,c),a6,dY.jL Kr ua (E1 _),by rw[List.replicate_succ'];exact gy⟩
  .have nH:j=(o.cells m.vars[k] m.scalars).toNat:=Aw
   have rf:=aj.ext ((ag.trans aq).trans ar);replace dC:aK eb.enc T.i 3 aR.heap.size bg (.slice v.1 v.2.1 v.2.2) (BZ m.scalars m.vars[k]):=by rw[nH] at dC;exact dC
   have eI:=lx 1 ((c6 m).take k) 0;have uo:=NL m aL k;refine aa ?_;intro bp aC;refine _o (Po (n:=43) (x:=7) (y:=9) (off:=0) (so:=1) BS BS BS BS cv hA (by simp[bE]) (by simp[bE]) (by simp[bE];rfl) (by simp[bE]) (rf.ext aC) (dC.ext aC) (by rw[eI,Ev];omega) ⟨by rw[uM,H5];omega,CC,CC⟩ λaZ bH ax ct xD=>?_);have w4:aZ 24 = .I k:=by rw[ax 24 BS];simp[bE]
   refine aa ?_;rw[w4];refine aa ?_;refine⟨a1,aJ,(),trivial,?_⟩;have aH:k<(c6 m).length:=by simpa[c6] using a1
   have e:(c6 m)[k]=BZ m.scalars m.vars[k]:=by simp[c6]
   rw[MR aH,e,NF,As];have aD:(0+((c6 m).take k).length:Nat)=k:=by rw[H5];omega
   rw[aD,S6,<-eI];exact ct
 have my:m.vars.length<=k:=Aw
 rw[MT (by simpa[c6] using my)] at aj;have UI:=NL m aL m.vars.length;rw[MT (by simp[c6])] at UI;refine aa ?_;refine L_ 56 m.aA.length [1,2,4,5,6,54,55] (λ_:Unit=>[]) () (λk _ W=>lq w1 bQ bs (hr.of (il 0 (c6 m)) (il (o.total (c6 m)) ((dM m).take k)) [] (o.cellsOf 1 (c6 m) 0++o.cellsOf 2 ((dM m).take k) 0)) W) a6 a6 (by simpa[il,o.cellsOf] using aj) ?_;clear aj al df;rintro k _ S az hk aj;have al:=pa aj;have df:=de aj;refine aa ?_;apply I_<;>intro g2
 .have a1:k<m.aA.length:=Aw
  obtain⟨a,rfl⟩:=J.addr;have dK:=((J.at k a1).cells).ext df;have c9:=aL.chan _ (E2 a1);have mA:=Pu c9 gj.1;have hT:=c9.cap;refine aa ?_;intro wn mm xa fc eI;refine aa ?_;intro aM fF a8;have ag:Ext az aM:=fF.ext fc xa;replace a8:aM.heap[mm]? = some (.cells m.aA[k].enc.toArray T.u):=a8;replace al:=ag.obj al;clear fF fc eI dK;have QO:=al;have amg:=a8;have fw:=df.trans ag;refine aa ?_;intro aR IW alZ aq Gc;replace Gc:aR.heap[IW]? = some (.cells ([(⟨0,m.aA[k].cap,0⟩:eb)].flatMap eb.enc).toArray T.i):=Gc;have dj:aK eb.enc T.i 3 aM.heap.size aR (.slice (some ⟨IW,0,none⟩) 1 1) [(⟨0,m.aA[k].cap,0⟩:eb)]:=aK.sF _ Gc alZ rfl (λ_=>rfl) rfl (by simp[maxLen]);replace al:=aq.obj al;replace a8:=aq.obj a8;have dX:=fw.trans aq;have aaB:=Gc;clear Gc;refine aa ?_;refine J_ (Ta ⟨⟨#[]⟩,m.aA[k].scalar,0,min m.aA[k].aV 0,max m.aA[k].U 0,0⟩ _ m.scalars aR (ad.ext dX) (by unfold dZ;simp only;omega)) ?_;rintro _ bg ⟨rfl,ar⟩;have xm:=yA (e7 m.aA[k].scalar (min m.aA[k].aV 0) (max m.aA[k].U 0) m.scalars);refine aa ?_;intro bp b13 F5 aC gw;replace gw:bp.heap[b13]? = some (.cells (ly m.scalars m.aA[k]).enc.toArray T.i):=gw;replace al:=(ar.trans aC).obj al;replace a8:=(ar.trans aC).obj a8;have dk:=dj.ext (ar.trans aC);have amU:=(aq.trans ar).trans aC;clear dj;refine aa ?_;have awj:IW<b13:=by have:=cq aaB;have:=ar.size;omega
  refine L_ 79 m.aA[k].cap.toNat [1,2,4,5,6,10,11,13,54,55,56,78] (λv:fk=>[(12,.slice v.1 v.2.1 v.2.2)]) (some ⟨IW,0,none⟩,1,1) (λj v W=>Ext aM W/\W.heap[b13]? = bp.heap[b13]? /\ aK eb.enc T.i 3 aM.heap.size W (.slice v.1 v.2.1 v.2.2) (⟨0,m.aA[k].cap,0⟩ :: List.replicate j (ly m.scalars m.aA[k]))/\(Value.slice v.1 v.2.1 v.2.2).ownBlock≠some b13) a6 a6 ⟨amU,rfl,dk,by simp[Value.ownBlock];omega⟩ ?_;rw[gw];have avi:=cq gw;clear al a8 gw dk aaB;rintro j v S bH ay ⟨Ku,gw,dY,ey⟩;have al:=Ku.obj QO;have a8:=Ku.obj amg;refine aa ?_;apply I_<;>intro g3
  .have eT:j<m.aA[k].cap.toNat:=Aw
   have xm:=yA (ly m.scalars m.aA[k]);refine aa ?_;intro cB ahm aws bt QU;replace QU:cB.heap[ahm]? = some (.cells (ly m.scalars m.aA[k]).enc.toArray T.i):=QU;have gy:=dY.ext bt;have aE:((⟨0,m.aA[k].cap,0⟩:eb) :: List.replicate j (ly m.scalars m.aA[k])).length=j+1:=CC
   have aa0:=Ku.trans bt;have z138:=cq (bt.obj gw);refine AD1 (y:=ly m.scalars m.aA[k]) gy QU rfl (λ_=>rfl) yA (by rw[aE];omega) (by rw[aE];unfold maxLen;omega) aa0.size λaN n c cD fy ub jP=>?_;have mz:cD.heap[b13]? = _:=(Mod.grown (A:=λi=>(Value.slice v.1 v.2.1 v.2.2).ownBlock=some i) ub λk hk=>hk).obj ey (bt.obj gw);refine aa ?_;refine⟨eT,aJ,(aN,n,c),a6,gy.jL aa0 ub (E1 _),mz,by rw[List.replicate_succ'];exact fy,λe=>?_⟩;rcases jP with a | a
   .exact ey (a.symm.trans e)
   .rw[a] at e;injection e with e;omega
  .have nH:j=m.aA[k].cap.toNat:=Aw
   have kB:=aj.ext (ag.trans Ku);replace dY:aK eb.enc T.i 3 aM.heap.size bH (.slice v.1 v.2.1 v.2.2) (n3 m.scalars m.aA[k]):=by rw[nH] at dY;exact dY
   have eI:=lx 1 (c6 m) 0;have Q5:=lx 2 ((dM m).take k) 0;have hlen:(o.cellsOf 1 (c6 m) 0++o.cellsOf 2 ((dM m).take k) 0).length=o.total (c6 m)+o.total ((dM m).take k):=by rw[HO,eI,Q5]
   have uo:=UH m aL k;refine aa ?_;intro cB bt;refine _o (Po (n:=86) (x:=10) (y:=12) (off:=1) (so:=2) BS BS BS BS cv hA (by simp[bE]) (by simp[bE]) (by simp[bE];rfl) (by simp[bE]) (kB.ext bt) (dY.ext bt) (by rw[hlen,wN];omega) ⟨by rw[uM];simp[c6];omega,by rw[uM,H5];omega,CC⟩ λaZ bH ax ct xD=>?_);have w4:aZ 56 = .I k:=by rw[ax 56 BS];simp[bE]
   refine aa ?_;rw[w4];refine aa ?_;refine⟨a1,aJ,(),trivial,?_⟩;have aH:k<(dM m).length:=by simpa[dM] using a1
   have e:(dM m)[k]=n3 m.scalars m.aA[k]:=by simp[dM]
   rw[MR aH,e,NF,As];have aD:(0+((dM m).take k).length:Nat)=k:=by rw[H5];omega
   rw[aD,<-NC,<-hlen];exact ct
 have r5:m.aA.length<=k:=Aw
 rw[MT (by simpa[dM] using r5)] at aj;have auk:=UH m aL m.aA.length;rw[MT (by simp[dM])] at auk;refine aa ?_;refine J_ (xA _ m az (h.ext df) aG) ?_;rintro bK rC ⟨dP,vp⟩;obtain⟨ca,ci,rfl,_⟩:=dP.form;have GU:=aj.ext vp;have kz:(o.insts m).length<=30:=by have:=vI m;have:=aL.procs;omega
 refine aa ?_;refine L_ 99 (o.insts m).length [1,2,4,5,6,97,98] (λ_:Unit=>[]) () (λk _ W=>lq w1 bQ bs (hr.of (il 0 (c6 m)) (il (o.total (c6 m)) (dM m)) (il (o.total (c6 m)+o.total (dM m)) ((fG m).take k)) (o.cellsOf 1 (c6 m) 0++o.cellsOf 2 (dM m) 0++o.cellsOf 3 ((fG m).take k) 0)) W/\eV uu rC W) a6 a6 ⟨by simpa[il,o.cellsOf] using GU,eV.refl⟩ ?_;clear aj GU al df;rintro k _ S az hk ⟨aj,pc⟩;have al:=pa aj;have df:=de aj;have eh:ix az (.slice ca (o.insts m).length ci) (o.insts m):=aK.e4 (enc:=cP.enc) (λ_=>rfl) (dP.iG pc BS);refine aa ?_;apply I_<;>intro g3
 .have a1:k<(o.insts m).length:=Aw
  obtain⟨gu,rfl⟩:=eh.addr;have nI:=rl _ (E2 a1);obtain⟨p,au,ho,q1⟩:=Br nI;have c9:=aL.proc _ (E2 au);have abu:=c9.cn;have qk:=c9.gj.1;refine aa ?_;intro wn Al F6 fc eI;refine aa ?_;intro aM fF a8;have ag:Ext az aM:=fF.ext fc F6;replace a8:aM.heap[Al]? = some (.cells #[.I p,.I (o.insts m)[k].elem] T.d):=by rw[<-ho];exact a8
  replace al:=ag.obj al;clear fF fc eI eh;have fw:=df.trans ag;obtain⟨a,rfl⟩:=ab.addr;obtain⟨kC,bY,dQ,c5,eU,eA⟩:=ab.at p au;obtain⟨ei,eZ,rfl,fa⟩:=eU.form;obtain⟨pj,oU,rfl,lc⟩:=eA.form;replace c5:=c5.ext fw;refine aa ?_;intro aR Pb aas aq o3;replace o3:aR.heap[Pb]? = some (.cells (m.procs[p].enc (.slice ei m.procs[p].vars.length eZ) (.slice pj m.procs[p].c4.length oU)).toArray T.l):=o3;unfold dv.enc at o3;have dX:=fw.trans aq;replace al:=aq.obj al;clear c5;refine aa ?_;intro bg Pa alX ar Kg;replace Kg:bg.heap[Pa]? = some (.cells ([(⟨0,m.procs[p].cn - 1,0⟩:eb)].flatMap eb.enc).toArray T.i):=Kg;have dC:aK eb.enc T.i 3 aR.heap.size bg (.slice (some ⟨Pa,0,none⟩) 1 1) [(⟨0,m.procs[p].cn - 1,0⟩:eb)]:=aK.sF _ Kg alX rfl (λ_=>rfl) rfl (by simp[maxLen]);have QO:=al;have al8:=o3;replace o3:=ar.obj o3;clear Kg al;refine aa ?_;refine L_ 118 m.procs[p].vars.length [1,2,4,5,6,14,16,97,98,99,116,117] (λv:fk=>[(17,.slice v.1 v.2.1 v.2.2)]) (some ⟨Pa,0,none⟩,1,1) (λj v W=>Ext aR W/\aK eb.enc T.i 3 aR.heap.size W (.slice v.1 v.2.1 v.2.2) (⟨0,m.procs[p].cn - 1,0⟩ :: (m.procs[p].vars.take j).map λv=>e7 v.scalar v.aV v.U m.scalars)) a6 a6 ⟨ar,by simpa using dC⟩ ?_;clear o3 dC;rintro j v S bp ay ⟨Dp,dk⟩;have al:=Dp.obj QO;have o3:=Dp.obj al8;have hg:=dX.trans Dp;refine aa ?_;apply I_<;>intro g4
  .have eT:j<m.procs[p].vars.length:=Aw
   obtain⟨rQ,rfl⟩:=eU.addr;have dK:=((eU.at j eT).cells).ext hg;have Sp:=c9.var _ (E2 eT);have mA:=NP Sp gj.1;refine aa ?_;intro bH ahi awl bc F9;replace F9:bH.heap[ahi]? = some (.cells m.procs[p].vars[j].enc.toArray T.m):=F9;replace al:=bc.obj al;have gd:=hg.trans bc;clear dK;refine aa ?_;refine J_ (Ta m.procs[p].vars[j] _ m.scalars bH (ad.ext gd) (by unfold dZ;omega)) ?_;rintro _ cB ⟨rfl,bt⟩;have xm:=yA (e7 m.procs[p].vars[j].scalar m.procs[p].vars[j].aV m.procs[p].vars[j].U m.scalars);refine aa ?_;intro cD ahh awi b0 QP;replace QP:cD.heap[ahh]? = some (.cells (e7 m.procs[p].vars[j].scalar m.procs[p].vars[j].aV m.procs[p].vars[j].U m.scalars).enc.toArray T.i):=QP;have fy:=dk.ext ((bc.trans bt).trans b0);have aa1:=((Dp.trans bc).trans bt).trans b0;have aE:((⟨0,m.procs[p].cn - 1,0⟩:eb) :: (m.procs[p].vars.take j).map λv=>e7 v.scalar v.aV v.U m.scalars).length=j+1:=by simp;omega
   refine S_ (y:=e7 m.procs[p].vars[j].scalar m.procs[p].vars[j].aV m.procs[p].vars[j].U m.scalars) fy QP rfl (λ_=>rfl) yA (by rw[aE];omega) (by rw[aE];unfold maxLen;omega) aa1.size λaN n c et ou mX=>?_;refine aa ?_;exact⟨eT,aJ,(aN,n,c),a6,fy.jL aa1 mX (E1 _),by rw[MR eT,AF1];exact ou⟩
  .have DH:=aj.ext ((ag.trans aq).trans Dp);have SZ:eV uu az bp:=eV.ext ((ag.trans aq).trans Dp);replace dk:aK eb.enc T.i 3 aR.heap.size bp (.slice v.1 v.2.1 v.2.2) (mB m (o.insts m)[k]):=by rw[MT Aw] at dk;rw[q1];exact dk
   have eI:=lx 1 (c6 m) 0;have Q5:=lx 2 (dM m) 0;have amH:=lx 3 ((fG m).take k) 0;have hlen:(o.cellsOf 1 (c6 m) 0++o.cellsOf 2 (dM m) 0++o.cellsOf 3 ((fG m).take k) 0).length=o.total (c6 m)+o.total (dM m)+o.total ((fG m).take k):=by rw[HO,HO,eI,Q5,amH]
   have uo:=afF m aL k;have Kf:(mB m (o.insts m)[k]).length<=10:=by rw[q1,BI];omega
   refine aa ?_;intro cB bt;refine _o (Po (n:=130) (x:=14) (y:=17) (off:=2) (so:=3) BS BS BS BS cv hA (by simp[bE]) (by simp[bE]) (by simp[bE];rfl) (by simp[bE]) (DH.ext bt) (dk.ext bt) (by rw[hlen];omega) ⟨by rw[uM];simp[c6];omega,by rw[uM];simp[dM];omega,by rw[uM,H5];omega⟩ λaZ bH ax ct xD=>?_);have w4:aZ 99 = .I k:=by rw[ax 99 BS];simp[bE]
   refine aa ?_;rw[w4];refine aa ?_;refine⟨a1,aJ,(),trivial,?_,((pc.trans SZ).trans (eV.ext bt)).trans xD⟩;have aH:k<(fG m).length:=by simpa[fG] using a1
   have e:(fG m)[k]=mB m (o.insts m)[k]:=by simp[fG]
   rw[MR aH,e,NF,As];have aD:(0+((fG m).take k).length:Nat)=k:=by rw[H5];omega
   rw[aD,<-NC,<-hlen];exact ct
 have l1:(o.insts m).length<=k:=Aw
 rw[MT (by simpa[fG] using l1)] at aj;have ao:=hb aj;obtain⟨vs,u,g1,g2,g3,g4⟩:=aj.ex;have fin:∀{aM W},Ext az aM->dw bP aM W->(∃xs kZ,Value.tuple #[.agg #[cm (vs 0),cm (vs 1),cm (vs 2),.I (cp m).length,cm (vs 3),cm (vs 4)],cm u] = .tuple #[.agg xs.toArray,kZ]/\er w (λw=>jq w xs (o.layout m)) W/\er w (λw=>bm 4 (Flat o.Cell.slot) w kZ (cp m)) W)/\Ext w W:=by
  intro aM W he hw;have c8:=he.obj ao;have akJ:=(g2.ext he).mod (hw.mod (A:=λi=>i=bP) rfl) λi k U hk e=>by subst e;exact(g2.ext he).not c8 BS i U hk
  have akK:=(g4.ext he).mod (hw.mod (A:=λi=>i=bP) rfl) λk hk e=>by
   subst e;obtain⟨cur,hU⟩:=(g4.ext he).cy k hk;rw[c8] at hU;injection hU with hU;injection hU with _ e;exact absurd e BS
  have bB:w.heap.size<=w1.heap.size:=Aw
  have uA:=λ(i:Nat) (U:i<5)=>aK.new (e:=T.a) (enc:=bX) (λ_=>rfl) (aK.low bB (akJ.own i U));refine⟨⟨[_,_,_,_,_,_],_,rfl,λe9 uw=>⟨⟨_,_,_,_,_,rfl,uA 0 BS e9 uw,uA 1 BS e9 uw,uA 2 BS e9 uw,uA 3 BS e9 uw,uA 4 BS e9 uw⟩⟩,aK.new (e:=T.r) (enc:=o.Cell.slot) (λ_=>rfl) (aK.low bB akK)⟩,hw.ext (df.trans he) Aw⟩
 replace g1:az.heap[bQ]? = some (.cells #[cm (vs 0),cm (vs 1),cm (vs 2),.I (cp m).length,cm (vs 3),cm (vs 4)] T.h):=g1;refine aa ?_;intro aM ag;replace g1:=ag.obj g1;replace g3:=ag.obj g3;replace ao:=ag.obj ao;dsimp only[cm] at g1 g3;refine aa ?_;refine⟨?_,?_⟩
 .refine aa ?_;refine⟨?_,?_⟩
  .refine aa ?_;intro aR dT bn;refine aa ?_;exact fin ag dT
  .refine aa ?_;intro aR dT bn;replace g3:=dT.obj g3 Aw;refine aa ?_;exact fin ag dT
 .refine aa ?_;intro aR dT bn;refine aa ?_;exact fin ag dT
end Go.Proofs.R
namespace o
def zw{m:Model}(h:(check m).cJ=0):lyz m=layout m:=by unfold lyz;rw[if_pos h]
def ac5{m:Model}(h:¬(check m).cJ=0):lyz m=Tk:=by unfold lyz;rw[if_neg h]
def iH{m:Model}(h:eE m):(cp m).length<=64:=by
 have:=K9 h
 have:=h.cells
 omega
open Go Go.RowKit ba in
def jq.zero(w:A_):jq w [.slice none 0 0,.slice none 0 0,.slice none 0 0,.I 0,.slice none 0 0,.slice none 0 0] Tk:=⟨_,_,_,_,_,rfl,bm.nil,bm.nil,bm.nil,bm.nil,bm.nil⟩
end o
namespace Go.Proofs.R
open Go Go.RowKit ba o
def He(cs:C_ B_)(m:o.Model)(w:A_)(h:dh w cs m)(aG:m.cr)(aS:gQ w) :
  Ei F.m #[.agg cs.toArray] w λv w'=>(∃xs,v = .agg xs.toArray/\er w (λw=>jq w xs (lyz m)) w')/\Ext w w':=by
 have aL:=h;obtain⟨bZ,bz,bN,c1,bT,c2,bW,bw,b1,bD,rfl,_⟩:=h.form;refine bk E.m ?_;refine aa ?_;intro w1 bx cN af al;refine aa ?_;intro az bP c8 ai ao;have fT:=cq al;replace al:=ai.obj al;have z2:=cq ao;have z3:=af.size;have aD:=af.trans ai;refine aa ?_;refine J_ (apY _ m az (aL.ext aD) aG (aS.ext aD)) ?_;rintro _ aM ⟨rfl,ag⟩;replace al:=ag.obj al;replace ao:=ag.obj ao;have aO:=aD.trans ag;by_cases hk:(o.check m).cJ=0
 .rw[decide_eq_true hk];refine aa ?_;refine J_ (apu _ m aM (aL.ext aO) aG (gU hk)) ?_;rintro _ aR ⟨⟨xs,u,rfl,ck,aj⟩,aq⟩;obtain⟨k1,d0,ir,d1,jn,d2,nt,d3,mG,d4,rfl,_⟩:=ck.here.form;obtain⟨rr,mT,rfl,_⟩:=aj.here.form;replace ao:=aq.obj ao;have bo:=aO.trans aq;have z4:=ag.size;refine aa ?_;intro bg bV eX ar a8;replace ao:=ar.obj ao;refine aa ?_;intro bp gJ bS;have aw:=(ck.ext ar aq.size).wr gJ Aw;refine aa ?_;exact⟨⟨_,rfl,by rw[zw hk];exact aw.low aO.size⟩,gJ.ext (bo.trans ar) Aw⟩
 .rw[decide_eq_false hk];refine aa ?_;intro aR dT bn;refine aa ?_;exact⟨⟨[_,_,_,_,_,_],rfl,by rw[ac5 hk];exact gY.of λ_=>jq.zero _⟩,dT.ext aO Aw⟩
end Go.Proofs.R
namespace o
def aip{c:ea}{s:C_ Scalar}(h:EF c s)(ad:c.scalar≠0):∃i,∃U:i<s.length,c.scalar=(i:Int)+1/\s[i].size=size c.scalar s:=by
 have e:=h.ll.resolve_left ad;unfold size at e ⊢;split at e
 .rename_i x ah;obtain⟨cu,vG⟩:=List.getElem?_eq_some_iff.1 ah;split at e
  .rename_i h1;refine⟨(c.scalar - 1).toNat,cu,Aw,?_⟩;rw[vG,if_pos h1]
  .exact absurd rfl e
 .exact absurd rfl e
theorem S3(so jm:Int)(l:C_ eb)(b:eb):fQ so jm (l++[b]) 0=fQ so jm l 0++[⟨so,jm,(l.length:Nat),b.aV,b.U,b.kind⟩]:=by
 rw[S2,S6]
end o
namespace Go.Proofs.R
open Go Go.RowKit ba o
def acX{α:Type}{enc:α->C_ B_}{e:F_}{sz base:Nat}{w w':A_}{v:B_}{xs:C_ α}(aS:aK enc e sz base w v xs)(aG:w.grownBy w' v.ownBlock):eV [e] w w':=eV.mod (A:=λk=>v.ownBlock=some k) (Mod.grown aG λk hk=>hk) λk c t an a=>by
 obtain⟨cur,h⟩:=aS.cy k a;rw[an] at h;injection h with h;injection h with _ h;rw[h];simp
def asF(cs:C_ B_)(m:o.Model)(w:A_)(h:dh w cs m)(aG:m.cr)(aL:eE m) :
  Ei F.L4 #[.agg cs.toArray] w λv w'=>aK o.Cell.enc T.ur 6 w.heap.size w' v (cp m)/\Ext w w':=by
 obtain⟨bZ,bz,bN,c1,bT,c2,bW,bw,b1,bD,rfl,ad,h1,J,ab,aF,eB,dD,dO,dU,eg⟩:=h.form;have gj:=aL.gj;refine bk E.L4 ?_;refine aa ?_;intro w1 bx cN af al;refine aa ?_;refine L_ 4 m.vars.length [1] (λv:fk=>[(3,.slice v.1 v.2.1 v.2.2)]) (none,0,0) (λk v W=>Ext w1 W/\aK o.Cell.enc T.ur 6 w1.heap.size W (.slice v.1 v.2.1 v.2.2) (o.cellsOf 1 ((c6 m).take k) 0)) a6 a6 ⟨Ext.refl _,aK.nil _ _ _ _ _⟩ ?_;have sT:=al;clear al;rintro k v S az hk ⟨ai,dy⟩;have al:=ai.obj sT;have aD:=af.trans ai;refine aa ?_;apply I_<;>intro g1
 .have a1:k<m.vars.length:=Aw
  obtain⟨a,rfl⟩:=h1.addr;have dK:=((h1.at k a1).cells).ext aD;have c9:=aL.var _ (E2 a1);have mA:=NP c9 gj.1;have aH:k<(c6 m).length:=by simpa[c6] using a1
  have uo:=NL m aL (k+1);rw[H0 aH] at uo;have yO:(c6 m)[k]=BZ m.scalars m.vars[k]:=by simp[c6]
  rw[yO,Ev] at uo;have dN:=sH m.vars[k] m.scalars;refine aa ?_;refine P_ (.tuple #[.I (o.bounds m.vars[k] m.scalars).1,.I (o.bounds m.vars[k] m.scalars).2]) (λw' e=>TX m.vars[k] _ m.scalars w' (ad.ext (aD.trans e))) ?_;refine aa ?_;intro aM ag;have ez:=dy.ext ag;have a8:=ag.obj al;have fW:=ai.trans ag;clear al dK;refine aa ?_;refine L_ 7 (o.cells m.vars[k] m.scalars).toNat [1,4,5,6] (λv:fk=>[(3,.slice v.1 v.2.1 v.2.2)]) v (λj v W=>Ext w1 W/\aK o.Cell.enc T.ur 6 w1.heap.size W (.slice v.1 v.2.1 v.2.2) (o.cellsOf 1 ((c6 m).take k) 0++fQ 1 k (List.replicate j (e7 m.vars[k].scalar m.vars[k].aV m.vars[k].U m.scalars)) 0)) a6 a6 ⟨fW,by simpa[fQ] using ez⟩ ?_;clear a8 ez dy ai ag fW;rintro j v S aR ay ⟨aq,dj⟩;have al:=aq.obj sT;have bo:=af.trans aq;have dK:=((h1.at k a1).cells).ext bo;refine aa ?_;refine P_ _ (λw' e=>Ni m.vars[k] _ m.scalars w' (ad.ext (bo.trans e))) ?_;refine aa ?_;intro bg ar;replace al:=ar.obj al;replace dK:=dK.ext ar;have dC:=dj.ext ar;have q6:=aq.trans ar;refine aa ?_;apply I_<;>intro g2
  .have eT:j<(o.cells m.vars[k] m.scalars).toNat:=Aw
   refine aa ?_;refine J_ (TZ m.vars[k].scalar bg (by unfold dZ;omega)) ?_;rintro _ ps ⟨rfl,rfl⟩;refine aa ?_;intro bp dm e8 aC bS;have dk:=dC.ext aC;have Dm:=q6.trans aC;have aE:(o.cellsOf 1 ((c6 m).take k) 0++fQ 1 k (List.replicate j (e7 m.vars[k].scalar m.vars[k].aV m.vars[k].U m.scalars)) 0).length=o.total ((c6 m).take k)+j:=by
    rw[HO,lx,vO,AF3]
   refine S_ (y:=⟨1,k,j,(o.bounds m.vars[k] m.scalars).1,(o.bounds m.vars[k] m.scalars).2,o.kindOf m.vars[k].scalar⟩) dk bS rfl (λ_=>rfl) Fp (by rw[aE];omega) (by rw[aE];unfold maxLen;omega) Dm.size λaN n c bH dY jR=>?_;refine aa ?_;refine⟨eT,aJ,(aN,n,c),a6,dk.jL Dm jR (E1 _),?_⟩;rw[List.replicate_succ',S3,<-NC,AF3,An];rw[An] at dY;exact dY
  .have nH:j=(o.cells m.vars[k] m.scalars).toNat:=Aw
   refine aa ?_;refine⟨a1,aJ,v,a6,q6,?_⟩;have aD:(0+((c6 m).take k).length:Nat)=k:=by rw[H5];omega
   rw[MR aH,yO,As,aD];rw[nH] at dC;exact dC
 have my:m.vars.length<=k:=Aw
 rw[MT (by simpa[c6] using my)] at dy;have UI:=NL m aL m.vars.length;rw[MT (by simp[c6])] at UI;refine aa ?_;refine L_ 8 m.aA.length [1] (λv:fk=>[(3,.slice v.1 v.2.1 v.2.2)]) v (λk v W=>Ext w1 W/\aK o.Cell.enc T.ur 6 w1.heap.size W (.slice v.1 v.2.1 v.2.2) (o.cellsOf 1 (c6 m) 0++o.cellsOf 2 ((dM m).take k) 0)) a6 a6 ⟨ai,by simpa[o.cellsOf] using dy⟩ ?_;clear al dy ai aD;rintro k v S az hk ⟨ai,dy⟩;have al:=ai.obj sT;have aD:=af.trans ai;refine aa ?_;apply I_<;>intro g2
 .have a1:k<m.aA.length:=Aw
  obtain⟨a,rfl⟩:=J.addr;have dK:=((J.at k a1).cells).ext aD;have c9:=aL.chan _ (E2 a1);have mA:=Pu c9 gj.1;have hT:=c9.cap;have aH:k<(dM m).length:=by simpa[dM] using a1
  have uo:=UH m aL (k+1);rw[H0 aH] at uo;have yO:(dM m)[k]=n3 m.scalars m.aA[k]:=by simp[dM]
  rw[yO,wN] at uo;have AY:(o.cellsOf 1 (c6 m) 0++o.cellsOf 2 ((dM m).take k) 0).length=o.total (c6 m)+o.total ((dM m).take k):=by rw[HO,lx,lx]
  refine aa ?_;intro aM b9 lZ ag cG;replace cG:aM.heap[b9]? = some (.cells m.aA[k].enc.toArray T.u):=cG;replace al:=ag.obj al;have ez:=dy.ext ag;clear dK;have fW:=ai.trans ag;refine aa ?_;intro aR cQ fD aq bn;have dj:=ez.ext aq;have lD:=fW.trans aq;refine S_ (y:=⟨2,k,0,0,m.aA[k].cap,0⟩) dj bn rfl (λ_=>rfl) Fp (by rw[AY];omega) (by rw[AY];unfold maxLen;omega) lD.size λaN n c bg dC kS=>?_;have al:=dj.box kS (aq.obj al) BS;have cG:=dj.box kS (aq.obj cG) BS;have q6:=dj.jL lD kS (E1 _);have bC:=af.trans q6;have ayP:=cq cG;clear dy ez bn fD aq ag lZ;refine dV ?_;simp -dsimp only[cK];refine dV ?_;intro bp aC;replace al:=aC.obj al;replace cG:=aC.obj cG;have dk:=dC.ext aC;have b5:=bC.trans aC;have Dm:=q6.trans aC;refine R_ [1,3,8,9] (λ_:Unit=>[(10,.I (ly m.scalars m.aA[k]).aV),(11,.I (ly m.scalars m.aA[k]).U)]) (λ_ W=>Ext bp W) ?_ ?_
  .refine aa ?_;apply I_<;>intro g3
   .obtain⟨i,U,GU,Sd⟩:=aip c9 Aw;obtain⟨a0,rfl⟩:=ad.addr;have gx:=((ad.at i U).cells).ext b5;refine aa ?_;refine K_ i Aw U ?_;refine aa ?_;intro bH bc;refine aa ?_;have e:ly m.scalars m.aA[k]=⟨0,m.scalars[i].size,m.aA[k].scalar+1⟩:=by unfold ly e7;rw[if_neg Aw,Sd]
    rw[e];exact⟨(),a6,bc⟩
   .have hv:m.aA[k].scalar=0:=Aw
    refine aa ?_;have e:ly m.scalars m.aA[k]=⟨min 0 m.aA[k].aV,max 0 m.aA[k].U,0⟩:=by unfold ly e7;rw[if_pos hv,Int.min_comm,Int.max_comm]
    rw[e];exact⟨(),a6,Ext.refl _⟩
  rintro _ S bH bc;replace al:=bc.obj al;replace cG:=bc.obj cG;have dY:=dk.ext bc;have Dn:=Dm.trans bc;have zc:ly m.scalars m.aA[k]=⟨(ly m.scalars m.aA[k]).aV,(ly m.scalars m.aA[k]).U,o.kindOf m.aA[k].scalar⟩:=by
   unfold ly e7 o.kindOf;split<;>rfl
  have KY:∀{W:A_},W.heap[b9]? = bH.heap[b9]? -> _:=λe=>e.trans cG;refine aa ?_;refine _L [1,8,9,10,11] (λx:fk×Nat=>[(3,.slice x.1.1 x.1.2.1 x.1.2.2),(12,.I ((x.2:Int)+1))]) ((aN,n,c),0) (λx W=>(Ext w1 W/\W.heap[b9]? = bH.heap[b9]? /\ (x.2:Int)<=m.aA[k].cap)/\aK o.Cell.enc T.ur 6 w1.heap.size W (.slice x.1.1 x.1.2.1 x.1.2.2) (o.cellsOf 1 (c6 m) 0++o.cellsOf 2 ((dM m).take k) 0++fQ 2 k (⟨0,m.aA[k].cap,0⟩ :: List.replicate x.2 (ly m.scalars m.aA[k])) 0)) (λx=>(m.aA[k].cap - x.2).toNat) a6 ⟨⟨Dn,rfl,by simp only;omega⟩,by simpa[fQ] using dY⟩ ?_;clear al cG dY dk dC;rintro⟨v,j⟩ S cB ⟨⟨Gl,lZ,ay⟩,gy⟩;have al:=Gl.obj sT;have cG:=KY lZ;simp only at ay;refine aa ?_;apply I_<;>intro g4
  .refine aa ?_;refine J_ (TZ m.aA[k].scalar cB (by unfold dZ;omega)) ?_;rintro _ ps ⟨rfl,rfl⟩;refine aa ?_;intro cD pF sR b0 gZ;have fy:=gy.ext b0;have Gm:=Gl.trans b0;have aE:(o.cellsOf 1 (c6 m) 0++o.cellsOf 2 ((dM m).take k) 0++fQ 2 k (⟨0,m.aA[k].cap,0⟩ :: List.replicate j (ly m.scalars m.aA[k])) 0).length=o.total (c6 m)+o.total ((dM m).take k)+(j+1):=by
    rw[HO,AY,vO,AG7,AF3]
   refine S_ (y:=⟨2,k,(j:Int)+1,(ly m.scalars m.aA[k]).aV,(ly m.scalars m.aA[k]).U,o.kindOf m.aA[k].scalar⟩) fy gZ rfl (λ_=>rfl) Fp (by rw[aE];omega) (by rw[aE];unfold maxLen;omega) Gm.size λaN n c et ou mX=>?_;have amv:=fy.box mX (b0.obj cG) BS;refine aa ?_;refine⟨((aN,n,c),j+1),a6,⟨⟨fy.jL Gm mX (E1 _),amv.trans (KY rfl).symm,by simp only;omega⟩,?_⟩,by simp only;omega⟩;rw[List.replicate_succ',<-List.cons_append,S3,<-NC,AG7,AF3];rw[zc] at ou ⊢;exact ou
  .refine aa ?_;refine⟨a1,aJ,v,a6,Gl,?_⟩;have aD:(0+((dM m).take k).length:Nat)=k:=by rw[H5];omega
   have AA:j=m.aA[k].cap.toNat:=Aw
   rw[MR aH,yO,As,aD,<-NC];rw[AA] at gy;exact gy
 have r5:m.aA.length<=k:=Aw
 rw[MT (by simpa[dM] using r5)] at dy;refine aa ?_;refine J_ (tf _ m az (h.ext aD) aG) ?_;rintro bK rC ⟨dP,vp⟩;obtain⟨ca,ci,rfl,_⟩:=dP.form;have Ry:∀{W:A_},eV [T.ur] rC W->ix W (.slice ca (o.insts m).length ci) (o.insts m):=λk=>aK.e4 (enc:=cP.enc) (λ_=>rfl) (dP.iG k BS);have kz:(o.insts m).length<=30:=by have:=vI m;have:=aL.procs;omega
 have abK:=dy.ext vp;have aaZ:=ai.trans vp;have ayG:=vp.size;refine aa ?_;refine L_ 14 (o.insts m).length [1,13] (λv:fk=>[(3,.slice v.1 v.2.1 v.2.2)]) v (λk v W=>(Ext w1 W/\eV [T.ur] rC W)/\aK o.Cell.enc T.ur 6 w1.heap.size W (.slice v.1 v.2.1 v.2.2) (o.cellsOf 1 (c6 m) 0++o.cellsOf 2 (dM m) 0++o.cellsOf 3 ((fG m).take k) 0)) a6 a6 ⟨⟨aaZ,eV.refl⟩,by simpa[o.cellsOf] using abK⟩ ?_;clear al dy ai aD abK vp aaZ;rintro k v S az hk ⟨⟨ai,pc⟩,dy⟩;have eh:=Ry pc;have al:=ai.obj sT;have aD:=af.trans ai;refine aa ?_;apply I_<;>intro g3
 .have a1:k<(o.insts m).length:=Aw
  obtain⟨gu,rfl⟩:=eh.addr;have nI:=rl _ (E2 a1);obtain⟨p,au,ho,q1⟩:=Br nI;have c9:=aL.proc _ (E2 au);have abu:=c9.cn;have qk:=c9.gj.1;obtain⟨a,rfl⟩:=ab.addr;obtain⟨kC,bY,dQ,c5,eU,eA⟩:=ab.at p au;obtain⟨ei,eZ,rfl,fa⟩:=eU.form;obtain⟨pj,oU,rfl,lc⟩:=eA.form;replace c5:=c5.ext aD;have aH:k<(fG m).length:=by simpa[fG] using a1
  have uo:=afF m aL (k+1);rw[H0 aH] at uo;have yO:(fG m)[k]=vW m.scalars m.procs[p]:=by simp[fG,q1]
  rw[yO,BI] at uo;have AY:(o.cellsOf 1 (c6 m) 0++o.cellsOf 2 (dM m) 0++o.cellsOf 3 ((fG m).take k) 0).length=o.total (c6 m)+o.total (dM m)+o.total ((fG m).take k):=by rw[HO,HO,lx,lx,lx]
  refine aa ?_;intro aM ag;replace c5:=c5.ext ag;replace al:=ag.obj al;replace eh:=eh.ext Flat.ext ag;have ez:=dy.ext ag;have fW:=ai.trans ag;refine aa ?_;refine K_ p ho au ?_;refine aa ?_;intro wn Al F6 fc eI;refine⟨fc,?_⟩;refine aa ?_;intro aR dT bn;have Kt:Ext aM aR:=dT.ext fc F6;replace bn:aR.heap[Al]? = some (.cells (m.procs[p].enc (.slice ei m.procs[p].vars.length eZ) (.slice pj m.procs[p].c4.length oU)).toArray T.l):=bn;unfold dv.enc at bn;replace al:=Kt.obj al;have dj:=ez.ext Kt;have lD:=fW.trans Kt;clear dT fc eI c5 ez dy eh;refine aa ?_;intro bg dJ jc ar bI;have dC:=dj.ext ar;have q6:=lD.trans ar;refine S_ (y:=⟨3,k,0,0,m.procs[p].cn - 1,0⟩) dC bI rfl (λ_=>rfl) Fp (by rw[AY];omega) (by rw[AY];unfold maxLen;omega) q6.size λaN n c bp dk ie=>?_;have al:=dC.box ie (ar.obj al) BS;have AV:=dC.box ie (ar.obj bn) BS;have Dm:=dC.jL q6 ie (E1 _);have SZ:eV [T.ur] rC bp:=((pc.trans (eV.ext (ag.trans Kt))).trans (eV.ext ar)).trans (acX dC ie);clear bn dj;have ab7:∀{W:A_},W.heap[Al]? = bp.heap[Al]? -> _:=λe=>e.trans AV;refine aa ?_;refine L_ 16 m.procs[p].vars.length [1,13,14,15] (λv:fk=>[(3,.slice v.1 v.2.1 v.2.2)]) (aN,n,c) (λj v W=>((Ext w1 W/\eV [T.ur] rC W)/\W.heap[Al]? = bp.heap[Al]?)/\aK o.Cell.enc T.ur 6 w1.heap.size W (.slice v.1 v.2.1 v.2.2) (o.cellsOf 1 (c6 m) 0++o.cellsOf 2 (dM m) 0++o.cellsOf 3 ((fG m).take k) 0++fQ 3 k (⟨0,m.procs[p].cn - 1,0⟩ :: (m.procs[p].vars.take j).map λv=>e7 v.scalar v.aV v.U m.scalars) 0)) a6 a6 ⟨⟨⟨Dm,SZ⟩,rfl⟩,by simpa[fQ] using dk⟩ ?_;clear al AV dk;rintro j v S bH ay ⟨⟨⟨Dn,vN⟩,F6⟩,dY⟩;have al:=Dn.obj sT;have AV:=ab7 F6;have cL:=af.trans Dn;refine aa ?_;apply I_<;>intro g4
  .have eT:j<m.procs[p].vars.length:=Aw
   obtain⟨rQ,rfl⟩:=eU.addr;have dK:=((eU.at j eT).cells).ext cL;have Sp:=c9.var _ (E2 eT);have mA:=NP Sp gj.1;refine aa ?_;refine P_ (.tuple #[.I (o.bounds m.procs[p].vars[j] m.scalars).1,.I (o.bounds m.procs[p].vars[j] m.scalars).2]) (λw' e=>TX m.procs[p].vars[j] _ m.scalars w' (ad.ext (cL.trans e))) ?_;refine aa ?_;intro cB bt;replace al:=bt.obj al;replace AV:=bt.obj AV;replace dK:=dK.ext bt;have gy:=dY.ext bt;have Gl:=Dn.trans bt;refine aa ?_;refine J_ (TZ m.procs[p].vars[j].scalar cB (by unfold dZ;omega)) ?_;rintro _ ps ⟨rfl,rfl⟩;refine aa ?_;intro cD b9 lZ b0 cG;have fy:=gy.ext b0;have Gm:=Gl.trans b0;have aE:(o.cellsOf 1 (c6 m) 0++o.cellsOf 2 (dM m) 0++o.cellsOf 3 ((fG m).take k) 0++fQ 3 k (⟨0,m.procs[p].cn - 1,0⟩ :: (m.procs[p].vars.take j).map λv=>e7 v.scalar v.aV v.U m.scalars) 0).length=o.total (c6 m)+o.total (dM m)+o.total ((fG m).take k)+(j+1):=by
    rw[HO,AY,vO,AG7,AK3,H5];omega
   have cu:((m.procs[p].vars.take j).map λv=>e7 v.scalar v.aV v.U m.scalars).length=j:=by simp;omega
   refine S_ (y:=⟨3,k,1+(j:Int),(o.bounds m.procs[p].vars[j] m.scalars).1,(o.bounds m.procs[p].vars[j] m.scalars).2,o.kindOf m.procs[p].vars[j].scalar⟩) fy cG rfl (λ_=>rfl) Fp (by rw[aE];omega) (by rw[aE];unfold maxLen;omega) Gm.size λaN n c et ou mX=>?_;have al7:=fy.box mX (b0.obj AV) BS;refine aa ?_;refine⟨eT,aJ,(aN,n,c),a6,⟨⟨fy.jL Gm mX (E1 _),(vN.trans (eV.ext (bt.trans b0))).trans (acX fy mX)⟩,al7.trans (ab7 rfl).symm⟩,?_⟩;rw[MR eT,AF1,<-List.cons_append,AG1,AJ9,S3,<-NC,AG7,cu,An m.procs[p].vars[j],show((j+1:Nat):Int)=1+(j:Int) from Aw];exact ou
  .refine aa ?_;refine⟨a1,aJ,v,a6,⟨Dn,vN⟩,?_⟩;have aD:(0+((fG m).take k).length:Nat)=k:=by rw[H5];omega
   rw[MT (l:=m.procs[p].vars) Aw] at dY;rw[MR aH,yO,As,aD,<-NC];exact dY
 .rw[MT (by simp[fG];omega)] at dy;refine aa ?_;exact⟨aK.low af.size dy,aD⟩
end Go.Proofs.R