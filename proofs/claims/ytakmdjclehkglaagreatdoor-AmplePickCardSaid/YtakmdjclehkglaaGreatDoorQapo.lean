/- Parts. -/
import Derived.Test.YtakmdjclehkglaaGreatDoorQapn
set_option linter.all false
set_option maxRecDepth 8000
set_option maxHeartbeats 16000000
namespace Go.Proofs.R
open Go Go.RowKit a8
def EH(v:B_)(l:C_ Int)(n:Int)(w:A_)(aE:ph w v l):Du F.JL #[v,.I n] w λv w'=>v = .tuple #[.I (o.hX l n).1,.I (o.hX l n).2]/\w'=w:=by
 obtain⟨aN,cap,rfl,hlen⟩:=aE.form;refine bl E.JL ?_;refine aI ?_;apply I_<;>intro g1
 .refine aI ?_;rw[o.hX,o.hs (.inl g1)];exact⟨rfl,trivial⟩
 refine aI ?_;apply I_<;>intro g2
 .refine aI ?_;rw[o.hX,o.hs (.inr Ad)];exact⟨rfl,trivial⟩
 obtain⟨i,rfl⟩:=Nb (show 0<=n by omega);obtain⟨a,rfl⟩:=aE.addr;refine aI ?_;rw[o.hX,o.jd Ad Ad];simp only[Int.toNat_natCast];exact⟨aK,trivial⟩
def aul(l:C_ Int)(aE:l.length<=9223372036854775807)(n:Int)(h:o.dX n):o.nth l (IntKind.i64.wrap (n - 1))=o.nth l (n - 1):=by
 obtain⟨h1,I⟩:=h;by_cases aw:n = -9223372036854775808
 .subst aw
  have:IntKind.i64.wrap (-9223372036854775808 - 1)=9223372036854775807:=By
  rw[this,o.hs (.inr Ad),o.hs (.inl Ad)]
 .rw[IntWalk.i64_in (n - 1) Ad]
def auo(x:o.Node)(cs:C_ B_)(v:o.Env)(base b:Nat)(w:A_)(m:B_)(st:C_ Int)(af:x.ok)(h:o.qA w cs v)(hm:rp base b w m st)(ab:x.op=3->0<st.length)(aG:∀z∈st,o.dX z) :
  Du F.JH #[.pointer (some ⟨b,0,none⟩),.agg x.enc.toArray,.agg cs.toArray] w λu w'=>u = .tuple #[.I (o.gU x v (st.getLastD 0)).1,.I (o.gU x v (st.getLastD 0)).2]/\Ext w w':=by
 obtain⟨a0,bz,db,c1,a2,c2,a3,bu,rfl,o7,c5,dA,ea,hg,eu,dz,dJ,dR⟩:=h.form;refine bl E.JH ?_;refine aI ?_;refine O_ λw1 bx cN ag al=>?_;refine aI ?_;refine O_ λaA bQ c7 ai ao=>?_;have he:=ag.trans ai;have cK:aA.heap[bx]? = some (.cells #[.I x.op,.I x.n] T.e):=ai.obj al;clear al;refine aI ?_;apply I_<;>intro g1
 .have hk:o.gU x v (st.getLastD 0)=if o.within x.n then (x.n,0) else (0,10):=by rw[o.gU,if_pos g1]
  have aB:(o.tell (· + ·) x.n 0).2=o.within x.n:=by
   unfold o.tell
   have:o.within 0=true:=rfl
   simp only[Int.add_zero,this,Bool.and_true,Bool.and_self];split<;>simp_all
  rw[hk];refine aI ?_;refine J_ (OK x.n 0 aA) ?_;rintro _ aM ⟨rfl,ah⟩;rw[aB];refine aI ?_;refine N_ (λg2=>?_) (λg2=>?_)
  all_goals
   refine aI ?_;rw[g2];exact ca
 by_cases aF:x.op=2\/x.op=3
 .have hk:o.gU x v (st.getLastD 0)=(match o.nth v.vars x.n with | some l=>if x.op=2 then o.hX l 0 else (match o.nth l (st.getLastD 0 - 1) with | some y=>(y,0) | none=>(0,10)) | none=>(0,8)):=by
   rw[o.gU,if_neg g1];split
   .rename_i e;cases o.nth v.vars x.n<;>simp[e]
   .rename_i e;rw[if_pos Ad];cases o.nth v.vars x.n with
    | none=>rfl
    | some l=>simp only[e,if_false];cases o.nth l (st.getLastD 0 - 1)<;>rfl
  by_cases Fm:x.n<0\/(v.vars.length:Int)<=x.n
  .rw[hk,o.hs Fm]
   (repeat' (refine aI ?_;first | (refine I_ (λ_=>?_) (λ_=>?_)<;>try (exfalso;omega)) | refine N_ (λ_=>?_) (λ_=>?_)))<;>try refine aI ?_
   all_goals exact ca
  obtain⟨i,U⟩:=Nb (show 0<=x.n by omega);have kp:i<v.vars.length:=Ad
  obtain⟨a,rfl⟩:=o7.addr;obtain⟨bK,iV,fk⟩:=o7.at i kp;have aw:o.nth v.vars x.n=some v.vars[i]:=by rw[U,o.jd Ad Ad];simp only[Int.toNat_natCast]
  rw[U] at cK;by_cases g2:x.op=2
  .have cb:o.gU x v (st.getLastD 0)=o.hX v.vars[i] 0:=by rw[hk,aw];simp only[g2,if_true]
   rw[cb];refine aI ?_;refine M_ (he.cell iV) ?_;refine aI ?_;refine J_ (EH _ v.vars[i] 0 aA (fk.ext he)) ?_;rintro _ _ ⟨rfl,rfl⟩;refine aI ?_;exact ca
  .have g3:x.op=3:=Ad
   have hS:=ab g3;have oa:o.gU x v (st.getLastD 0)=(match o.nth v.vars[i] (st.getLastD 0 - 1) with | some y=>(y,0) | none=>(0,10)):=by rw[hk,aw];simp only[g2,if_false]
   rw[oa];clear oa hk;refine aI ?_;refine M_ (he.cell iV) ?_;refine aI ?_;refine P_ _ (λw' e=>afc base b w' m st (hm.ext (he.trans e)) hS) ?_;refine aI ?_;refine _l ?_;refine aI ?_;refine P_ _ (λw' e=>(EH _ v.vars[i] _ w' (fk.ext (he.trans e))).mono λ_ _ ⟨h1,I⟩=>⟨h1,I ▸ Ext.refl _⟩) ?_;refine aI ?_;intro aM ah;have amH:o.dX (st.getLastD 0):=by rw[Fk _ hS];exact aG _ (ED _)
   obtain⟨b8,ci,rfl,li⟩:=fk.form;have hw:=aul _ li _ amH;cases au:o.nth v.vars[i] (IntKind.i64.wrap (st.getLastD 0 - 1)) with
   | none =>
    have bF:o.hX v.vars[i] (IntKind.i64.wrap (st.getLastD 0 - 1))=(0,8):=by rw[o.hX,au]
    rw[bF];refine aI ?_;rw[<-hw,au];exact ca
   | some y =>
    have bF:o.hX v.vars[i] (IntKind.i64.wrap (st.getLastD 0 - 1))=(y,0):=by rw[o.hX,au]
    rw[bF];refine aI ?_;rw[<-hw,au];exact ca
 rw[o.gU,if_neg g1,if_neg Ad,if_neg Ad];refine aI ?_;apply I_<;>intro g4
 .rw[if_pos g4];refine aI ?_;refine J_ (EH _ v.locals x.n aA (dA.ext he)) ?_;rintro _ _ ⟨rfl,rfl⟩;refine aI ?_;exact ca
 rw[if_neg g4];refine aI ?_;apply I_<;>intro g6
 .rw[if_pos g6];refine aI ?_;refine J_ (EH _ v.lens x.n aA (c5.ext he)) ?_;rintro _ _ ⟨rfl,rfl⟩;refine aI ?_;exact ca
 rw[if_neg g6];refine aI ?_;apply I_<;>intro g5
 .rw[if_pos g5];refine aI ?_;exact ca
 rw[if_neg g5];refine aI ?_;apply I_<;>intro g7;rotate_left
 .rw[if_neg g7];refine aI ?_;exact ca
 rw[if_pos g7];refine aI ?_;apply I_<;>intro g8
 .refine aI ?_;rw[if_neg Ad];exact ca
 rw[if_pos Ad];obtain⟨i,U⟩:=Nb (show 0<=x.n by omega);obtain⟨_,gT⟩:=af.n;rw[U] at gT;have au:x.n.tdiv 16=((i / 16:Nat):Int):=by rw[U];rfl
 have am9:x.n.tmod 16=((i % 16:Nat):Int):=by rw[U];rfl
 refine aI ?_;refine _C Ad ?_;rw[au];refine aI ?_;apply I_<;>intro g9
 .refine aI ?_;rw[o.hs (.inr Ad)];exact ca
 have az:i / 16<v.at_.length:=Ad
 obtain⟨a,rfl⟩:=ea.addr;obtain⟨bK,iV,fk⟩:=ea.at (i / 16) az;rw[o.jd Ad Ad];simp only[Int.toNat_natCast];refine aI ?_;refine _C Ad ?_;rw[au];refine aI ?_;refine M_ (he.cell iV) ?_;refine aI ?_;refine _s Ad ?_;refine aI ?_;refine P_ _ (λw' e=>(EH _ v.at_[i / 16] _ w' (fk.ext (he.trans e))).mono λ_ _ ⟨h1,I⟩=>⟨h1,I ▸ Ext.refl _⟩) ?_;refine aI ?_;intro aM ah;refine aI ?_;exact ca
end Go.Proofs.R
namespace o
open Go Go.RowKit a8
structure Env.ok(v:Env):Prop where
 vars:∀l∈v.vars,∀z∈l,dX z
 lens:∀z∈v.lens,dX z
 locals:∀z∈v.locals,dX z
 at_:∀l∈v.at_,∀z∈l,dX z
 self:dX v.self
def aem{w:A_}{v:B_}{l:C_ (C_ Int)}(h:v7 w v l):∀r∈l,∀z∈r,dX z:=by
 intro r aS;obtain⟨i,U,rfl⟩:=List.mem_iff_getElem.1 aS;obtain⟨aN,cap,rfl,_⟩:=h.form;obtain⟨a,rfl⟩:=h.addr;obtain⟨bK,_,I⟩:=h.at i U;exact I.ok
def qA.ok{w:A_}{cs:C_ B_}{v:Env}(h:qA w cs v):v.ok:=by
 obtain⟨v0,v1,v2,v3,_,ad,h1,I,ab,aC⟩:=h.ex;exact⟨aem ad,h1.ok,I.ok,aem ab,aC⟩
def Bi{α:Type}{l:C_ α}{n:Int}{x:α}(h:nth l n=some x):x∈l:=by
 unfold nth at h;split at h
 .exact List.mem_of_getElem? h
 .cases h
def KR:dX 0:=⟨By,By⟩
def auA{n:Int}(h:within n=true):dX n:=by simp[within] at h;exact⟨Ad,Ad⟩
def atL(f:Int->Int->Int)(a b:Int):dX (tell f a b).1:=by
 unfold tell;split
 .rename_i h;simp only[Bool.and_eq_true] at h;exact auA h.2
 .exact KR
def ahd(b:Bool):dX (bit b):=by cases b<;>exact⟨By,By⟩
def aiH{x:Int}{ae:pU}(h:hf x=some ae)(a b:Int):dX (ae.Af a b).1:=by
 unfold hf at h
 repeat' split at h
 all_goals first | (cases h;first | exact atL _ _ _ | exact ahd _) | cases h
def NA{l:C_ Int}{n:Int}(h:∀z∈l,dX z):dX (hX l n).1:=by
 unfold hX;split
 .rename_i x af;exact h x (Bi af)
 .exact KR
def ajI{v:Env}(aF:v.ok){x:Node}{st:C_ Int}(af:x.ok):dX (kH v x st).1:=by
 unfold kH;split
 .rename_i ae aQ;unfold xV;simp only;split
  .exact aiH aQ _ _
  .exact KR
 .unfold gU
  (repeat' split)
  all_goals first
   | exact af.n
   | exact KR
   | exact aF.self
   | exact NA aF.locals
   | exact NA aF.lens
   | (rename_i cR;exact NA (aF.vars _ (Bi cR)))
   | (rename_i cR;exact NA (aF.at_ _ (Bi cR)))
   | (rename_i h1 _ _ I;exact aF.vars _ (Bi h1) _ (Bi I))
   | (rename_i I;rename_i h1;exact aF.vars _ (Bi h1) _ (Bi I))
end o
namespace Go.Proofs.R
open Go Go.RowKit a8
def aus(ae:o.pU)(u e6:B_)(l:C_ Int)(w:A_)(aE:Ints w e6 l)(ad:0<l.length)(bb:x1 w u ae.Af) :
  Du F.JI #[.agg #[.I ae.parts,.I ae.jQ,.I ae.makes,u],e6] w λv w'=>v = .tuple #[.I (o.xV ae l).1,.I (o.xV ae l).2]/\Ext w w':=by
 obtain⟨aN,cap,rfl,hlen⟩:=aE.form;refine bl E.JI ?_;refine aI ?_;refine O_ λw1 b ak ag al=>?_;obtain⟨a,rfl⟩:=aE.addr ad;have pA:Ints w1 (.slice (some a) l.length cap) l:=aE.ext ag;refine aI ?_;refine K_ (l.length - 1) Ad Ad ?_;refine aI ?_;refine _v _ (λw' e=>AC0 (bb.ext (ag.trans e)) λbM aH=>⟨rfl,aH⟩) ?_;have ej:l[0]=l.headD 0:=by
  cases l with
  | nil=>simp at ad
  | cons z l=>rfl
 rw[ej,<-Fk l ad];rw[o.xV];generalize ae.Af (l.headD 0) (l.getLastD 0)=q;refine aI ?_;intro aA ai;refine aI ?_;refine N_ (λg=>?_) (λg=>?_)
 all_goals
  refine aI ?_;simp only[g,if_true,Bool.false_eq_true,if_false];exact ca
def ajf(x:o.Node)(cs:C_ B_)(v:o.Env)(base b pm dx:Nat)(w:A_)(m:B_)(st:C_ Int)(Ui:F_)(af:x.ok)(h:o.qA w cs v)(hm:rp base b w m st)(ab:x.op=3->0<st.length)(aG:∀z∈st,o.dX z)
  (xc:w.heap[pm]? = some (.cells #[.pointer (some ⟨b,0,none⟩)] Ui))(tR:w.heap[dx]? = some (.cells cs.toArray T.v)) :
  Du F.Fl #[.agg x.enc.toArray,.pointer (some ⟨pm,0,none⟩),.pointer (some ⟨dx,0,none⟩)] w λu w' =>
   u = .tuple #[.I (o.gU x v (st.getLastD 0)).1,.I (o.gU x v (st.getLastD 0)).2]/\Ext w w':=by
 obtain⟨v0,v1,v2,v3,rfl,_⟩:=h.ex;refine bl E.Fl ?_;refine aI ?_;refine O_ λw1 bx cN ag al=>?_;have cK:w1.heap[bx]? = some (.cells x.enc.toArray T.e):=al;refine aI ?_;refine T_ (c:=x.enc) cK (Ext.refl _) rfl ?_;refine aI ?_;refine T_ tR ag rfl ?_;refine aI ?_;refine J_ (auo x _ v base b w1 m st af (h.ext ag) (hm.ext ag) ab aG) ?_;rintro _ aA ⟨rfl,ai⟩;refine aI ?_;exact ca
def ajJ(v:o.Env):Nq (o.kH v) o.xV λx st=>o.gU x v (st.getLastD 0):=λ_ _=>rfl
def ajg(gP:B_)(e:C_ o.Node)(cs:C_ B_)(v:o.Env)(w:A_)(he:o.eS w gP e)(h:o.qA w cs v) :
  Du F.f6 #[gP,.agg cs.toArray] w λu w'=>u = .tuple #[.I (o.eval e v).1,.I (o.eval e v).2]/\Ext w w':=by
 have c8:=h.ok;obtain⟨v0,v1,v2,v3,rfl,_⟩:=h.ex;refine bl E.f6 ?_;refine aI ?_;refine O_ λw1 dx tR ag al=>?_;refine aI ?_;refine X_ (cs:=[.slice none 0 0,.map none]) (by simp[gC]) ?_;refine aI ?_;refine O_ λaA b ak ai ao=>?_;refine aI ?_;refine O_ λaM pm xc ah ba=>?_;refine aI ?_;refine _V ba By rfl λaU dQ bo=>?_;have QD:aU.heap[pm]? = some (.cells #[.pointer (some ⟨b,0,none⟩)] T.ts):=bo;have aq:Ext aA aU:=dQ.ext ah xc;have anD:=cq ao;have abu:=cq al;have AH:Ext w aU:=(ag.trans ai).trans aq;clear bo dQ ah ba;have fT:=aq.obj ao;have kN:=aq.obj (ai.obj al);have fQ:=ag.size;refine aI ?_;refine J_ (aey (o.kH v) o.xV (λx st=>o.gU x v (st.getLastD 0)) (ajJ v) o.dX b w aU AH Ad gP _ _ e he fT (λx st af _ _ _ _=>o.ajI c8 af) ?_ ?_) ?_
 .intro x st base m w' af hm AS aG c5 dA ea Ur cL t ix hk;refine V_ (first:=[]) (cap:=[.pointer (some ⟨pm,0,none⟩),.pointer (some ⟨dx,0,none⟩)]) Ci
   (ajf x _ v base b pm dx Ur m st _ af (h.ext ((hm.ext AH (by intro k hk e;omega)).trans ix)) (AS.ext ix) ?_ aG (ix.obj (hm.obj Ad QD)) (ix.obj (hm.obj Ad kN))) λv bM ⟨h1,I⟩=>by subst h1;exact hk bM I
  intro ab
  have:o.fO x.op=1:=by rw[ab];rfl
  omega
 .rintro ae ei e6 l w' cL t hm ⟨u,rfl,bb⟩ ⟨x,af⟩ aE U hk;exact _d (first:=[]) (cap:=[]) Ci (aus ae u e6 l w' U (by have:=S5 af;omega) bb) λv bM ⟨h1,I⟩=>by subst h1;exact hk bM I
 rintro _ bh ⟨rfl,lQ⟩;have av:Ext w bh:=lQ.ext AH (by intro k hk e;omega);refine aI ?_;exact ca
def MY(v:B_)(l:C_ Int)(n:Int)(w:A_)(aE:ph w v l):Du F.Ll #[v,.I n] w λv w'=>v = .tuple #[.I (o.hX l n).1,.bool (decide ((o.hX l n).2=0))]/\Ext w w':=by
 obtain⟨aN,cap,rfl,hlen⟩:=aE.form;refine bl E.Ll ?_;refine aI ?_;apply I_<;>intro g1
 .refine aI ?_;rw[o.hX,o.hs (.inl g1)];exact ca
 refine aI ?_;apply I_<;>intro g2
 .refine aI ?_;rw[o.hX,o.hs (.inr Ad)];exact ca
 obtain⟨i,rfl⟩:=Nb (show 0<=n by omega);obtain⟨a,rfl⟩:=aE.addr;refine aI ?_;rw[o.hX,o.jd Ad Ad];simp only[Int.toNat_natCast];exact ca
def auk(l:C_ Int)(n:Int):(o.hX l n).2=0\/o.hX l n=(0,8):=by
 unfold o.hX;split
 .exact .inl rfl
 .exact .inr rfl
def BE(b:Bool)(w:A_):Du F.Lj #[.bool b] w λv w'=>v = .I (o.bit b)/\w'=w:=by
 refine bl E.Lj ?_;refine aI ?_;refine N_ (λh=>?_) (λh=>?_)
 all_goals
  subst h;refine aI ?_;exact⟨rfl,trivial⟩
def TS(n:Int)(w:A_):Du F.Lb #[.I n] w λv w'=>v = .bool (o.within n)/\w'=w:=by
 refine bl E.Lb ?_
 (repeat' (refine aI ?_;first | (refine I_ (λ_=>?_) (λ_=>?_)<;>try (exfalso;omega)) | refine N_ (λ_=>?_) (λ_=>?_)))<;>try refine aI ?_
 all_goals
  refine⟨?_,aK⟩;congr 1
  first | (rw[AG4];simp[o.within];omega) | (simp[o.within];omega)
theorem Uj(a b n:Int)(w:A_):Du F.La #[.I a,.I b,.I n] w
  λv w'=>v = .tuple #[.I (if o.within a&&o.within b&&o.within n then n else 0),.bool (o.within a&&o.within b&&o.within n)]/\w'=w:=by
 refine bl E.La ?_;refine aI ?_;refine J_ (TS a w) ?_;rintro _ _ ⟨rfl,rfl⟩;refine aI ?_;cases h1:o.within a with
 | false =>
  refine aI ?_;exact⟨CC,trivial⟩
 | true =>
  refine aI ?_;refine J_ (TS b _) ?_;rintro _ _ ⟨rfl,rfl⟩;refine aI ?_;cases I:o.within b with
  | false =>
   refine aI ?_;exact⟨CC,trivial⟩
  | true =>
   refine aI ?_;refine J_ (TS n _) ?_;rintro _ _ ⟨rfl,rfl⟩;refine aI ?_;cases ab:o.within n with
   | false =>
    refine aI ?_;exact⟨CC,trivial⟩
   | true =>
    refine aI ?_;exact⟨CC,trivial⟩
theorem Uk(f:Int->Int->Int)(a b n:Int)(h:o.within a=true->o.within b=true->n=f a b) :
  (if (o.within a&&o.within b&&o.within n)=true then n else 0)=(o.tell f a b).1/\(o.within a&&o.within b&&o.within n)=(o.tell f a b).2:=by
 unfold o.tell;cases h1:o.within a with
 | false=>simp
 | true =>
  cases I:o.within b with
  | false=>simp
  | true =>
   rw[h h1 I];cases ab:o.within (f a b)<;>simp
def arP:uB F.K7 (o.tell (· + ·)):=by
 intro a b w;refine bl E.K7 ?_;refine aI ?_;refine _l ?_;refine aI ?_;refine J_ (Uj a b _ w) ?_;rintro _ _ ⟨rfl,rfl⟩;obtain⟨h1,I⟩:=Uk (· + ·) a b (IntKind.i64.wrap (a+b)) (λh1 I=>by simp[o.within] at h1 I;exact IntWalk.i64_in _ Ad);rw[h1,I];refine aI ?_;exact ca
def aeq:uB F.K9 (o.tell (· - ·)):=by
 intro a b w;refine bl E.K9 ?_;refine aI ?_;refine _l ?_;refine aI ?_;refine J_ (Uj a b _ w) ?_;rintro _ _ ⟨rfl,rfl⟩;obtain⟨h1,I⟩:=Uk (· - ·) a b (IntKind.i64.wrap (a - b)) (λh1 I=>by simp[o.within] at h1 I;exact IntWalk.i64_in _ Ad);rw[h1,I];refine aI ?_;exact ca
def ast:uB F.K8 (o.tell (· * ·)):=by
 intro a b w;refine bl E.K8 ?_;refine aI ?_;refine _l ?_;refine aI ?_;refine J_ (Uj a b _ w) ?_;rintro _ _ ⟨rfl,rfl⟩;obtain⟨h1,I⟩:=Uk (· * ·) a b (IntKind.i64.wrap (a*b)) (λh1 I=>by simp[o.within] at h1 I;have:=ac2 h1 I;exact IntWalk.i64_in _ Ad);rw[h1,I];refine aI ?_;exact ca
def sa(op a b:Int):Int×Int:=match o.hf op with | some ae=>o.xV ae [a,b] | none=>(0,0)
def arS(op a b:Int)(w:A_)(mT:11<=op/\op<=19) :
  Du F.Lm #[.I op,.I a,.I b] w λv w'=>v = .tuple #[.I (sa op a b).1,.I (sa op a b).2]/\Ext w w':=by
 have num:∀f:Int->Int->Int×Bool,(if (f a b).2=true then ((f a b).1,(0:Int)) else (0,10))=(let r:=f a b;if r.2=true then (r.1,0) else (0,10)):=λ_=>rfl;have an:op=11\/op=12\/op=13\/op=14\/op=15\/op=16\/op=17\/op=18\/op=19:=Ad
 refine bl E.Lm ?_;rcases an with e | e | e | e | e | e | e | e | e
 .have key:sa op a b=if (o.tell (· + ·) a b).2=true then ((o.tell (· + ·) a b).1,0) else (0,10):=by subst e;rfl
  rw[key];refine aI ?_;refine J_ (arP a b w) ?_;rintro _ w1 ⟨rfl,ag⟩;refine aI ?_;refine N_ (λh=>?_) (λh=>?_)
  all_goals
   refine aI ?_;rw[h];exact ca
 .have key:sa op a b=if (o.tell (· - ·) a b).2=true then ((o.tell (· - ·) a b).1,0) else (0,10):=by subst e;rfl
  rw[key];refine aI ?_;refine J_ (aeq a b w) ?_;rintro _ w1 ⟨rfl,ag⟩;refine aI ?_;refine N_ (λh=>?_) (λh=>?_)
  all_goals
   refine aI ?_;rw[h];exact ca
 .have key:sa op a b=if (o.tell (· * ·) a b).2=true then ((o.tell (· * ·) a b).1,0) else (0,10):=by subst e;rfl
  rw[key];refine aI ?_;refine J_ (ast a b w) ?_;rintro _ w1 ⟨rfl,ag⟩;refine aI ?_;refine N_ (λh=>?_) (λh=>?_)
  all_goals
   refine aI ?_;rw[h];exact ca
 .have key:sa op a b=(o.bit (decide (a=b)),0):=by subst e;rfl
  rw[key];refine aI ?_;refine J_ (BE _ w) ?_;rintro _ _ ⟨rfl,rfl⟩;refine aI ?_;exact ca
 .have key:sa op a b=(o.bit (!decide (a=b)),0):=by subst e;rfl
  rw[key];refine aI ?_;refine J_ (BE _ w) ?_;rintro _ _ ⟨rfl,rfl⟩;refine aI ?_;exact ca
 .have key:sa op a b=(o.bit (decide (a<b)),0):=by subst e;rfl
  rw[key];refine aI ?_;refine J_ (BE _ w) ?_;rintro _ _ ⟨rfl,rfl⟩;refine aI ?_;exact ca
 .have key:sa op a b=(o.bit (decide (a<=b)),0):=by subst e;rfl
  rw[key];refine aI ?_;refine J_ (BE _ w) ?_;rintro _ _ ⟨rfl,rfl⟩;refine aI ?_;exact ca
 .have key:sa op a b=(o.bit (!decide (a=0) && !decide (b=0)),0):=by subst e;rfl
  rw[key];refine aI ?_;refine I_ (λh1=>?_) (λh1=>?_)
  all_goals
   refine aI ?_;refine J_ (BE _ w) ?_;rintro _ _ ⟨rfl,rfl⟩;refine aI ?_;refine⟨?_,fR⟩;simp[h1]
 .have key:sa op a b=(o.bit (!decide (a=0) || !decide (b=0)),0):=by subst e;rfl
  rw[key];refine aI ?_;refine I_ (λh1=>?_) (λh1=>?_)
  all_goals
   refine aI ?_;refine J_ (BE _ w) ?_;rintro _ _ ⟨rfl,rfl⟩;refine aI ?_;refine⟨?_,fR⟩;simp[h1]
def NB(l:C_ Int)(n:Int):(decide ((o.hX l n).2=0)=true->o.hX l n=((o.hX l n).1,0))/\(decide ((o.hX l n).2=0)=false->o.hX l n=(0,8)):=by
 rcases auk l n with h | h
 .exact⟨λ_=>Prod.ext rfl h,λbr=>by simp[h] at br⟩
 .exact⟨λbr=>by simp[h] at br,λ_=>h⟩
def asJ(x:o.Node)(cs:C_ B_)(v:o.Env)(w:A_)(af:x.ok)(h:o.qA w cs v)(ab:x.op≠3)(t:Int) :
  Du F.Ls #[.agg x.enc.toArray,.agg cs.toArray] w λu w'=>u = .tuple #[.I (o.gU x v t).1,.I (o.gU x v t).2]/\Ext w w':=by
 obtain⟨a0,bz,db,c1,a2,c2,a3,bu,rfl,o7,c5,dA,ea,hg,eu,dz,dJ,dR⟩:=h.form;refine bl E.Ls ?_;refine aI ?_;refine O_ λw1 bx cN ag al=>?_;refine aI ?_;refine O_ λaA bQ c7 ai ao=>?_;have he:=ag.trans ai;have cK:aA.heap[bx]? = some (.cells #[.I x.op,.I x.n] T.e):=ai.obj al;clear al;refine aI ?_;apply I_<;>intro g1
 .have hk:o.gU x v t=if o.within x.n then (x.n,0) else (0,10):=by rw[o.gU,if_pos g1]
  (repeat' (refine aI ?_;first | (refine I_ (λ_=>?_) (λ_=>?_)<;>try (exfalso;omega)) | refine N_ (λ_=>?_) (λ_=>?_)))<;>try refine aI ?_
  all_goals
   refine⟨?_,fR⟩;rw[hk];unfold o.within;split<;>first | rfl | (rename_i cR;simp at cR;exfalso;omega)
 refine aI ?_;apply I_<;>intro g2
 .by_cases Fm:x.n<0\/(v.vars.length:Int)<=x.n
  .have hk:o.gU x v t=(0,8):=by rw[o.gU,if_neg g1,if_pos g2,o.hs Fm]
   rw[hk]
   (repeat' (refine aI ?_;first | (refine I_ (λ_=>?_) (λ_=>?_)<;>try (exfalso;omega)) | refine N_ (λ_=>?_) (λ_=>?_)))<;>try refine aI ?_
   all_goals exact ca
  obtain⟨i,U⟩:=Nb (show 0<=x.n by omega);have kp:i<v.vars.length:=Ad
  obtain⟨a,rfl⟩:=o7.addr;obtain⟨bK,iV,fk⟩:=o7.at i kp;have aw:o.nth v.vars x.n=some v.vars[i]:=by rw[U,o.jd Ad Ad];simp only[Int.toNat_natCast]
  have hk:o.gU x v t=o.hX v.vars[i] 0:=by rw[o.gU,if_neg g1,if_pos g2,aw]
  rw[hk];rw[U] at cK;refine aI ?_;refine M_ (he.cell iV) ?_;refine aI ?_;refine J_ (MY _ v.vars[i] 0 aA (fk.ext he)) ?_;rintro _ aM ⟨rfl,ah⟩;obtain⟨jR,jF⟩:=NB v.vars[i] 0;refine aI ?_;refine N_ (λg=>?_) (λg=>?_)
  .refine aI ?_;rw[jR g];exact ca
  .refine aI ?_;rw[jF g];exact ca
 refine aI ?_;apply I_<;>intro g4
 .have hk:o.gU x v t=o.hX v.locals x.n:=by rw[o.gU,if_neg g1,if_neg g2,if_neg ab,if_pos g4]
  rw[hk];refine aI ?_;refine J_ (MY _ v.locals x.n aA (dA.ext he)) ?_;rintro _ aM ⟨rfl,ah⟩;obtain⟨jR,jF⟩:=NB v.locals x.n;refine aI ?_;refine N_ (λg=>?_) (λg=>?_)
  .refine aI ?_;rw[jR g];exact ca
  .refine aI ?_;rw[jF g];exact ca
 refine aI ?_;apply I_<;>intro g5
 .have hk:o.gU x v t=(v.self,0):=by rw[o.gU,if_neg g1,if_neg g2,if_neg ab,if_neg g4,if_neg Ad,if_pos g5]
  rw[hk];refine aI ?_;exact ca
 refine aI ?_;apply I_<;>intro g6
 .have hk:o.gU x v t=o.hX v.lens x.n:=by rw[o.gU,if_neg g1,if_neg g2,if_neg ab,if_neg g4,if_pos g6]
  rw[hk];refine aI ?_;refine J_ (MY _ v.lens x.n aA (c5.ext he)) ?_;rintro _ aM ⟨rfl,ah⟩;obtain⟨jR,jF⟩:=NB v.lens x.n;refine aI ?_;refine N_ (λg=>?_) (λg=>?_)
  .refine aI ?_;rw[jR g];exact ca
  .refine aI ?_;rw[jF g];exact ca
 refine aI ?_;apply I_<;>intro g7;rotate_left
 .have hk:o.gU x v t=(0,0):=by rw[o.gU,if_neg g1,if_neg g2,if_neg ab,if_neg g4,if_neg g6,if_neg g5,if_neg g7]
  rw[hk];refine aI ?_;exact ca
 have hk:o.gU x v t=if 0<=x.n then (match o.nth v.at_ (x.n.tdiv 16) with | some l=>o.hX l (x.n.tmod 16) | none=>(0,8)) else (0,8):=by
  rw[o.gU,if_neg g1,if_neg g2,if_neg ab,if_neg g4,if_neg g6,if_neg g5,if_pos g7];split
  .cases o.nth v.at_ (x.n.tdiv 16)<;>rfl
  .rfl
 refine aI ?_;apply I_<;>intro g8
 .rw[hk,if_neg Ad];refine aI ?_;exact ca
 rw[if_pos Ad] at hk;obtain⟨i,U⟩:=Nb (show 0<=x.n by omega);obtain⟨_,gT⟩:=af.n;rw[U] at gT;have au:x.n.tdiv 16=((i / 16:Nat):Int):=by rw[U];rfl
 have am9:x.n.tmod 16=((i % 16:Nat):Int):=by rw[U];rfl
 refine aI ?_;refine _C Ad ?_;rw[au];refine aI ?_;apply I_<;>intro g9
 .rw[hk,o.hs (.inr Ad)];refine aI ?_;exact ca
 have az:i / 16<v.at_.length:=Ad
 obtain⟨a,rfl⟩:=ea.addr;obtain⟨bK,iV,fk⟩:=ea.at (i / 16) az;rw[au,o.jd Ad Ad] at hk;simp only[Int.toNat_natCast] at hk;rw[hk];refine aI ?_;refine _C Ad ?_;rw[au];refine aI ?_;refine M_ (he.cell iV) ?_;refine aI ?_;refine _s Ad ?_;refine aI ?_;refine P_ _ (λw' e=>MY _ v.at_[i / 16] _ w' (fk.ext (he.trans e))) ?_;obtain⟨jR,jF⟩:=NB v.at_[i / 16] (x.n.tmod 16);refine aI ?_;intro aM ah;refine aI ?_;refine N_ (λg=>?_) (λg=>?_)
 .refine aI ?_;rw[jR g];exact ca
 .refine aI ?_;rw[jF g];exact ca
def uh(x:o.Node)(k:Int)(v:o.Env):Int×Int:=match o.hf x.op with | some ae=>o.xV ae [k] | none=>o.gU x v k
def asq(x:o.Node)(k:Int)(cs:C_ B_)(v:o.Env)(w:A_)(h:o.qA w cs v)(mT:x.op=3\/x.op=9\/x.op=10) :
  Du F.Ln #[.agg x.enc.toArray,.I k,.agg cs.toArray] w λu w'=>u = .tuple #[.I (uh x k v).1,.I (uh x k v).2]/\Ext w w':=by
 obtain⟨a0,bz,db,c1,a2,c2,a3,bu,rfl,o7,c5,dA,ea,hg,eu,dz,dJ,dR⟩:=h.form;refine bl E.Ln ?_;refine aI ?_;refine O_ λw1 bx cN ag al=>?_;refine aI ?_;refine O_ λaA bQ c7 ai ao=>?_;have he:=ag.trans ai;have cK:aA.heap[bx]? = some (.cells #[.I x.op,.I x.n] T.e):=ai.obj al;clear al;refine aI ?_;apply I_<;>intro g9
 .have hk:uh x k v=(o.bit (decide (k=0)),0):=by rw[uh,g9];rfl
  rw[hk];refine aI ?_;refine J_ (BE _ aA) ?_;rintro _ _ ⟨rfl,rfl⟩;refine aI ?_;exact ca
 refine aI ?_;apply I_<;>intro g10
 .have hk:uh x k v=if (o.tell (· - ·) 0 k).2=true then ((o.tell (· - ·) 0 k).1,0) else (0,10):=by rw[uh,g10];rfl
  rw[hk];refine aI ?_;refine J_ (aeq 0 k aA) ?_;rintro _ aM ⟨rfl,ah⟩;refine aI ?_;refine N_ (λg=>?_) (λg=>?_)
  all_goals
   refine aI ?_;rw[g];exact ca
 have g3:x.op=3:=Ad
 have ft:uh x k v=o.gU x v k:=by rw[uh,show o.hf x.op=none from by rw[g3];rfl]
 have hk:uh x k v=(match o.nth v.vars x.n with | some l=>(match o.nth l (k - 1) with | some y=>(y,0) | none=>(0,10)) | none=>(0,8)):=by
  rw[ft,o.gU,if_neg Ad,if_neg Ad,if_pos g3];cases o.nth v.vars x.n with
  | none=>rfl
  | some l=>simp only;cases o.nth l (k - 1)<;>rfl
 clear ft;by_cases Fm:x.n<0\/(v.vars.length:Int)<=x.n
 .rw[o.hs Fm] at hk;rw[hk]
  (repeat' (refine aI ?_;first | (refine I_ (λ_=>?_) (λ_=>?_)<;>try (exfalso;omega)) | refine N_ (λ_=>?_) (λ_=>?_)))<;>try refine aI ?_
  all_goals exact ca
 obtain⟨i,U⟩:=Nb (show 0<=x.n by omega);have kp:i<v.vars.length:=Ad
 obtain⟨a,rfl⟩:=o7.addr;obtain⟨bK,iV,fk⟩:=o7.at i kp;obtain⟨b8,ci,rfl,li⟩:=fk.form;rw[U,o.jd Ad Ad] at hk;simp only[Int.toNat_natCast] at hk;rw[U] at cK;have jK:=fk.ext he;generalize v.vars[i]=l at *;by_cases Fl:k<1\/(l.length:Int)<k
 .rw[o.hs Ad] at hk;simp only at hk;rw[hk];by_cases avv:k<1
  .refine aI ?_;exact ca
  .refine aI ?_;refine M_ (he.cell iV) ?_;refine aI ?_;exact ca
 obtain⟨j,az⟩:=Nb (show 0<=k - 1 by omega);have Df:j<l.length:=Ad
 rw[o.jd Ad Ad] at hk;simp only[az,Int.toNat_natCast] at hk;rw[hk];obtain⟨cx,rfl⟩:=fk.addr;refine aI ?_;refine M_ (he.cell iV) ?_;refine aI ?_;refine M_ (he.cell iV) ?_;refine aI ?_;refine K_ j Ad Ad ?_;refine aI ?_;exact ca
def ajF{v:o.Env}{x:o.Node}{st:C_ Int}(h:o.fO x.op=0):o.kH v x st=o.gU x v (st.getLastD 0):=by
 unfold o.kH;rw[(MJ h).2.2.2]
theorem ajG{v:o.Env}{x:o.Node}{st:C_ Int}(h:o.fO x.op=1)(aE:1<=st.length):o.kH v x st=uh x st[st.length - 1] v:=by
 unfold o.kH uh;cases aQ:o.hf x.op with
 | none=>simp only;rw[Fk st Ad]
 | some ae =>
  have:=(o.G8 aQ).1
  simp only;rw[show ae.parts.toNat=1 from Ad,Pv aE]
def ajH{v:o.Env}{x:o.Node}{st:C_ Int}(h:o.fO x.op=2)(aE:2<=st.length):o.kH v x st=sa x.op st[st.length - 2] st[st.length - 1]:=by
 unfold o.kH sa;obtain⟨ae,aQ,ar⟩:=adn (show 9<=x.op/\x.op<=19 by have:=MK h;omega);rw[aQ];simp only;rw[show ae.parts.toNat=2 from Ad,YB aE]
def TD(gP:B_)(e:C_ o.Node)(cs:C_ B_)(v:o.Env)(w:A_)(he:o.eS w gP e)(h:o.qA w cs v) :
  Du F.Lg #[gP,.agg cs.toArray] w λu w'=>u = .tuple #[.I (o.eval e v).1,.I (o.eval e v).2]/\Ext w w':=by
 obtain⟨v0,v1,v2,v3,rfl,_⟩:=h.ex;obtain⟨aN,cap,rfl,hlen⟩:=he.form;refine bl E.Lg ?_;refine aI ?_;refine O_ λw1 dx tR ag al=>?_;refine aI ?_;apply I_<;>intro g1
 .refine aI ?_;rw[o.eval,o.mY,if_pos Ad];exact ca
 refine aI ?_;apply I_<;>intro g2
 .refine aI ?_;rw[o.eval,o.mY,if_neg Ad,if_pos Ad];exact ca
 refine aI ?_;refine _h 7 e.length (λk S w' => ∃u st,S 6=u/\uG w1.heap.size w' u st/\o.gm (o.kH v) (e.take k) []=(0,st)/\(0<k->1<=st.length)/\st.length<=12/\Ext w1 w')
  (by simp -dsimp only[dg,cH,Nat.reduceAdd,Nat.reduceEqDiff,reduceIte,reduceCtorEq,dm]) ⟨.slice none 0 0,[],by simp -dsimp only[dg,cH,Nat.reduceAdd,Nat.reduceEqDiff,reduceIte,reduceCtorEq,dm],aJ.nil _ _ _ _ _,by simp[o.gm],CC,CC,Ext.refl _⟩ ?_
 rintro k S aA b5 hk cr ⟨v6,st,bJ,gx,h7,Fp,sA,ai⟩;have ad:=b5 0 rfl;have ab:=b5 3 rfl;simp only[bD,Nat.reduceAdd,Nat.reduceEqDiff,reduceIte,km,nW] at ad ab;clear b5;obtain⟨ug,tu,rfl,bS,iX⟩:=gx.form;have U:Ints aA _ st:=aJ.jN (enc:=encI) (sz:=1) (λ_=>rfl) gx;unfold maxLen at iX;refine eh (i_ ad (i_ ab (i_ bJ cr))) ?_;apply I_<;>intro g3;rotate_left
 .have a7:k=e.length:=Ad
  subst a7;rw[AE8] at h7;have h1:=Fp Ad;obtain⟨a,rfl⟩:=U.addr h1;have de:o.eval e v=if st.length > 1 then (0,5) else (st.headD 0,0):=by
   rw[o.eval,o.mY,if_neg Ad,if_neg Ad,h7,if_neg CC]
  rw[de];clear de;refine eh (i_ ad (i_ ab (i_ bJ cr))) ?_;apply I_<;>intro g4
  .refine aI ?_;rw[if_pos Ad];exact ca
  .refine eh (i_ ad (i_ ab (i_ bJ cr))) ?_;refine K_ 0 rfl Ad ?_;refine aI ?_;rw[if_neg Ad]
   have:st.headD 0=st[0]:=by
    cases st with
    | nil=>simp at h1
    | cons z st=>rfl
   rw[this];exact ca
 have a7:k<e.length:=Ad
 obtain⟨a,rfl⟩:=he.addr;have ny:=(he.at k a7).ok;have j8:=λad=>o.TP (f:=o.kH v) (e:=e) Ad a7 h7 ad;have Dm:=o.DQ a7 h7;have Fo:=ag.trans ai;have et:=ai.obj al;refine eh (i_ ad (i_ ab (i_ bJ cr))) ?_;refine J_ (afa e[k].op aA) ?_;rintro _ _ ⟨rfl,rfl⟩;generalize aw:o.fO e[k].op=n at *;have hc : -1<=n/\n<=2:=by rw[<-aw];unfold o.fO; (repeat' split)<;>omega
 refine eh (i_ ad (i_ ab (i_ bJ cr))) ?_;apply I_<;>intro g4
 .have aj:o.stepG (o.kH v) e[k] st=(3,st):=by unfold o.stepG;rw[aw,if_pos g4]
  rw[aj] at j8;refine aI ?_;rw[o.eval,j8 CC];exact ca
 refine eh (i_ ad (i_ ab (i_ bJ cr))) ?_;apply I_<;>intro g5
 .have aj:o.stepG (o.kH v) e[k] st=(4,st):=by unfold o.stepG;rw[aw,if_neg g4,if_pos g5]
  rw[aj] at j8;refine aI ?_;rw[o.eval,j8 CC];exact ca
 obtain⟨p,rfl⟩:=Nb (show 0<=n by omega);have k4:o.stepG (o.kH v) e[k] st=if (o.kH v e[k] st).2≠0 then ((o.kH v e[k] st).2,st) else if (st.take (st.length - p)++[(o.kH v e[k] st).1]).length > 12 then (12,st) else (0,st.take (st.length - p)++[(o.kH v e[k] st).1]):=by
  unfold o.stepG;rw[aw,if_neg g4,if_neg g5];simp only[Int.toNat_natCast]
 have mi:(st.take (st.length - p)++[(o.kH v e[k] st).1]).length=st.length - p+1:=by simp[List.length_take]
 rw[mi] at k4;have fin:p=0\/p=1\/p=2:=Ad
 rcases fin with AT | AT | AT
 case' inl =>
  have ay:=ajF (v:=v) (st:=st) (x:=e[k]) Ad;obtain⟨fQ,z2,z3,z4⟩:=MJ (x:=e[k].op) Ad;refine eh (i_ ad (i_ ab (i_ bJ cr))) ?_;refine T_ (c:=[_,_,_,_,_]) et (Ext.refl _) rfl ?_;refine eh (i_ ad (i_ ab (i_ bJ cr))) ?_;refine P_ _ (λw' e'=>asJ e[k] _ v w' ny (h.ext (Fo.trans e')) z3 (st.getLastD 0)) ?_;rw[<-ay];refine eh (i_ ad (i_ ab (i_ bJ cr))) ?_
 case' inr.inl =>
  have ay:=ajG (v:=v) (st:=st) (x:=e[k]) Ad Ad;obtain⟨nK,rfl⟩:=U.addr;refine eh (i_ ad (i_ ab (i_ bJ cr))) ?_;refine K_ (st.length - 1) Ad Ad ?_;refine eh (i_ ad (i_ ab (i_ bJ cr))) ?_;refine T_ (c:=[_,_,_,_,_]) et (Ext.refl _) rfl ?_;refine eh (i_ ad (i_ ab (i_ bJ cr))) ?_;refine P_ _ (λw' e'=>asq e[k] _ _ v w' (h.ext (Fo.trans e')) (adh Ad)) ?_;rw[<-ay];refine eh (i_ ad (i_ ab (i_ bJ cr))) ?_
 case' inr.inr =>
  have ay:=ajH (v:=v) (st:=st) (x:=e[k]) Ad Ad;obtain⟨nK,rfl⟩:=U.addr;refine eh (i_ ad (i_ ab (i_ bJ cr))) ?_;refine K_ (st.length - 2) Ad Ad ?_;refine eh (i_ ad (i_ ab (i_ bJ cr))) ?_;refine K_ (st.length - 1) Ad Ad ?_;refine eh (i_ ad (i_ ab (i_ bJ cr))) ?_;refine P_ _ (λw' e'=>arS e[k].op _ _ w' (MK Ad)) ?_;rw[<-ay];refine eh (i_ ad (i_ ab (i_ bJ cr))) ?_
 all_goals
  intro aM ah;refine eh (i_ ad (i_ ab (i_ bJ cr))) ?_;apply I_<;>intro g6;rotate_left
  .rw[if_pos g6] at k4;refine aI ?_;rw[o.eval,j8 (by rw[k4];exact g6),k4];exact ca
  rw[if_neg (by simpa using g6)] at k4;have eT:=gx.ext ah;refine eh (i_ ad (i_ ab (i_ bJ cr))) ?_;refine _D (cs:=[]) (by simp[List.range,List.range.loop,gC]) λaU c6 fT aq bo=>?_;have z12:=ai.size;have z23:=ah.size;have afL:=aq.size;have Qa:uG w1.heap.size aU (.slice (some ⟨c6,0,none⟩) 0 0) []:=aJ.empty Ad bo;have dD:=eT.ext aq;have dM:uG w1.heap.size aU (.slice _ (st.length - p) _) (st.take (st.length - p)):=aJ.head (enc:=encI) (sz:=1) (xs:=st) (λ_=>rfl) dD (st.length - p) (Nat.sub_le _ _);have cu:(st.take (st.length - p)).length=st.length - p:=by simp[List.length_take]
  refine eh (i_ ad (i_ ab (i_ bJ cr))) ?_;refine _i (st.length - p) (by simp -dsimp only[dg,cH,Nat.reduceAdd,Nat.reduceEqDiff,reduceIte,reduceCtorEq,dm,bJ];first | rfl | (congr 1;omega)) Ad ?_;refine aI ?_;refine _n (xs:=[]) (ys:=st.take (st.length - p)) Qa dM (λ_=>rfl) Jk (by rw[cu];simp only[List.length_nil];omega) (by rw[cu];simp only[List.length_nil,maxLen];omega) Ad λv5 bh AX mP=>?_;have F3:Ext aM bh:=aq.grown mP λq au=>by simp[Value.ownBlock] at au;omega
  rw[AF9] at AX;have z35:=F3.size;refine aI ?_;refine _D (cs:=[(o.kH v e[k] st).1].flatMap encI) (by simp[List.range,List.range.loop,gC,lay,dc,bD,Value.cells,encI]) λbq dC e5 aD bS=>?_;have UE:=aD.size;have dn:=AX.ext aD;refine aI ?_;refine _j (xs:=st.take (st.length - p)) (ys:=[(o.kH v e[k] st).1]) dn (λ_=>rfl) (im bS) rfl Jk (by rw[cu];simp only[List.length_cons,List.length_nil];omega) (by rw[cu];simp only[List.length_cons,List.length_nil,maxLen];omega) Ad λafp bH dU ko=>?_;have bc:Ext w1 bH:=Ext.grown (((ai.trans ah).trans F3).trans aD) ko λq au=>(dn.lt q au).1;obtain⟨ap5,qH,rfl,_⟩:=dU.form;rw[mi] at dU ⊢;by_cases g7:12<st.length - p+1
  .rw[if_pos Ad] at k4
   first
    | (exfalso;omega)
    | (refine aI ?_
       rw[o.eval,j8 (by rw[k4];simp),k4];exact⟨aK,ag.trans bc⟩)
  rw[if_neg Ad] at k4;refine eh cr ?_;refine⟨a7,aK,_,_,rfl,dU,by rw[Dm,k4],λ_=>by rw[mi];omega,by rw[mi];omega,bc⟩
end Go.Proofs.R
namespace o
open Go
def aj2{m:Model}(aL:ey m){s:C_ Int}(ay:Fits m s):∀x∈s,-9223372036854775808<=x/\x<=9223372036854775807:=λx af=>by
 obtain⟨i,U,rfl⟩:=List.mem_iff_getElem.1 af;have br:i<(cp m).length:=by have:=ay.len;unfold di at this;omega
 have h1:=ay.cell i U br;have I:=ahD aL _ (ED br);obtain⟨bx,bQ,bW⟩:=I;omega
structure Vs(v:Env):Prop where
 vars:∀l∈v.vars,∀x∈l,dX x
 lens:∀x∈v.lens,dX x
 locals:∀x∈v.locals,dX x
 at_:∀l∈v.at_,∀x∈l,dX x
 self:dX v.self
def PF{m:Model}(aL:ey m){s:C_ Int}(ay:Fits m s){q:Nat}(au:q<(insts m).length):Vs (cW m s q):=by
 have en:=aj2 aL ay;have tK:=(q5 _ (ED au)).elem;have gf:=xk aL;refine⟨λl aE x af=>?_,λx af=>?_,λx af=>?_,λl aE x af=>?_,?_⟩
 .simp only[cW,List.mem_map] at aE;obtain⟨k,_,rfl⟩:=aE;exact en x (List.mem_of_mem_drop (AJ9 af))
 .simp only[cW,List.mem_map] at af;obtain⟨k,_,rfl⟩:=af;rw[List.getElem!_eq_getElem?_getD];cases hk:s[b7 m k]? with
  | none=>simp[dX]
  | some y=>exact en y (List.mem_of_getElem? hk)
 .rw[(Hw s au rfl).1] at af;exact en x (List.mem_of_mem_drop (AJ9 af))
 .simp only[cW,List.mem_map] at aE;obtain⟨k,_,rfl⟩:=aE;unfold kE at af;obtain⟨d,_,rfl⟩:=List.mem_map.1 af
  have:=OR m s k d (insts m).length
  unfold dX;omega
 .rw[(Hw s au rfl).2];unfold dX;omega
end o
namespace a8
open Go Go.RowKit
def _k{b n k:Nat}{c:C_ B_}{ty:F_}{w:A_}{bj:B_->Prop}{t}(cs:C_ B_)(ak:w.heap[b]? = some (.cells c.toArray ty))(gu:(c.drop k).take n=cs)(aw:cs.length=n)(hk:bj (.agg cs.toArray)):x8 n (.pointer (some (Addr.add ⟨b,0,none⟩ k))) w bj t:=by
 refine Z_ (cs:=cs) (λj v az=>?_) aw hk;subst gu;rw[List.getElem?_take] at az;split at az
 .rw[List.getElem?_drop] at az;rw[add_add];exact fM ak (by simpa using az)
 .cases az
end a8
namespace Go.Proofs.R
open Go Go.RowKit a8
def Sz{w:A_}{v:B_}{l:C_ Int}(h:c9 w v l)(en:∀x∈l,o.dX x):ph w v l:=by
 obtain⟨aN,cap,e,h1,I,ab,aC⟩:=h.ex;exact⟨aN,cap,e,h1,I,ab,λa aY i U=>⟨aC a aY i U,en _ (ED U)⟩⟩
def ael{w:A_}{v:B_}{l:C_ (C_ Int)}(h:yb w v l)(en:∀r∈l,∀x∈r,o.dX x):v7 w v l:=by
 obtain⟨aN,cap,e,h1,I,ab,aC⟩:=h.ex;refine⟨aN,cap,e,h1,I,ab,λa aY i U=>?_⟩;obtain⟨u,hu,aw⟩:=aC a aY i U;exact⟨u,hu,Sz aw (en _ (ED U))⟩
def PE{w:A_}{cs:C_ B_}{x:o.Env}(h:N2 w cs x)(aQ:o.Vs x):o.qA w cs x:=by
 obtain⟨v0,v1,v2,v3,rfl,ad,h1,I,ab⟩:=h.ex;exact⟨v0,v1,v2,v3,rfl,ael ad aQ.vars,Sz h1 aQ.lens,Sz I aQ.locals,ael ab aQ.at_,aQ.self⟩
def Xb(base:Nat)(ae:H_ (C_ Int))(u:B_)(w:A_):Prop :=
 (ae=none/\u = .tuple #[.slice none 0 0,.bool false])\/(∃t lC,ae=some t/\u = .tuple #[lC,.bool true]/\iE base w lC t)
def arF(cs:C_ B_)(v bK bY:B_)(m:o.Model)(s:C_ Int)(q p:Nat)(a:o.Act)(w:A_)(h:pZ w cs m)(aG:m.cv)(aL:o.ey m)(aj:c9 w v s)(ay:o.Fits m s)(aP:o.fJ m q p)
  (U:o.eS w bK a.index)(aF:o.eS w bY a.value)(aY:o.nG (o.inner (m.procs[p]'(aP.ar)) (o.ev m)) a) :
  Du F.Me #[.agg cs.toArray,v,.I q,.agg (a.enc bK bY).toArray] w λu w'=>Xb w.heap.size (o.h0 m s q a) u w'/\Ext w w':=by
 have fg:=h;obtain⟨eH,d0,dK,d1,eg,d2,eD,d3,eU,d4,b0,bz,bO,c1,bT,c2,bV,bu,b1,bB,b8,ci,e9,gY,rfl,b4,py,dB,cP,cA,eI,fp,ad,h1,I,ab,akU,Qk⟩:=h.form;obtain⟨os,rG,rfl,acV⟩:=aj.form;obtain⟨Te,ez,rfl,xw⟩:=U.form;obtain⟨Bm,Ae,rfl,lvl⟩:=aF.form;have yX:=aY.kind;have hlen:=ay.len;have j4:o.di m<=64:=o.iG aL;have gf:=aL.gf;have au:=aP.au;have aww:=aP.zu aL;obtain⟨f6,f7,f8⟩:=o.pH m;obtain⟨sG,iv⟩:=o.oe au;have c8:=o.PF aL ay au;refine bl E.Me ?_;refine J ?_;intro w1 c6 fT ag bo;refine J ?_;intro aA h2 gZ ai bZ;replace bo:=ai.obj bo;have aH:=ag.trans ai;unfold o.Act.enc at bZ;refine J ?_;apply I_<;>intro g5
 .obtain⟨fh,dO⟩:=aY.chan (.inr g5);have dE:a.to.toNat<m.ax.length:=dO;have gG:a.to=(a.to.toNat:Nat):=Ad
  rw[gG] at bZ;refine J ?_;refine J_ (adX _ _ m s a.to.toNat aA (fg.ext aH) aL (aj.ext Flat.ext aH) hlen dE) ?_;rintro u aM ⟨hu,ah⟩;obtain⟨sY,nU,rfl,_⟩:=hu.form;have dL:(o.chanOf m s a.to.toNat).length=1+o.gF m a.to.toNat:=o.wz (by rw[hlen];exact o.oK dE);have Gs:=o.tv aL dE;have aby:=o.oK dE;obtain⟨eu,Gj⟩:=aY.recv g5;have Gi:a.loc.toNat<(m.procs[p]'(aP.ar)).vars.length:=Gj;have anO:=aP.room;have done:o.h0 m s q a=o.zr m s q a:=by unfold o.h0;rw[if_pos g5]
  rw[done];unfold o.zr;replace bo:=ah.obj bo;replace bZ:=ah.obj bZ;have aR:=aH.trans ah;refine J ?_;refine J_ (asD _ _ aM hu Ad) ?_;rintro u aU ⟨bR,aq⟩;replace bo:=aq.obj bo;replace bZ:=aq.obj bZ;have bn:=aR.trans aq;rcases bR with ⟨eG,rfl⟩ | ⟨r,x,vr,iZ,rfl,w9⟩
  .refine J ?_;exact⟨.inl ⟨by rw[eG],aK⟩,bn⟩
  obtain⟨aqw,aiv,rfl,_⟩:=w9.form;have hR:=o.Nr iZ;rw[iZ];obtain⟨pq,rfl⟩:=cA.addr;have xI:=cA.ext Flat.ext bn;refine J ?_;intro bh av;replace bo:=av.obj bo;replace bZ:=av.obj bZ;replace xI:=xI.ext Flat.ext av;have bC:=bn.trans av;refine J ?_;rw[iv];refine J ?_;refine J_ (aea _ _ _ m s r a.to.toNat bh (fg.ext bC) aL (aj.ext Flat.ext bC) ((kR w9).ext Flat.ext av) hlen dE Ad) ?_;rintro u bq ⟨dn,aD⟩;obtain⟨MP,IV,rfl,_⟩:=dn.form;have b6:=bC.trans aD;have kp:(o.jb s (o.b7 m a.to.toNat) r).length=o.di m:=by rw[o.GJ Ad];exact hlen
  refine⟨aD,?_⟩;refine J ?_;refine J_ (M5 _ _ m (o.jb s (o.b7 m a.to.toNat) r) (o.cU m q+1+a.loc.toNat) _ x bq (fg.ext b6) aL (kR dn) kp Ad Ad) ?_;rintro u bH ⟨bR,bc⟩;rcases bR with ⟨eG,rfl⟩ | ⟨t,lC,anW,rfl,od⟩
  .refine J ?_;exact⟨.inl ⟨eG,aK⟩,b6.trans bc⟩
  .obtain⟨ui,yy,rfl,_⟩:=od.form;refine J ?_;exact⟨.inr ⟨t,_,anW,rfl,aJ.low b6.size od⟩,b6.trans bc⟩
 .refine J ?_;refine _k [.slice eH m.scalars.length d0,.slice dK m.vars.length d1,.slice eg m.ax.length d2,.slice eD m.procs.length d3,.slice eU m.props.length d4] bo rfl rfl ?_;refine J ?_;refine _k [.slice b0 (o.layout m).vars.length bz,.slice bO (o.layout m).ax.length c1,.slice bT (o.layout m).insts.length c2,.I (o.layout m).cells,.slice bV (o.layout m).aV.length bu,.slice b1 (o.layout m).U.length bB] bo rfl rfl ?_;refine J ?_;refine J_ (aep _ _ _ m s q aA (b4.ext aH) aG aL (py.ext aH) (aj.ext Flat.ext aH) ay Ad Ad) ?_;rintro _ aM ⟨⟨es,rfl,aw⟩,ah⟩;have de:=PE aw.here c8;have JV:=de;obtain⟨a0,fh,db,cK,a2,cV,a3,fo,rfl,o7,c5,dA,ea,hg,_⟩:=de.form;replace bo:=ah.obj bo;replace bZ:=ah.obj bZ;have aR:=aH.trans ah;refine J ?_;intro aU b13 FI aq gr;replace bo:=aq.obj bo;replace bZ:=aq.obj bZ;have bn:=aR.trans aq;refine J ?_;refine J_ (TD _ a.value _ (o.cW m s q) aU (aF.ext bn) (JV.ext aq)) ?_;rintro _ bh ⟨rfl,av⟩;obtain⟨n,pC⟩:∃n,n=(o.eval a.value (o.cW m s q)).1:=⟨_,rfl⟩;obtain⟨e,oU⟩:∃e,e=(o.eval a.value (o.cW m s q)).2:=⟨_,rfl⟩;rw[<-pC,<-oU];replace bo:=av.obj bo;replace bZ:=av.obj bZ;replace gr:=av.obj gr;have bC:=bn.trans av;have fQ:=aH.size;refine J ?_;refine I_ (λvt=>?_) (λvt=>?_);rotate_left
  .refine J ?_;refine⟨.inl ⟨?_,aK⟩,bC⟩;unfold o.h0;rw[if_neg g5,<-oU,if_pos vt]
  have done:o.h0 m s q a=if a.kind=1 then o.putAt m s (o.fY m a.to.toNat) n else if a.kind=2 then o.xm m s a (o.eval a.index (o.cW m s q)) n else if a.kind=3 then o.putAt m s (o.cU m q+1+a.to.toNat) n else o.vJ m s a.to.toNat n:=by
   unfold o.h0;rw[if_neg g5,<-oU,if_neg (by simpa using vt),<-pC]
  rw[done];have q1:=aj.ext Flat.ext bC;have avH:=fg.ext bC;refine J ?_;apply I_<;>intro g1
  .obtain⟨fh,bU,dO,iw⟩:=aY.set g1;have hq:a.to.toNat<m.vars.length:=(List.getElem?_eq_some_iff.1 dO).1;obtain⟨dP,gk⟩:=o.ri hq;have n3:=o.D4 aL hq;have R6:=o.sb hq;have eC:=o.nq m;have Ro:=o.q8 hq;have al9:o.cells m.vars[a.to.toNat] m.scalars=1:=by
    have GB:m.vars[a.to.toNat]=bU:=(List.getElem?_eq_some_iff.1 dO).2;rw[GB];unfold o.cells;rw[if_pos iw]
   obtain⟨pq,rfl⟩:=dB.addr;have Br:=dB.ext Flat.ext bC;refine J ?_;intro bq aD;replace bo:=aD.obj bo;replace bZ:=aD.obj bZ;replace Br:=Br.ext Flat.ext aD;have b6:=bC.trans aD;refine J ?_;refine K_ a.to.toNat Ad Ad ?_;refine J ?_;refine J_ (M5 _ _ m s (o.fY m a.to.toNat) _ n bq (fg.ext b6) aL (aj.ext Flat.ext b6) hlen (by rw[gk]) Ad) ?_;rintro u bH ⟨bR,bc⟩;rcases bR with ⟨eG,rfl⟩ | ⟨t,lC,iZ,rfl,od⟩
   .refine J ?_;exact⟨.inl ⟨by rw[if_pos g1];exact eG,aK⟩,b6.trans bc⟩
   .obtain⟨ui,yy,rfl,_⟩:=od.form;refine J ?_;exact⟨.inr ⟨t,_,by rw[if_pos g1];exact iZ,rfl,aJ.low b6.size od⟩,b6.trans bc⟩
  refine J ?_;apply I_<;>intro g2
  .obtain⟨fh,GA,AL⟩:=aY.item g2;have hq:a.to.toNat<m.vars.length:=GA;obtain⟨dP,gk⟩:=o.ri hq;have R6:=o.sb hq;have eC:=o.nq m;have Ro:=o.q8 hq;have dL:=o.su m.vars[a.to.toNat] m.scalars;have an4:=o.T5 (s:=s) (inst:=(q:Int)) hq;have an7:=o.Ni m s q;obtain⟨an8,an9⟩:=List.getElem?_eq_some_iff.1 an4;have hR:((o.cW m s q).vars[a.to.toNat]).length=o.lu m a.to.toNat:=by rw[an9,Hs,AF4];omega
   obtain⟨pq,rfl⟩:=dB.addr;obtain⟨nO,rfl⟩:=o7.addr;obtain⟨vr,fD,kM⟩:=o7.at a.to.toNat an8;obtain⟨axx,avo,rfl,_⟩:=kM.form;rw[hR] at fD;refine J ?_;refine J_ (TD _ a.index _ (o.cW m s q) bh (U.ext bC) (JV.ext (aq.trans av))) ?_;rintro _ bq ⟨rfl,aD⟩;obtain⟨k,Ge⟩:∃k,k=(o.eval a.index (o.cW m s q)).1:=⟨_,rfl⟩;obtain⟨f,F7⟩:∃f,f=(o.eval a.index (o.cW m s q)).2:=⟨_,rfl⟩;have oV:∀n,o.xm m s a (o.eval a.index (o.cW m s q)) n=if f≠0\/k<1\/(o.lu m a.to.toNat:Int)<k then none else o.putAt m s (o.fY m a.to.toNat+k.toNat - 1) n:=λn=>by unfold o.xm;rw[<-Ge,<-F7]
   rw[oV,<-Ge,<-F7];clear oV;replace bo:=aD.obj bo;replace bZ:=aD.obj bZ;replace gr:=aD.obj gr;have b6:=bC.trans aD;have amj:=((aq.trans av).trans aD).cell fD;refine J ?_;refine I_ (λkO=>?_) (λkO=>?_);rotate_left
   .refine J ?_;exact⟨.inl ⟨by rw[if_neg g1,if_pos g2,if_pos (.inl kO)],aK⟩,b6⟩
   refine J ?_;refine I_ (λjM=>?_) (λjM=>?_)
   .refine J ?_;exact⟨.inl ⟨by rw[if_neg g1,if_pos g2,if_pos (.inr (.inl jM))],aK⟩,b6⟩
   refine J ?_;refine K_ a.to.toNat Ad Ad ?_;refine J ?_;refine M_ amj ?_;refine J ?_;refine I_ (λxn=>?_) (λxn=>?_)
   .refine J ?_;exact⟨.inl ⟨by rw[if_neg g1,if_pos g2,if_pos (.inr (.inr Ad))],aK⟩,b6⟩
   have adQ:=dB.ext Flat.ext b6;refine J ?_;intro bH bc;replace bo:=bc.obj bo;replace bZ:=bc.obj bZ;replace adQ:=adQ.ext Flat.ext bc;have cM:=b6.trans bc;refine J ?_;refine K_ a.to.toNat Ad Ad ?_;refine J ?_;refine J_ (M5 _ _ m s (o.fY m a.to.toNat+k.toNat - 1) _ n bH (fg.ext cM) aL (aj.ext Flat.ext cM) hlen (by rw[gk];omega) Ad) ?_;rintro u cB ⟨bR,bt⟩;rcases bR with ⟨eG,rfl⟩ | ⟨t,lC,iZ,rfl,od⟩
   .refine J ?_;exact⟨.inl ⟨by rw[if_neg g1,if_pos g2,if_neg Ad];exact eG,aK⟩,cM.trans bt⟩
   .obtain⟨ui,yy,rfl,_⟩:=od.form;refine J ?_;exact⟨.inr ⟨t,_,by rw[if_neg g1,if_pos g2,if_neg Ad];exact iZ,rfl,aJ.low cM.size od⟩,cM.trans bt⟩
  refine J ?_;apply I_<;>intro g3
  .obtain⟨fh,hq⟩:=aY.loc g3;have dE:a.to.toNat<(m.procs[p]'(aP.ar)).vars.length:=hq;have Gs:=aP.room;obtain⟨pq,rfl⟩:=cA.addr;have ot:=cA.ext Flat.ext bC;refine J ?_;intro bq aD;replace bo:=aD.obj bo;replace bZ:=aD.obj bZ;replace ot:=ot.ext Flat.ext aD;have b6:=bC.trans aD;refine J ?_;rw[iv];refine J ?_;refine J_ (M5 _ _ m s (o.cU m q+1+a.to.toNat) _ n bq (fg.ext b6) aL (aj.ext Flat.ext b6) hlen Ad Ad) ?_;rintro u bH ⟨bR,bc⟩;rcases bR with ⟨eG,rfl⟩ | ⟨t,lC,iZ,rfl,od⟩
   .refine J ?_;exact⟨.inl ⟨by rw[if_neg g1,if_neg g2,if_pos g3];exact eG,aK⟩,b6.trans bc⟩
   .obtain⟨ui,yy,rfl,_⟩:=od.form;refine J ?_;exact⟨.inr ⟨t,_,by rw[if_neg g1,if_neg g2,if_pos g3];exact iZ,rfl,aJ.low b6.size od⟩,b6.trans bc⟩
  have g4:a.kind=4:=Ad
  rw[if_neg g1,if_neg g2,if_neg g3];obtain⟨fh,hq⟩:=aY.chan (.inl g4);have dE:a.to.toNat<m.ax.length:=hq;have aax:=aL.chan _ (ED dE);obtain⟨nM,rfl⟩:=I.addr;have dH:=((I.at a.to.toNat dE).cells).ext bC;refine J ?_;refine K_ a.to.toNat Ad dE ?_;refine dS ?_;intro bq au9 avN aD QC;replace bo:=aD.obj bo;replace bZ:=aD.obj bZ;have b6:=bC.trans aD;refine dS ?_;simp -dsimp only[cH];refine dS ?_;intro bH bc;replace bo:=bc.obj bo;replace bZ:=bc.obj bZ;replace QC:=bc.obj QC;have cM:=b6.trans bc;have mj:=o.Pb aax gf.1;have J3:o.wx m a.to.toNat=o.e1 m.ax[a.to.toNat].scalar m.ax[a.to.toNat].aV m.ax[a.to.toNat].U m.scalars:=by unfold o.wx;rw[List.getElem?_eq_getElem dE]
  clear dH;unfold o.dZ.enc at QC;refine dS ?_;refine R_ [1,4,7,14,18] (λx:Int×Int=>[(19,.I x.1),(20,.I x.2)]) (λx W=>Ext bH W/\x.1=(o.wx m a.to.toNat).aV/\x.2=(o.wx m a.to.toNat).U) ?_ ?_
  .refine J ?_;refine I_ (λkO=>?_) (λkO=>?_)
   .have bA:=aax.k6.resolve_left Ad;obtain⟨j,az,aaW,Gc⟩:∃(j:Nat) (az:j<m.scalars.length),m.ax[a.to.toNat].scalar=(j:Int)+1/\o.size m.ax[a.to.toNat].scalar m.scalars=m.scalars[j].size:=by
     unfold o.size at bA ⊢;cases af:m.scalars[(m.ax[a.to.toNat].scalar - 1).toNat]? with
     | none=>rw[af] at bA;exact absurd rfl bA
     | some x =>
      rw[af] at bA;obtain⟨az,rfl⟩:=List.getElem?_eq_some_iff.1 af;simp only at bA ⊢;split at bA
      .rename_i cR;exact⟨_,az,Ad,by rw[if_pos cR]⟩
      .exact absurd rfl bA
    obtain⟨zW,rfl⟩:=ad.addr;have gu:=((ad.at j az).cells).ext cM;refine J ?_;refine K_ j Ad az ?_;refine J ?_;intro cB bt;refine J ?_;refine⟨(0,m.scalars[j].size),⟨rfl,rfl,trivial⟩,bt,?_,?_⟩
    .rw[J3];unfold o.e1;rw[if_neg Ad]
    .rw[J3];unfold o.e1;rw[if_neg Ad];exact Gc.symm
   .refine J ?_;refine⟨(m.ax[a.to.toNat].aV,m.ax[a.to.toNat].U),⟨rfl,rfl,trivial⟩,Ext.refl _,?_,?_⟩
    .rw[J3];unfold o.e1;rw[if_pos Ad]
    .rw[J3];unfold o.e1;rw[if_pos Ad]
  rintro⟨aV,cw⟩ S cB ⟨bt,hQ,tP⟩;simp only at hQ tP;replace bo:=bt.obj bo;replace bZ:=bt.obj bZ;have eN:=cM.trans bt;have HP:=eN.size;rw[show o.vJ m s a.to.toNat n=if n<aV\/cw<n then none else (o.nC (o.chanOf m s a.to.toNat) n).map (o.jb s (o.b7 m a.to.toNat)) from by unfold o.vJ;rw[<-hQ,<-tP]];refine J ?_;refine I_ (λkO=>?_) (λkO=>?_)
  .refine J ?_;exact⟨.inl ⟨by rw[if_pos (.inl kO)],aK⟩,eN⟩
  refine J ?_;refine I_ (λjM=>?_) (λjM=>?_)
  .refine J ?_;exact⟨.inl ⟨by rw[if_pos (.inr Ad)],aK⟩,eN⟩
  rw[if_neg Ad];have gG:a.to=(a.to.toNat:Nat):=Ad
  rw[gG] at bZ;have dL:(o.chanOf m s a.to.toNat).length=1+o.gF m a.to.toNat:=o.wz (by rw[hlen];exact o.oK dE);have Gs:=o.tv aL dE;refine J ?_;refine J_ (adX _ _ m s a.to.toNat cB (fg.ext eN) aL (aj.ext Flat.ext eN) hlen dE) ?_;rintro u cG ⟨hu,b2⟩;obtain⟨sY,nU,rfl,_⟩:=hu.form;replace bo:=b2.obj bo;replace bZ:=b2.obj bZ;have fW:=eN.trans b2;refine J ?_;refine J_ (asB _ _ n cG hu Ad) ?_;rintro u ew ⟨bR,cj⟩;replace bo:=cj.obj bo;replace bZ:=cj.obj bZ;have kF:=fW.trans cj;rcases bR with ⟨eG,rfl⟩ | ⟨r,vr,iZ,rfl,w9⟩
  .refine J ?_;exact⟨.inl ⟨by rw[eG];rfl,aK⟩,kF⟩
  .obtain⟨aqw,aiv,rfl,_⟩:=w9.form;have hR:=o.MU iZ;refine J ?_;refine J_ (aea _ _ _ m s r a.to.toNat ew (fg.ext kF) aL (aj.ext Flat.ext kF) (kR w9) hlen dE Ad) ?_;rintro u fB ⟨oX,ek⟩;obtain⟨MP,IV,rfl,_⟩:=oX.form;refine J ?_;exact⟨.inr ⟨_,_,by rw[iZ];rfl,rfl,aJ.low kF.size oX⟩,kF.trans ek⟩
end Go.Proofs.R
namespace o
open Go
def OI(m:Model)(q:Nat)(l:C_ Act)(s:C_ Int){k:Nat}(hk:k<l.length):lf m q (l.take (k+1)) s=match lf m q (l.take k) s with | none=>none | some t=>h0 m t q l[k]:=by
 rw[Iu hk,XA]<;>rfl
theorem OH(m:Model)(q:Nat):∀(l:C_ Act) (s:C_ Int) (k:Nat),lf m q (l.take k) s=none->lf m q l s=none
 | [],s,k,h=>by simp[lf] at h
 | a :: l,s,0,h=>by simp[lf] at h
 | a :: l,s,k+1,h=>by
  simp only[List.take_succ_cons,lf] at h ⊢;cases h1:h0 m s q a with
  | none=>rfl
  | some t=>rw[h1] at h;exact OH m q l t k h
end o
namespace Go.Proofs.R
open Go Go.RowKit a8
def arM(cs:C_ B_)(v:B_)(m:o.Model)(s:C_ Int)(ref:Int)(q p k:Nat)(w:A_)(h:pZ w cs m)(aG:m.cv)(aj:c9 w v s)(ay:o.Fits m s)(bw:o.fa m ref q p k) :
  Du F.Mi #[.agg cs.toArray,v,.I ref] w λu w'=>Xb w.heap.size (o.hJ m s q (o.bN m p k)) u w'/\Ext w w':=by
 have fg:=h;have aL:=o.hE bw.ok;obtain⟨eH,d0,dK,d1,eg,d2,eD,d3,eU,d4,b0,bz,bO,c1,bT,c2,bV,bu,b1,bB,b8,ci,e9,gY,rfl,b4,py,dB,cP,cA,eI,fp,ad,h1,I,ab,akU,Qk⟩:=h.form;obtain⟨os,rG,rfl,acV⟩:=aj.form;have aP:=bw.inst;have iW:=bw.cin;have p9:=iW.gf;have au:=aP.au;have hlen:=ay.len;have j4:o.di m<=64:=o.iG aL;have ve:=aP.room;obtain⟨r,rfl⟩:=Nb bw.aV;have aS:r<(o.refs m).length:=bw.U;have fk:(o.refs m)[r].inst=(q:Int):=bw.at_.mX;have j7:(o.refs m)[r].cmd=(k:Int):=bw.at_.pI;obtain⟨sG,iv⟩:=o.oe au;obtain⟨l7,rfl⟩:=Qk.addr;obtain⟨a2,rfl⟩:=cA.addr;obtain⟨Iv,rfl⟩:=aj.addr;have c8:=o.PF aL ay au;obtain⟨c,tI⟩:∃c,c=o.bN m p k:=⟨_,rfl⟩;rw[<-tI] at iW p9 ⊢;refine bl E.Mi ?_;refine J ?_;intro w1 bW eX ag ba;have ald:=Qk.ext Flat.ext ag;refine J ?_;intro aA jZ mc ai cD;have pt:(o.refs m)[r].enc=[.I q,.I k]:=by unfold o.Ref.enc;rw[fk,j7]
 rw[pt] at cD;replace ba:=ai.obj ba;have aH:=ag.trans ai;clear ald;refine J ?_;refine J_ (arH _ m r q p k aA (fg.ext aH) bw) ?_;rintro _ aM ⟨⟨fi,va,rfl,gi,fb⟩,ah⟩;rw[<-tI] at gi fb ⊢;obtain⟨fA,fL,rfl,_⟩:=gi.form;obtain⟨oq,nP,rfl,_⟩:=fb.form;replace ba:=ah.obj ba;replace cD:=ah.obj cD;have aR:=aH.trans ah;unfold o.dI.enc;refine J ?_;intro aU b9 lN aq cE;replace ba:=aq.obj ba;replace cD:=aq.obj cD;have bn:=aR.trans aq;have kN:=aj.ext Flat.ext bn;have xI:=cA.ext Flat.ext bn;have abj:=gi.ext (ah.trans aq);have abh:=fb.ext (ah.trans aq);clear gi fb;refine J ?_;refine K_ (o.cU m q) (by rw[iv]) Ad ?_;refine J ?_;intro bh av;replace ba:=av.obj ba;replace cD:=av.obj cD;replace cE:=av.obj cE;have bC:=bn.trans av;have Rv:=abj.ext av;have Di:=abh.ext av;have sJ:s[o.cU m q]? = some (s[o.cU m q]' Ad):=List.getElem?_eq_getElem Ad;clear abj abh kN xI;refine dS ?_;apply I_<;>intro g1;rotate_left
 .refine J ?_;exact⟨.inl ⟨by unfold o.hJ;rw[sJ,if_pos (by simpa using g1)],aK⟩,bC⟩
 have rP:o.hJ m s q c=if 0<c.guard.length/\((o.eval c.guard (o.cW m s q)).2≠0\/(o.eval c.guard (o.cW m s q)).1=0) then none else (o.lf m q c.bP s).map λt=>t.set (o.cU m q) c.to:=by
  unfold o.hJ;rw[sJ,if_neg (by simpa using g1)]
 have alR:=ba;have al2:=cD;have u5:=cE;refine dS ?_;refine R_ [1,3,8,9] (λ_:Unit=>[]) (λ_ W=>Ext bh W/\¬(0<c.guard.length/\((o.eval c.guard (o.cW m s q)).2≠0\/(o.eval c.guard (o.cW m s q)).1=0))) ?_ ?_
 .refine J ?_;apply I_<;>intro g2;rotate_left
  .refine J ?_;exact⟨(),trivial,Ext.refl _,λcR=>Ad⟩
  have q1:=aj.ext Flat.ext bC;refine J ?_;intro bq aD;replace ba:=aD.obj ba;replace cD:=aD.obj cD;replace cE:=aD.obj cE;have b6:=bC.trans aD;refine J ?_;refine _k [.slice eH m.scalars.length d0,.slice dK m.vars.length d1,.slice eg m.ax.length d2,.slice eD m.procs.length d3,.slice eU m.props.length d4] ba rfl rfl ?_;refine J ?_;refine _k [.slice b0 (o.layout m).vars.length bz,.slice bO (o.layout m).ax.length c1,.slice (some a2) (o.layout m).insts.length c2,.I (o.layout m).cells,.slice bV (o.layout m).aV.length bu,.slice b1 (o.layout m).U.length bB] ba rfl rfl ?_;refine J ?_;refine J_ (aep _ _ _ m s q bq (b4.ext b6) aG aL (py.ext b6) (aj.ext Flat.ext b6) ay Ad Ad) ?_;rintro _ bH ⟨⟨es,rfl,aw⟩,bc⟩;have de:=PE aw.here c8;refine⟨bc,?_⟩;refine J ?_;refine J_ (TD _ c.guard _ (o.cW m s q) bH (Rv.ext (aD.trans bc)) de) ?_;rintro _ cB ⟨rfl,bt⟩;obtain⟨n,pC⟩:∃n,n=(o.eval c.guard (o.cW m s q)).1:=⟨_,rfl⟩;obtain⟨e,oU⟩:∃e,e=(o.eval c.guard (o.cW m s q)).2:=⟨_,rfl⟩;rw[<-pC,<-oU];rw[<-pC,<-oU] at rP;have eN:=(b6.trans bc).trans bt;refine J ?_;refine I_ (λkO=>?_) (λkO=>?_);rotate_left
  .refine J ?_;exact⟨.inl ⟨by rw[rP,if_pos ⟨Ad,.inl kO⟩],aK⟩,eN⟩
  refine J ?_;refine I_ (λjM=>?_) (λjM=>?_)
  .refine J ?_;exact⟨.inl ⟨by rw[rP,if_pos ⟨Ad,.inr jM⟩],aK⟩,eN⟩
  .refine J ?_;exact⟨(),trivial,(aD.trans bc).trans bt,λcR=>by rcases cR.2 with h | h;exact h kO;exact jM h⟩
 clear ba cD cE;rintro _ S bq ⟨aD,tO⟩;have hN:o.hJ m s q c=(o.lf m q c.bP s).map λt=>t.set (o.cU m q) c.to:=by rw[rP,if_neg tO]
 rw[hN];clear rP tO hN;have cE:=aD.obj u5;refine J ?_;refine L_ 13 c.bP.length [1,3,8,9] (λv:fy=>[(12,.slice v.1 v.2.1 v.2.2)]) (some Iv,s.length,rG) (λn v W=>Ext bh W/\∃t,o.lf m q (c.bP.take n) s=some t/\c9 W (.slice v.1 v.2.1 v.2.2) t/\o.Fits m t) a6 a6 ⟨aD,s,rfl,aj.ext Flat.ext (bC.trans aD),ay⟩ ?_;clear cE aD;rintro n lC aZ bH aw ⟨bc,t,aB,AV,rS⟩;have ba:=bc.obj alR;have cD:=bc.obj al2;have cE:=bc.obj u5;have ang:=Di.ext bc;have cM:=bC.trans bc;refine J ?_;apply I_<;>intro g2
 .have hc:n<c.bP.length:=Ad
  obtain⟨tk,rfl⟩:=Di.addr;obtain⟨bK,bY,nv,ob,qd⟩:=ang.at n hc;have p5:=iW.act n hc;obtain⟨axt,avn,rfl,_⟩:=ob.form;obtain⟨axu,Cp,rfl,_⟩:=qd.form;refine J ?_;intro cB bt;replace ba:=bt.obj ba;replace cD:=bt.obj cD;replace cE:=bt.obj cE;replace nv:=nv.ext bt;have eN:=cM.trans bt;refine J ?_;refine J_ (arF _ _ _ _ m t q p c.bP[n] cB (fg.ext eN) aG aL (AV.ext Flat.ext bt) rS aP (ob.ext bt) (qd.ext bt) p5) ?_;rintro u cG ⟨bR,b2⟩;have KE:=o.OI m q c.bP s hc;rw[aB] at KE;simp only at KE;rcases bR with ⟨eG,rfl⟩ | ⟨hW,axS,iZ,rfl,od⟩
  .refine J ?_;exact⟨.inl ⟨by rw[o.OH m q c.bP s (n+1) (KE.trans eG)];rfl,aK⟩,eN.trans b2⟩
  .obtain⟨ui,yy,rfl,_⟩:=od.form;refine J ?_;exact⟨hc,aK,(ui,_,yy),⟨rfl,trivial⟩,(bc.trans bt).trans b2,hW,KE.trans iZ,kR od,o.Xz aL aP p5 rS iZ⟩
 .have vj:n=c.bP.length:=Ad
  subst vj;rw[AE8] at aB;rw[aB];obtain⟨pb,nF,dV⟩:=lC;obtain⟨_,_,awE,_⟩:=AV.form;have cu:=rS.len;have adT:=cA.ext Flat.ext cM;refine J ?_;intro cB bt;replace ba:=bt.obj ba;replace cD:=bt.obj cD;replace cE:=bt.obj cE;replace adT:=adT.ext Flat.ext bt;have eN:=cM.trans bt;refine J ?_;refine J_ (adZ _ t (o.cU m q) c.to _ (AV.ext Flat.ext bt) (by rw[iv]) Ad Ad) ?_;rintro u cG ⟨fu,b2⟩;obtain⟨MP,IV,rfl,_⟩:=fu.form;refine J ?_;exact⟨.inr ⟨_,_,rfl,rfl,aJ.low eN.size fu⟩,eN.trans b2⟩
end Go.Proofs.R
namespace o
open Go
def lost(m:Model)(s t:C_ Int)(c:dI):C_ Int:=jb t (b7 m (comm c.bP).2.toNat) (chanOf m s (comm c.bP).2.toNat)
structure H0(m:Model)(s:List Int)(ref k9:Int)(t:List Int)(e:Int):Prop where
 f0:¬(iN m s/\Told m ref)->t=[]/\e=2
 f1:∀q p k,iN m s->fa m ref q p k->¬(0<=k9/\k9<ways (bN m p k) m.ax)->t=[]/\e=2
 f2:∀q p k,iN m s->fa m ref q p k->0<=k9/\k9<ways (bN m p k) m.ax->hJ m s q (bN m p k)=none->t=[]/\e=15
 f3:∀q p k u,iN m s->fa m ref q p k->0<=k9/\k9<ways (bN m p k) m.ax->hJ m s q (bN m p k)=some u->t=(if k9=1 then lost m s u (bN m p k) else u)/\e=0
theorem H0.none{m:Model}{s:C_ Int}{ref k9:Int}{q p k:Nat}(an:fa m ref q p k)(aS:iN m s)(hw:0<=k9/\k9<ways (bN m p k) m.ax)(h:hJ m s q (bN m p k)=Option.none):H0 m s ref k9 [] 15 :=
 ⟨λaw=>absurd ⟨aS,an.told⟩ aw,λeK gA k' _ qR aw=>(by obtain⟨rfl,rfl,rfl⟩:=an.one qR;exact absurd hw aw),λ_ _ _ _ _ _ _=>⟨rfl,rfl⟩,λeK gA k' u _ qR _ hu=>by obtain⟨rfl,rfl,rfl⟩:=an.one qR;rw[h] at hu;cases hu⟩
theorem H0.some{m:Model}{s u:C_ Int}{ref k9:Int}{q p k:Nat}(an:fa m ref q p k)(aS:iN m s)(hw:0<=k9/\k9<ways (bN m p k) m.ax)(h:hJ m s q (bN m p k)=Option.some u):H0 m s ref k9 (if k9=1 then lost m s u (bN m p k) else u) 0 :=
 ⟨λaw=>absurd ⟨aS,an.told⟩ aw,λeK gA k' _ qR aw=>(by obtain⟨rfl,rfl,rfl⟩:=an.one qR;exact absurd hw aw),λeK gA k' _ qR _ hu=>(by obtain⟨rfl,rfl,rfl⟩:=an.one qR;rw[h] at hu;cases hu),
  λeK gA k' kS _ qR _ hu=>by obtain⟨rfl,rfl,rfl⟩:=an.one qR;rw[h] at hu;injection hu with hu;subst hu;exact⟨rfl,rfl⟩⟩
def auw{c:dI}{l:C_ dZ}(h:1<ways c l):∃j:Nat,(comm c.bP).2=j/\j<l.length/\(comm c.bP).1=4:=by
 unfold ways at h;split at h
 .rename_i aC;cases aw:nth l (comm c.bP).2 with
  | none=>rw[aw] at h;simp at h
  | some x =>
   obtain⟨ad,_,h1⟩:=xB aw;exact⟨(comm c.bP).2.toNat,Ad,h1,aC⟩
 .omega
def aih{m:Model}{s t:C_ Int}{ref:Int}{q p k:Nat}(bw:fa m ref q p k)(ay:Fits m s)(h:hJ m s q (bN m p k)=some t):t.length=di m :=
 (aii bw.inst.au rfl bw.cin ay.len h).1.trans ay.len
end o
namespace Go.Proofs.R
open Go Go.RowKit a8
def arL(cs:C_ B_)(v:B_)(m:o.Model)(s:C_ Int)(w:A_)(h:pZ w cs m)(aL:o.ey m)(aj:c9 w v s) :
  Du F.Md #[.agg cs.toArray,v] w λu w'=>(∃t:Bool,u = .bool t/\(t=true↔o.Fits m s))/\Ext w w':=by
 obtain⟨eH,d0,dK,d1,eg,d2,eD,d3,eU,d4,b0,bz,bO,c1,bT,c2,bV,bu,b1,bB,b8,ci,e9,gY,rfl,b4,py,_⟩:=h.form;obtain⟨os,rG,rfl,acV⟩:=aj.form;refine bl E.Md ?_;refine J ?_;intro w1 bQ c7 ag ao;refine J ?_;refine _k [.slice eH m.scalars.length d0,.slice dK m.vars.length d1,.slice eg m.ax.length d2,.slice eD m.procs.length d3,.slice eU m.props.length d4] ao rfl rfl ?_;refine J ?_;refine _k [.slice b0 (o.layout m).vars.length bz,.slice bO (o.layout m).ax.length c1,.slice bT (o.layout m).insts.length c2,.I (o.layout m).cells,.slice bV (o.layout m).aV.length bu,.slice b1 (o.layout m).U.length bB] ao rfl rfl ?_;refine J ?_;refine J_ (adU _ _ m _ s w1 (b4.ext ag) (py.ext ag) aL (aj.ext Flat.ext ag)) ?_;rintro _ aA ⟨⟨t,rfl,aB⟩,ai⟩;refine J ?_;exact⟨⟨t,rfl,aB⟩,ag.trans ai⟩
end Go.Proofs.R
namespace o
open Go
theorem XE{s:Scope}:∀(l:C_ Act) (i:Nat) (t:Bool),(lg s l i t).2=0->∀k (h:k<l.length),kX l[k] s=0
 | [],_,_,_,k,h=>by simp at h
 | a :: r,i,t,h,k,hk=>by
  unfold lg at h;by_cases h1:(ib a&&t)=true
  .rw[if_pos h1] at h;cases h
  rw[if_neg h1] at h;by_cases I:kX a s≠0
  .rw[if_pos I] at h;exact absurd h I
  rw[if_neg I] at h;cases k with
  | zero=>simpa using I
  | succ k=>exact XE r _ _ h k (by simpa using hk)
structure afR(m:Model)(p:Nat)(c:dI):Prop where
 act:∀k (h:k<c.bP.length),∀ar:p<m.procs.length,kX c.bP[k] (inner m.procs[p] (ev m))=0
 to:∀ar:p<m.procs.length,0<=c.to/\c.to<m.procs[p].cm
def aik{m:Model}(h:(check m).cJ=0){p k:Nat}(ar:p<m.procs.length)(hk:k<m.procs[p].c0.length):afR m p m.procs[p].c0[k]:=by
 obtain⟨dK,_,_⟩:=Tn (Yg h);obtain⟨_,cK,_,_⟩:=Fc ar (dK p ar);obtain⟨_,_,hC⟩:=adC cK;have e:hv m (p:Int)=inner m.procs[p] (ev m):=by
  unfold hv;rw[jd Ad Ad];rfl
 have a1:=(Pg _ _ hC k hk).1;rw[e] at a1;unfold j0 at a1;by_cases h1:head m.procs[p].c0[k] m.procs[p].cm≠0
 .rw[if_pos h1] at a1;exact absurd a1 h1
 rw[if_neg h1] at a1;have a1:(lg (inner m.procs[p] (ev m)) m.procs[p].c0[k].bP 0 false).2=0:=by
  split at a1
  .rename_i cR;exact absurd a1 cR.2
  .exact a1
 refine⟨λj az _=>XE _ _ _ a1 j az,λ_=>?_⟩;have h1:head m.procs[p].c0[k] m.procs[p].cm=0:=by simpa using h1
 unfold head at h1;by_cases c5:isName m.procs[p].c0[k].name=false
 .rw[if_pos c5] at h1;cases h1
 rw[if_neg c5] at h1;by_cases dA:m.procs[p].c0[k].from_<0\/m.procs[p].cm<=m.procs[p].c0[k].from_\/m.procs[p].c0[k].to<0\/m.procs[p].cm<=m.procs[p].c0[k].to
 .rw[if_pos dA] at h1;cases h1
 omega
theorem abZ{m:Model}:∀(l:C_ dt) (i:Nat),l=m.procs.drop i->∀x∈j9 m l i,∃(p:Nat) (h:p<m.procs.length),x.proc=p/\(m.procs[p].over≠0->x.elem<=elems m m.procs[p])
 | [],_,_,x,af=>by simp[j9] at af
 | p :: r,i,h,x,af=>by
  have U:i<m.procs.length:=by
   apply Classical.byContradiction;intro aw;rw[AE9 Ad] at h;cases h
  rw[AF0 U] at h;injection h with h1 I
  simp only[j9,List.mem_append] at af;rcases af with (af | af) | af
  .unfold jA at af;split at af
   .rename_i ad;rw[AF2] at af;subst af;exact⟨i,U,rfl,λaw=>absurd (h1 ▸ ad) aw⟩
   .cases af
  .unfold kb at af;obtain⟨k,hk,rfl⟩:=List.mem_map.1 af
   have:=List.mem_range.1 hk
   refine⟨i,U,rfl,λ_=>?_⟩;rw[<-h1];simp only;omega
  .exact abZ r (i+1) I x af
def fJ.apB{m:Model}{q p:Nat}(h:fJ m q p):(m.procs[p]'(h.ar)).over≠0->((insts m)[q]'(h.au)).elem<=elems m (m.procs[p]'(h.ar)):=by
 obtain⟨gA,abm,e,h1⟩:=abZ m.procs 0 CC _ (ED h.au);have I:=h.eq;have aH:((gA:Nat):Int)=p:=by
  have:((insts m)[q]'(h.au)).proc=(gA:Int):=e
  rw[<-this,I]
 have:gA=p:=Ad
 subst this;exact h1
theorem aiX{m:Model}{p:dt}(h:elems m p≠0):(elems m p:Int)=size p.over m.scalars:=by
 unfold elems at h ⊢;cases aw:nth m.scalars (p.over - 1) with
 | none=>rw[aw] at h;exact absurd rfl h
 | some x =>
  rw[aw] at h;obtain⟨ad,h1,_⟩:=xB aw;simp only at h ⊢;unfold size;rw[h1];split at h
  .exact absurd rfl h
  .rename_i cR;rw[if_neg cR];simp only;rw[if_pos Ad];omega
def aoG{x:Node}{s:Scope}(h:x.op=5)(h1:1<=s.self/\s.self<=s.scalars.length):kind [x] s=(1+s.self,0):=by
 have aw:fO x.op=0:=by rw[h];decide
 have ay:fX s x []=(1+s.self,0):=by
  unfold fX;rw[h];simp[hf,jy,mU,h,h1]
 unfold kind mY gm;simp only[List.length_singleton,stepG,aw,ay];simp[gm]
theorem agw{m:Model}{p:Nat}(ar:p<m.procs.length){a:Act}(h:kX a (inner m.procs[p] (ev m))=0)(I:a.kind=2)(aj:pL a=true):∃v,m.vars[a.to.toNat]? = some v/\v.over=m.procs[p].over:=by
 obtain⟨x,af,a1⟩:∃x,a.index=[x]/\x.op=5:=by
  unfold pL at aj;split at aj
  .rename_i x af;exact⟨x,af,by simpa using aj⟩
  .cases aj
 have en:=OG h;have abB:=((en.item I).2.2.node 0 (by rw[af];simp)).1.self (by simp[af,a1]);unfold kX at h;rw[if_pos Ad] at h;rw[if_neg (by omega:¬a.kind=3)] at h;cases bb:declared (inner m.procs[p] (ev m)).vars a.to (inner m.procs[p] (ev m)) with
 | none=>rw[bb] at h;cases h
 | some zp =>
  rw[bb] at h;obtain⟨v,k⟩:=zp;obtain⟨_,d2,_⟩:=Pt bb;simp only at h;by_cases ab:(v.over≠0)≠(a.kind=2)
  .rw[if_pos ab] at h;cases h
  rw[if_neg ab] at h;by_cases aC:a.kind=2/\asked a.index (1+v.over) (inner m.procs[p] (ev m))≠0
  .rw[if_pos aC] at h;exact absurd h aC.2
  have bJ:asked a.index (1+v.over) (inner m.procs[p] (ev m))=0:=Classical.byContradiction λaw=>aC ⟨I,aw⟩;refine⟨v,d2,?_⟩;unfold asked at bJ;rw[af,aoG a1 abB] at bJ;simp only[ne_eq,not_true_eq_false,if_false] at bJ;split at bJ
  .cases bJ
  .rename_i cR
   have:(inner m.procs[p] (ev m)).self=m.procs[p].over:=rfl
   omega
theorem aow{m:Model}{q p:Nat}(aP:fJ m q p){v:Nat}(aF:v<m.vars.length){own:Bool}(aQ:own=true->m.vars[v].over=(m.procs[p]'(aP.ar)).over/\(m.procs[p]'(aP.ar)).over≠0):∀x∈mm m q v own,0<=x/\x<di m:=λx af=>by
 have h1:=sb aF;have I:=q8 aF;have ab:=nq m;unfold mm at af;cases own with
 | false =>
  rw[if_neg CC] at af
  have:=qq.1 af
  omega
 | true =>
  obtain⟨bO,bT⟩:=aQ rfl;rw[if_pos rfl] at af;have af:=qq.1 af;have bF:=aP.elem bT;have aH:=aP.apB bT;have aR:=aiX (m:=m) (p:=m.procs[p]'(aP.ar)) Ad;have bn:=E6 aP.au;have bC:cells m.vars[v] m.scalars=size (m.procs[p]'(aP.ar)).over m.scalars:=by unfold cells;rw[if_neg Ad,bO]
  omega
def agu{m:Model}{q p:Nat}(aP:fJ m q p){a:Act}(de:kX a (inner (m.procs[p]'(aP.ar)) (ev m))=0):∀x∈jY m q a,0<=x/\x<di m:=λx af=>by
 have aY:=OG de;have sO:=aP.room;have ab:=nq m;unfold jY at af;by_cases h1:a.kind=1
 .rw[if_pos h1] at af;obtain⟨_,v,aF,iw⟩:=aY.set h1;have hq:a.to.toNat<m.vars.length:=(List.getElem?_eq_some_iff.1 aF).1;have dE:m.vars[a.to.toNat]=v:=(List.getElem?_eq_some_iff.1 aF).2
  have:=sb hq
  have e:cells m.vars[a.to.toNat] m.scalars=1:=by rw[dE];unfold cells;rw[if_pos iw]
  have:=qq.1 af
  omega
 rw[if_neg h1] at af;by_cases I:a.kind=2
 .rw[if_pos I] at af;have hq:a.to.toNat<m.vars.length:=(aY.item I).2.1;refine aow aP hq (λaj=>?_) x af;obtain⟨v,aF,aQ⟩:=agw aP.ar de I aj;obtain⟨_,dE⟩:=List.getElem?_eq_some_iff.1 aF;obtain⟨y,bE,a1⟩:∃y,a.index=[y]/\y.op=5:=by
   unfold pL at aj;split at aj
   .rename_i y bE;exact⟨y,bE,by simpa using aj⟩
   .cases aj
  have abB:=((aY.item I).2.2.node 0 (by rw[bE];simp)).1.self (by simp[bE,a1])
  have:(inner (m.procs[p]'(aP.ar)) (ev m)).self=(m.procs[p]'(aP.ar)).over:=rfl
  exact⟨by rw[dE];exact aQ,Ad⟩
 rw[if_neg I] at af;by_cases Aq:a.kind=3
 .rw[if_pos Aq] at af;have a1:a.to.toNat<(m.procs[p]'(aP.ar)).vars.length:=(aY.loc Aq).2
  have:=qq.1 af
  omega
 rw[if_neg Aq] at af;by_cases aC:a.kind=4
 .rw[if_pos aC] at af
  have:=oK (m:=m) (aY.chan (.inl aC)).2
  have:=qq.1 af
  omega
 rw[if_neg aC] at af;by_cases a1:a.kind=5
 .rw[if_pos a1] at af;have bJ:a.loc.toNat<(m.procs[p]'(aP.ar)).vars.length:=(aY.recv a1).2
  have:=oK (m:=m) (aY.chan (.inr a1)).2
  rcases List.mem_append.1 af with af | af
  .have:=qq.1 af;omega
  .have:=qq.1 af;omega
 .rw[if_neg a1] at af;cases af
def auL{m:Model}{ref:Int}{q p k:Nat}(bw:fa m ref q p k):∀x∈kg m q (bN m p k) (bN m p k).bP.length,0<=x/\x<di m:=λx af=>by
 have aP:=bw.inst;have abf:=aik bw.ok bw.at_.ar bw.at_.hk;rw[<-sv bw.at_.ar bw.at_.hk] at abf;have sO:=aP.room;unfold kg at af;rw[AE8] at af;rcases List.mem_append.1 af with af | af
 .have:=qq.1 af;omega
 .obtain⟨a,aY,Sk⟩:=List.mem_flatMap.1 af;obtain⟨j,az,rfl⟩:=List.mem_iff_getElem.1 aY;exact agu aP (abf.act j az aP.ar) x Sk
def aps:C_ Node:=[⟨1,0⟩,⟨1,0⟩,⟨14,0⟩]
def more(m:Model)(s:ByteArray):Model:=⟨m.scalars,m.vars,m.ax,m.procs,m.props++[⟨s,aps⟩]⟩
def Pd{m:Model}(h:(check m).cJ=0):(data m).cJ=0/\(mV m).cJ=0/\(qj m).cJ=0:=by
 unfold check at h;by_cases h1:(data m).cJ≠0
 .rw[if_pos h1] at h;exact absurd h h1
 rw[if_neg h1] at h;by_cases I:(mV m).cJ≠0
 .rw[if_pos I] at h;exact absurd h I
 rw[if_neg I] at h;exact⟨by simpa using h1,by simpa using I,h⟩
def adD{m:Model}(h:(check m).cJ=0):m.props.length<=8:=by
 obtain⟨_,_,ab⟩:=Pd h;have aS:=MQ ab;refine Classical.byContradiction λaw=>?_;have dp:=aS 8 Ad;rw[Fe Ad,if_pos Ad] at dp;cases dp
def To{m:Model}(h:(check m).cJ=0){j:Nat}(az:j<m.props.length):ta (ev m) m.props[j].expr:=by
 obtain⟨_,_,ab⟩:=Pd h;have dp:=MQ ab j az;rw[Fe az] at dp;refine acp (Classical.byContradiction λaw=>?_)
 repeat' split at dp
 all_goals first | omega | (exact absurd dp aw) | skip
 all_goals contradiction
def s3(m:Model):C_ Int:=m.props.flatMap λp=>xF m p.expr
def jC(m:Model):C_ Bool:=if (check m).cJ=0 then (List.range (di m)).map λ(c:Nat)=>decide ((c:Int)∈s3 m) else []
structure oE(n:Nat)(L:List Int)(ae:List Bool):Prop where
 len:ae.length=n
 at_:∀(c:Nat) (h:c<ae.length),ae[c]=decide ((c:Int)∈L)
def oE.start(n:Nat):oE n [] (List.replicate n false):=⟨CC,λc h=>CC⟩
theorem oE.put{n c:Nat}{L:C_ Int}{ae:C_ Bool}(h:oE n L ae)(an:c<n):oE n (L++[(c:Int)]) (ae.set c true):=by
 refine⟨by rw[XK];exact h.len,λd bb=>?_⟩;rw[XK] at bb;rw[List.getElem_set];by_cases e:c=d
 .subst e;simp
 .rw[if_neg e,h.at_ d bb]
  have:¬(d:Int)=(c:Int):=Ad
  simp[this]
def oE.congr{n:Nat}{L nI:C_ Int}{ae:C_ Bool}(h:oE n L ae)(e:∀x,x∈L↔x∈nI):oE n nI ae:=⟨h.len,λc an=>by rw[h.at_ c an];exact decide_eq_decide.2 (e _)⟩
def oE.eq{n:Nat}{L:C_ Int}{ae o':C_ Bool}(h:oE n L ae)(br:oE n L o'):ae=o':=by
 refine AK8 (by rw[h.len,br.len]) λc h1 I=>by rw[h.at_ c h1,br.at_ c I]
def oE.aeG{m:Model}{ae:C_ Bool}(hk:(check m).cJ=0)(h:oE (di m) (s3 m) ae):ae=jC m:=by
 unfold jC;rw[if_pos hk];exact h.eq ⟨CC,λc an=>CC⟩
def hj(a b:C_ Int):Prop := ∃x,x∈a/\x∈b
instance(a b:C_ Int):Decidable (hj a b):=decidable_of_iff (a.any (λx=>b.contains x)=true) (by simp[hj,List.any_eq_true])
def hj.comm{a b:C_ Int}:hj a b↔hj b a:=⟨λ⟨x,h1,I⟩=>⟨x,I,h1⟩,λ⟨x,h1,I⟩=>⟨x,I,h1⟩⟩
def hj.ada(b:C_ Int):¬hj [] b:=λ⟨_,h,_⟩=>by cases h
def hj.apP(a:C_ Int):¬hj a []:=λ⟨_,_,h⟩=>by cases h
def ari{a:C_ Int}(aY:a.Pairwise (· < ·)){i:Nat}(h:i<a.length):∀x∈a.drop i,a[i]<=x:=λx af=>by
 rw[AF0 h] at af;rcases List.mem_cons.1 af with e | e
 .omega
 .have ar:=aY.sublist (List.drop_sublist i a);rw[AF0 h,AI0] at ar
  have:=ar.1 x e
  omega
def afh{a b:C_ Int}(ak:b.Pairwise (· < ·)){i k:Nat}(h1:i<a.length)(I:k<b.length)(h:a[i]<b[k]):hj (a.drop i) (b.drop k)↔hj (a.drop (i+1)) (b.drop k):=by
 constructor
 .rintro⟨x,cK,cV⟩;rw[AF0 h1] at cK;rcases List.mem_cons.1 cK with e | e
  .have:=ari ak I x cV;omega
  .exact⟨x,e,cV⟩
 .rintro⟨x,cK,cV⟩;exact⟨x,by rw[AF0 h1];exact AH5 _ cK,cV⟩
def HF{a b:C_ Int}(aY:a.Pairwise (· < ·)){i k:Nat}(h1:i<a.length)(I:k<b.length)(h:b[k]<a[i]):hj (a.drop i) (b.drop k)↔hj (a.drop i) (b.drop (k+1)):=by
 rw[hj.comm,afh aY I h1 h,hj.comm]
def atQ{a b:C_ Int}{i k:Nat}(h1:i<a.length)(I:k<b.length)(h:a[i]=b[k]):hj (a.drop i) (b.drop k) :=
 ⟨a[i],by rw[AF0 h1];exact AG5 ..,by rw[AF0 I,h];exact AG5 ..⟩
def atS{a b:C_ Int}{i k:Nat}(h:¬(i<a.length/\k<b.length)):¬hj (a.drop i) (b.drop k):=by
 by_cases h1:i<a.length
 .have e:b.drop k=[]:=AE9 Ad;rw[e];exact hj.apP _
 .have e:a.drop i=[]:=AE9 Ad;rw[e];exact hj.ada _
def nm(r w kc w':C_ Int):Prop:=hj w w'\/hj w kc\/hj r w'
instance(r w kc w':C_ Int):Decidable (nm r w kc w'):=inferInstanceAs (Decidable (_\/_\/_))
end o
namespace Go.Proofs.R
open Go Go.RowKit a8
def HF(va iJ:B_)(a b:C_ Int)(w:A_)(aY:c9 w va a)(ak:c9 w iJ b)(uj:a.Pairwise (· < ·))(sZ:b.Pairwise (· < ·)) :
  Du F.ds #[va,iJ] w λv w'=>v = .bool (decide (o.hj a b))/\Ext w w':=by
 obtain⟨aN,fs,rfl,qg⟩:=aY.form;obtain⟨qi,uP,rfl,hr⟩:=ak.form;refine bl E.ds ?_;refine J ?_;refine _M [0,1] (λx:Nat×Nat=>[(5,.I x.1),(6,.I x.2)]) (0,0) (λx W=>Ext w W/\x.1<=a.length/\x.2<=b.length/\(o.hj a b↔o.hj (a.drop x.1) (b.drop x.2))) (λx=>(a.length - x.1)+(b.length - x.2)) a6 ⟨Ext.refl _,AF6 _,AF6 _,Iff.rfl⟩ ?_;rintro⟨i,k⟩ S w1 ⟨ag,U,hk,hm⟩;dsimp only at U hk hm ⊢;have no:¬(i<a.length/\k<b.length)->decide (o.hj a b)=false:=λh=>decide_eq_false (by rw[hm];exact o.atS h);refine J ?_;apply I_<;>intro g1;rotate_left
 .refine J ?_;exact⟨by rw[no Ad],ag⟩
 refine J ?_;apply I_<;>intro g2;rotate_left
 .refine J ?_;exact⟨by rw[no Ad],ag⟩
 have lO:i<a.length:=Ad
 have cb:k<b.length:=Ad
 obtain⟨tk,rfl⟩:=aY.addr;obtain⟨pn,rfl⟩:=ak.addr;have Z4:=aY.ext Flat.ext ag;have cN:=ak.ext Flat.ext ag;refine J ?_;intro aA ai;have aH:=ag.trans ai;refine J ?_;apply I_<;>intro g3
 .have yes:decide (o.hj a b)=true:=decide_eq_true (by rw[hm];exact o.atQ lO cb g3);refine J ?_;exact⟨by rw[yes],aH⟩
 have alp:=Z4.ext Flat.ext ai;have c7:=cN.ext Flat.ext ai;clear Z4 cN;refine J ?_;intro aM ah;have aR:=aH.trans ah;refine J ?_;apply I_<;>intro g4
 .refine J ?_;exact⟨(i+1,k),⟨aK,aK,trivial⟩,⟨aR,by simp only;omega,hk,hm.trans (o.afh sZ lO cb g4)⟩,by simp only;omega⟩
 .refine J ?_;exact⟨(i,k+1),⟨aK,aK,trivial⟩,⟨aR,U,by simp only;omega,hm.trans (o.HF uj lO cb Ad)⟩,by simp only;omega⟩
def SV(va iJ:B_)(a b:C_ Int)(w:A_)(aY:c9 w va a)(ak:c9 w iJ b) :
  Du F.Mv #[va,iJ] w λv w'=>v = .bool (decide (o.hj a b))/\Ext w w':=by
 obtain⟨aN,fs,rfl,qg⟩:=aY.form;obtain⟨qi,uP,rfl,hr⟩:=ak.form;refine bl E.Mv ?_;refine J ?_;refine L_ 5 a.length [0,1] (λ_:Unit=>[]) () (λi _ W=>Ext w W/\¬o.hj (a.take i) b) a6 a6 ⟨Ext.refl _,by simpa using o.hj.ada b⟩ ?_;rintro i _ S w1 U ⟨ag,sL⟩;refine J ?_;apply I_<;>intro g1;rotate_left
 .have iv:i=a.length:=Ad
  rw[iv,AE8] at sL;have no:decide (o.hj a b)=false:=decide_eq_false sL;refine J ?_;exact⟨by rw[no],ag⟩
 have lO:i<a.length:=Ad
 obtain⟨tk,rfl⟩:=aY.addr;refine J ?_;refine L_ 6 b.length [0,1,5] (λ_:Unit=>[]) () (λk _ W=>Ext w W/\¬a[i]∈b.take k) a6 a6 ⟨ag,CC⟩ ?_;rintro k _ jW aA hk ⟨ai,hc⟩;refine J ?_;apply I_<;>intro g2;rotate_left
 .have AO:k=b.length:=Ad
  rw[AO,AE8] at hc;refine J ?_;refine⟨lO,aK,(),trivial,ai,?_⟩;rintro⟨x,h1,I⟩;rw[Iu lO,AG0,AF2] at h1;rcases h1 with h1 | rfl
  .exact sL ⟨x,h1,I⟩
  .exact hc I
 have cb:k<b.length:=Ad
 obtain⟨pn,rfl⟩:=ak.addr;have alp:=aY.ext Flat.ext ai;have c7:=ak.ext Flat.ext ai;refine J ?_;intro aM ah;have aR:=ai.trans ah;refine J ?_;apply I_<;>intro g3
 .have yes:decide (o.hj a b)=true:=decide_eq_true ⟨a[i],ED _,by rw[g3];exact ED _⟩;refine J ?_;exact⟨by rw[yes],aR⟩
 .refine J ?_;refine⟨cb,aK,(),trivial,aR,?_⟩;rw[Iu cb,AG0,AF2];rintro(h | h)
  .exact hc h
  .exact g3 h
def aqi(v1 v2 v3 v4:B_)(a b cx fS:C_ Int)(w:A_)(h1:c9 w v1 a)(I:c9 w v2 b)(ab:c9 w v3 cx)(aC:c9 w v4 fS)(uj:a.Pairwise (· < ·))(sZ:b.Pairwise (· < ·))(aqR:cx.Pairwise (· < ·))(adw:fS.Pairwise (· < ·)) :
  Du F.yk #[.agg #[v1,v2],.agg #[v3,v4]] w λv w'=>v = .bool (decide (o.nm a b cx fS))/\Ext w w':=by
 obtain⟨bO,c1,rfl,_⟩:=h1.form;obtain⟨bT,c2,rfl,_⟩:=I.form;obtain⟨bV,bu,rfl,_⟩:=ab.form;obtain⟨b1,bB,rfl,_⟩:=aC.form;refine bl E.yk ?_;refine J ?_;intro w1 bQ c7 ag ao;refine J ?_;intro aA bW eX ai ba;replace ao:=ai.obj ao;have aH:=ag.trans ai;refine J ?_;refine J_ (HF _ _ b fS aA (I.ext Flat.ext aH) (aC.ext Flat.ext aH) sZ adw) ?_;rintro _ aM ⟨rfl,ah⟩;have aR:=aH.trans ah;replace ao:=ah.obj ao;replace ba:=ah.obj ba;refine J ?_;apply I_<;>intro g1
 .have yes:decide (o.nm a b cx fS)=true:=decide_eq_true (.inl g1);refine J ?_;exact⟨by rw[yes],aR⟩
 refine J ?_;refine J_ (HF _ _ b cx aM (I.ext Flat.ext aR) (ab.ext Flat.ext aR) sZ aqR) ?_;rintro _ aU ⟨rfl,aq⟩;have bn:=aR.trans aq;replace ao:=aq.obj ao;replace ba:=aq.obj ba;refine J ?_;apply I_<;>intro g2
 .have yes:decide (o.nm a b cx fS)=true:=decide_eq_true (.inr (.inl g2));refine J ?_;exact⟨by rw[yes],bn⟩
 refine J ?_;refine J_ (HF _ _ a fS aU (h1.ext Flat.ext bn) (aC.ext Flat.ext bn) uj adw) ?_;rintro _ bh ⟨rfl,av⟩;have bC:=bn.trans av;have last:decide (o.nm a b cx fS)=decide (o.hj a fS):=decide_eq_decide.2 ⟨λh=>h.elim (λh=>absurd h g1) λh=>h.elim (λh=>absurd h g2) id,λh=>.inr (.inr h)⟩;refine J ?_;exact⟨by rw[last],bC⟩
def atY(v1 v2 v3 v4:B_)(a b cx fS:C_ Int)(w:A_)(h1:c9 w v1 a)(I:c9 w v2 b)(ab:c9 w v3 cx)(aC:c9 w v4 fS) :
  Du F.Mw #[.agg #[v1,v2],.agg #[v3,v4]] w λv w'=>v = .bool (decide (o.nm a b cx fS))/\Ext w w':=by
 obtain⟨bO,c1,rfl,_⟩:=h1.form;obtain⟨bT,c2,rfl,_⟩:=I.form;obtain⟨bV,bu,rfl,_⟩:=ab.form;obtain⟨b1,bB,rfl,_⟩:=aC.form;refine bl E.Mw ?_;refine J ?_;intro w1 bQ c7 ag ao;refine J ?_;intro aA bW eX ai ba;replace ao:=ai.obj ao;have aH:=ag.trans ai;refine J ?_;refine J_ (SV _ _ b cx aA (I.ext Flat.ext aH) (ab.ext Flat.ext aH)) ?_;rintro _ aM ⟨rfl,ah⟩;have aR:=aH.trans ah;replace ao:=ah.obj ao;replace ba:=ah.obj ba;refine J ?_;apply I_<;>intro g1
 .have yes:decide (o.nm a b cx fS)=true:=decide_eq_true (.inr (.inl g1));refine J ?_;exact⟨by rw[yes],aR⟩
 refine J ?_;refine J_ (SV _ _ b fS aM (I.ext Flat.ext aR) (aC.ext Flat.ext aR)) ?_;rintro _ aU ⟨rfl,aq⟩;have bn:=aR.trans aq;replace ao:=aq.obj ao;replace ba:=aq.obj ba;refine J ?_;apply I_<;>intro g2
 .have yes:decide (o.nm a b cx fS)=true:=decide_eq_true (.inl g2);refine J ?_;exact⟨by rw[yes],bn⟩
 refine J ?_;refine J_ (SV _ _ fS a aU (aC.ext Flat.ext bn) (h1.ext Flat.ext bn)) ?_;rintro _ bh ⟨rfl,av⟩;have bC:=bn.trans av;have last:decide (o.nm a b cx fS)=decide (o.hj fS a):=decide_eq_decide.2 ⟨λh=>h.elim (λh=>absurd h g2) λh=>h.elim (λh=>absurd h g1) o.hj.comm.1,λh=>.inr (.inr (o.hj.comm.1 h))⟩;refine J ?_;exact⟨by rw[last],bC⟩
end Go.Proofs.R