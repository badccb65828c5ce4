/- Parts. -/
import Derived.Test.YtakmdjclehkglaaGreatDoorQamn
set_option linter.all false
set_option maxRecDepth 8000
set_option maxHeartbeats 16000000
namespace Go.Proofs.R
open Go Go.RowKit ba o
def E7(v:B_)(l:C_ Int)(n:Int)(w:A_)(aE:py w v l):Ei F.JZ #[v,.I n] w λv w'=>v = .tuple #[.I (h6 l n).1,.I (h6 l n).2]/\w'=w:=by
 obtain⟨aN,cap,rfl,hlen⟩:=aE.form;refine bk E.JZ ?_;refine aI ?_;apply I_<;>intro g1
 .refine aI ?_;rw[h6,hc (.inl g1)];exact⟨rfl,trivial⟩
 refine aI ?_;apply I_<;>intro g2
 .refine aI ?_;rw[h6,hc (.inr Aw)];exact⟨rfl,trivial⟩
 obtain⟨i,rfl⟩:=Nb (show 0<=n by omega);obtain⟨a,rfl⟩:=aE.addr;refine aI ?_;rw[h6,iP Aw Aw];simp only[Int.toNat_natCast];exact⟨aJ,trivial⟩
def auS(l:C_ Int)(aE:l.length<=9223372036854775807)(n:Int)(h:dZ n):o.nth l (IntKind.i64.wrap (n - 1))=o.nth l (n - 1):=by
 obtain⟨h1,J⟩:=h;by_cases aw:n = -9223372036854775808
 .subst aw
  have:IntKind.i64.wrap (-9223372036854775808 - 1)=9223372036854775807:=BS
  rw[this,hc (.inr Aw),hc (.inl Aw)]
 .rw[IntWalk.i64_in (n - 1) Aw]
def auV(x:o.Node)(cs:C_ B_)(v:o.Env)(base b:Nat)(w:A_)(m:B_)(st:C_ Int)(ah:x.ok)(h:qI w cs v)(hm:rH base b w m st)(ab:x.op=3->0<st.length)(aG:∀z∈st,dZ z) :
  Ei F.gs #[.pointer (some ⟨b,0,none⟩),.agg x.enc.toArray,.agg cs.toArray] w λu w'=>u = .tuple #[.I (hd x v (st.getLastD 0)).1,.I (hd x v (st.getLastD 0)).2]/\Ext w w':=by
 obtain⟨a0,bz,db,c1,a2,c2,a3,bw,rfl,pk,c7,dE,ed,gW,eB,dD,dO,dU⟩:=h.form;refine bk E.gs ?_;refine aI ?_;refine O_ λw1 bx cN af al=>?_;refine aI ?_;refine O_ λaz bP c8 ai ao=>?_;have he:=af.trans ai;have cM:az.heap[bx]? = some (.cells #[.I x.op,.I x.n] T.e):=ai.obj al;clear al;refine aI ?_;apply I_<;>intro g1
 .have hk:hd x v (st.getLastD 0)=if o.within x.n then (x.n,0) else (0,10):=by rw[hd,if_pos g1]
  have aB:(o.tell (· + ·) x.n 0).2=o.within x.n:=by
   unfold o.tell
   have:o.within 0=true:=rfl
   simp only[Int.add_zero,this,Bool.and_true,Bool.and_self];split<;>simp_all
  rw[hk];refine aI ?_;refine J_ (O3 x.n 0 az) ?_;rintro _ aM ⟨rfl,ag⟩;rw[aB];refine aI ?_;refine N_ (λg2=>?_) (λg2=>?_)
  all_goals
   refine aI ?_;rw[g2];exact cc
 by_cases aH:x.op=2\/x.op=3
 .have hk:hd x v (st.getLastD 0)=(match o.nth v.vars x.n with | some l=>if x.op=2 then h6 l 0 else (match o.nth l (st.getLastD 0 - 1) with | some y=>(y,0) | none=>(0,10)) | none=>(0,8)):=by
   rw[hd,if_neg g1];split
   .rename_i e;cases o.nth v.vars x.n<;>simp[e]
   .rename_i e;rw[if_pos Aw];cases o.nth v.vars x.n with
    | none=>rfl
    | some l=>simp only[e,if_false];cases o.nth l (st.getLastD 0 - 1)<;>rfl
  by_cases vi:x.n<0\/(v.vars.length:Int)<=x.n
  .rw[hk,hc vi]
   (repeat' (refine aI ?_;first | (refine I_ (λ_=>?_) (λ_=>?_)<;>try (exfalso;omega)) | refine N_ (λ_=>?_) (λ_=>?_)))<;>try refine aI ?_
   all_goals exact cc
  obtain⟨i,U⟩:=Nb (show 0<=x.n by omega);have kz:i<v.vars.length:=Aw
  obtain⟨a,rfl⟩:=pk.addr;obtain⟨bK,je,fm⟩:=pk.at i kz;have aw:o.nth v.vars x.n=some v.vars[i]:=by rw[U,iP Aw Aw];simp only[Int.toNat_natCast]
  rw[U] at cM;by_cases g2:x.op=2
  .have b8:hd x v (st.getLastD 0)=h6 v.vars[i] 0:=by rw[hk,aw];simp only[g2,if_true]
   rw[b8];refine aI ?_;refine M_ (he.cell je) ?_;refine aI ?_;refine J_ (E7 _ v.vars[i] 0 az (fm.ext he)) ?_;rintro _ _ ⟨rfl,rfl⟩;refine aI ?_;exact cc
  .have g3:x.op=3:=Aw
   have hY:=ab g3;have oq:hd x v (st.getLastD 0)=(match o.nth v.vars[i] (st.getLastD 0 - 1) with | some y=>(y,0) | none=>(0,10)):=by rw[hk,aw];simp only[g2,if_false]
   rw[oq];clear oq hk;refine aI ?_;refine M_ (he.cell je) ?_;refine aI ?_;refine P_ _ (λw' e=>afC base b w' m st (hm.ext (he.trans e)) hY) ?_;refine aI ?_;refine _l ?_;refine aI ?_;refine P_ _ (λw' e=>(E7 _ v.vars[i] _ w' (fm.ext (he.trans e))).mono λ_ _ ⟨h1,J⟩=>⟨h1,J ▸ Ext.refl _⟩) ?_;refine aI ?_;intro aM ag;have ana:dZ (st.getLastD 0):=by rw[FK _ hY];exact aG _ (E2 _)
   obtain⟨ca,ci,rfl,li⟩:=fm.form;have hw:=auS _ li _ ana;cases av:o.nth v.vars[i] (IntKind.i64.wrap (st.getLastD 0 - 1)) with
   | none =>
    have bG:h6 v.vars[i] (IntKind.i64.wrap (st.getLastD 0 - 1))=(0,8):=by rw[h6,av]
    rw[bG];refine aI ?_;rw[<-hw,av];exact cc
   | some y =>
    have bG:h6 v.vars[i] (IntKind.i64.wrap (st.getLastD 0 - 1))=(y,0):=by rw[h6,av]
    rw[bG];refine aI ?_;rw[<-hw,av];exact cc
 rw[hd,if_neg g1,if_neg Aw,if_neg Aw];refine aI ?_;apply I_<;>intro g4
 .rw[if_pos g4];refine aI ?_;refine J_ (E7 _ v.locals x.n az (dE.ext he)) ?_;rintro _ _ ⟨rfl,rfl⟩;refine aI ?_;exact cc
 rw[if_neg g4];refine aI ?_;apply I_<;>intro g6
 .rw[if_pos g6];refine aI ?_;refine J_ (E7 _ v.lens x.n az (c7.ext he)) ?_;rintro _ _ ⟨rfl,rfl⟩;refine aI ?_;exact cc
 rw[if_neg g6];refine aI ?_;apply I_<;>intro g5
 .rw[if_pos g5];refine aI ?_;exact cc
 rw[if_neg g5];refine aI ?_;apply I_<;>intro g7;rotate_left
 .rw[if_neg g7];refine aI ?_;exact cc
 rw[if_pos g7];refine aI ?_;apply I_<;>intro g8
 .refine aI ?_;rw[if_neg Aw];exact cc
 rw[if_pos Aw];obtain⟨i,U⟩:=Nb (show 0<=x.n by omega);obtain⟨_,hb⟩:=ah.n;rw[U] at hb;have av:x.n.tdiv 16=((i / 16:Nat):Int):=by rw[U];rfl
 have anE:x.n.tmod 16=((i % 16:Nat):Int):=by rw[U];rfl
 refine aI ?_;refine _C Aw ?_;rw[av];refine aI ?_;apply I_<;>intro g9
 .refine aI ?_;rw[hc (.inr Aw)];exact cc
 have ay:i / 16<v.at_.length:=Aw
 obtain⟨a,rfl⟩:=ed.addr;obtain⟨bK,je,fm⟩:=ed.at (i / 16) ay;rw[iP Aw Aw];simp only[Int.toNat_natCast];refine aI ?_;refine _C Aw ?_;rw[av];refine aI ?_;refine M_ (he.cell je) ?_;refine aI ?_;refine _t Aw ?_;refine aI ?_;refine P_ _ (λw' e=>(E7 _ v.at_[i / 16] _ w' (fm.ext (he.trans e))).mono λ_ _ ⟨h1,J⟩=>⟨h1,J ▸ Ext.refl _⟩) ?_;refine aI ?_;intro aM ag;refine aI ?_;exact cc
end Go.Proofs.R
namespace o
open Go Go.RowKit ba
structure Env.ok(v:Env):Prop where
 vars:∀l∈v.vars,∀z∈l,dZ z
 lens:∀z∈v.lens,dZ z
 locals:∀z∈v.locals,dZ z
 at_:∀l∈v.at_,∀z∈l,dZ z
 self:dZ v.self
def aeM{w:A_}{v:B_}{l:C_ (C_ Int)}(h:wx w v l):∀r∈l,∀z∈r,dZ z:=by
 intro r aT;obtain⟨i,U,rfl⟩:=List.mem_iff_getElem.1 aT;obtain⟨aN,cap,rfl,_⟩:=h.form;obtain⟨a,rfl⟩:=h.addr;obtain⟨bK,_,J⟩:=h.at i U;exact J.ok
def qI.ok{w:A_}{cs:C_ B_}{v:Env}(h:qI w cs v):v.ok:=by
 obtain⟨v0,v1,v2,v3,_,ad,h1,J,ab,aF⟩:=h.ex;exact⟨aeM ad,h1.ok,J.ok,aeM ab,aF⟩
def BD{α:Type}{l:C_ α}{n:Int}{x:α}(h:nth l n=some x):x∈l:=by
 unfold nth at h;split at h
 .exact List.mem_of_getElem? h
 .cases h
def K1:dZ 0:=⟨BS,BS⟩
def au5{n:Int}(h:within n=true):dZ n:=by simp[within] at h;exact⟨Aw,Aw⟩
def aul(f:Int->Int->Int)(a b:Int):dZ (tell f a b).1:=by
 unfold tell;split
 .rename_i h;simp only[Bool.and_eq_true] at h;exact au5 h.2
 .exact K1
def ahD(b:Bool):dZ (bit b):=by cases b<;>exact⟨BS,BS⟩
def ai7{x:Int}{ae:p6}(h:hp x=some ae)(a b:Int):dZ (ae.Ay a b).1:=by
 unfold hp at h
 repeat' split at h
 all_goals first | (cases h;first | exact aul _ _ _ | exact ahD _) | cases h
def NQ{l:C_ Int}{n:Int}(h:∀z∈l,dZ z):dZ (h6 l n).1:=by
 unfold h6;split
 .rename_i x ah;exact h x (BD ah)
 .exact K1
def aj8{v:Env}(aH:v.ok){x:Node}{st:C_ Int}(ah:x.ok):dZ (kQ v x st).1:=by
 unfold kQ;split
 .rename_i ae aS;unfold ya;simp only;split
  .exact ai7 aS _ _
  .exact K1
 .unfold hd
  (repeat' split)
  all_goals first
   | exact ah.n
   | exact K1
   | exact aH.self
   | exact NQ aH.locals
   | exact NQ aH.lens
   | (rename_i cI;exact NQ (aH.vars _ (BD cI)))
   | (rename_i cI;exact NQ (aH.at_ _ (BD cI)))
   | (rename_i h1 _ _ J;exact aH.vars _ (BD h1) _ (BD J))
   | (rename_i J;rename_i h1;exact aH.vars _ (BD h1) _ (BD J))
end o
namespace Go.Proofs.R
open Go Go.RowKit ba o
def auZ(ae:p6)(u fa:B_)(l:C_ Int)(w:A_)(aE:Ints w fa l)(ad:0<l.length)(bb:yg w u ae.Ay) :
  Ei F.gt #[.agg #[.I ae.parts,.I ae.jW,.I ae.makes,u],fa] w λv w'=>v = .tuple #[.I (ya ae l).1,.I (ya ae l).2]/\Ext w w':=by
 obtain⟨aN,cap,rfl,hlen⟩:=aE.form;refine bk E.gt ?_;refine aI ?_;refine O_ λw1 b ak af al=>?_;obtain⟨a,rfl⟩:=aE.addr ad;have mZ:Ints w1 (.slice (some a) l.length cap) l:=aE.ext af;refine aI ?_;refine K_ (l.length - 1) Aw Aw ?_;refine aI ?_;refine _w _ (λw' e=>AC0 (bb.ext (af.trans e)) λbO aD=>⟨rfl,aD⟩) ?_;have ej:l[0]=l.headD 0:=by
  cases l with
  | nil=>simp at ad
  | cons z l=>rfl
 rw[ej,<-FK l ad];rw[ya];generalize ae.Ay (l.headD 0) (l.getLastD 0)=q;refine aI ?_;intro az ai;refine aI ?_;refine N_ (λg=>?_) (λg=>?_)
 all_goals
  refine aI ?_;simp only[g,if_true,Bool.false_eq_true,if_false];exact cc
def ajF(x:o.Node)(cs:C_ B_)(v:o.Env)(base b pm dA:Nat)(w:A_)(m:B_)(st:C_ Int)(UE:F_)(ah:x.ok)(h:qI w cs v)(hm:rH base b w m st)(ab:x.op=3->0<st.length)(aG:∀z∈st,dZ z)
  (xq:w.heap[pm]? = some (.cells #[.pointer (some ⟨b,0,none⟩)] UE))(ug:w.heap[dA]? = some (.cells cs.toArray T.v)) :
  Ei F.JW #[.agg x.enc.toArray,.pointer (some ⟨pm,0,none⟩),.pointer (some ⟨dA,0,none⟩)] w λu w' =>
   u = .tuple #[.I (hd x v (st.getLastD 0)).1,.I (hd x v (st.getLastD 0)).2]/\Ext w w':=by
 obtain⟨v0,v1,v2,v3,rfl,_⟩:=h.ex;refine bk E.JW ?_;refine aI ?_;refine O_ λw1 bx cN af al=>?_;have cM:w1.heap[bx]? = some (.cells x.enc.toArray T.e):=al;refine aI ?_;refine T_ (c:=x.enc) cM (Ext.refl _) rfl ?_;refine aI ?_;refine T_ ug af rfl ?_;refine aI ?_;refine J_ (auV x _ v base b w1 m st ah (h.ext af) (hm.ext af) ab aG) ?_;rintro _ az ⟨rfl,ai⟩;refine aI ?_;exact cc
def aj9(v:o.Env):NG (kQ v) ya λx st=>hd x v (st.getLastD 0):=λ_ _=>rfl
def ajG(gX:B_)(e:C_ o.Node)(cs:C_ B_)(v:o.Env)(w:A_)(he:eW w gX e)(h:qI w cs v) :
  Ei F.JQ #[gX,.agg cs.toArray] w λu w'=>u = .tuple #[.I (o.eval e v).1,.I (o.eval e v).2]/\Ext w w':=by
 have c9:=h.ok;obtain⟨v0,v1,v2,v3,rfl,_⟩:=h.ex;refine bk E.JQ ?_;refine aI ?_;refine O_ λw1 dA ug af al=>?_;refine aI ?_;refine X_ (cs:=[.slice none 0 0,.map none]) (by simp[gG]) ?_;refine aI ?_;refine O_ λaz b ak ai ao=>?_;refine aI ?_;refine O_ λaM pm xq ag a8=>?_;refine aI ?_;refine _V a8 BS rfl λaR dT bn=>?_;have QT:aR.heap[pm]? = some (.cells #[.pointer (some ⟨b,0,none⟩)] T.tE):=bn;have aq:Ext az aR:=dT.ext ag xq;have an7:=cq ao;have abS:=cq al;have A1:Ext w aR:=(af.trans ai).trans aq;clear bn dT ag a8;have fD:=aq.obj ao;have kW:=aq.obj (ai.obj al);have fT:=af.size;refine aI ?_;refine J_ (aeY (kQ v) ya (λx st=>hd x v (st.getLastD 0)) (aj9 v) dZ b w aR A1 Aw gX _ _ e he fD (λx st ah _ _ _ _=>aj8 c9 ah) ?_ ?_) ?_
 .intro x st base m w' ah hm Bb aG c7 dE ed UM cO t iF hk;refine V_ (first:=[]) (cap:=[.pointer (some ⟨pm,0,none⟩),.pointer (some ⟨dA,0,none⟩)]) Cx
   (ajF x _ v base b pm dA UM m st _ ah (h.ext ((hm.ext A1 (by intro k hk e;omega)).trans iF)) (Bb.ext iF) ?_ aG (iF.obj (hm.obj Aw QT)) (iF.obj (hm.obj Aw kW))) λv bO ⟨h1,J⟩=>by subst h1;exact hk bO J
  intro ab
  have:fR x.op=1:=by rw[ab];rfl
  omega
 .rintro ae ei fa l w' cO t hm ⟨u,rfl,bb⟩ ⟨x,ah⟩ aE U hk;exact _d (first:=[]) (cap:=[]) Cx (auZ ae u fa l w' U (by have:=Tl ah;omega) bb) λv bO ⟨h1,J⟩=>by subst h1;exact hk bO J
 rintro _ bg ⟨rfl,l2⟩;have ar:Ext w bg:=l2.ext A1 (by intro k hk e;omega);refine aI ?_;exact cc
def Nf(v:B_)(l:C_ Int)(n:Int)(w:A_)(aE:py w v l):Ei F.Lv #[v,.I n] w λv w'=>v = .tuple #[.I (h6 l n).1,.bool (decide ((h6 l n).2=0))]/\Ext w w':=by
 obtain⟨aN,cap,rfl,hlen⟩:=aE.form;refine bk E.Lv ?_;refine aI ?_;apply I_<;>intro g1
 .refine aI ?_;rw[h6,hc (.inl g1)];exact cc
 refine aI ?_;apply I_<;>intro g2
 .refine aI ?_;rw[h6,hc (.inr Aw)];exact cc
 obtain⟨i,rfl⟩:=Nb (show 0<=n by omega);obtain⟨a,rfl⟩:=aE.addr;refine aI ?_;rw[h6,iP Aw Aw];simp only[Int.toNat_natCast];exact cc
def auR(l:C_ Int)(n:Int):(h6 l n).2=0\/h6 l n=(0,8):=by
 unfold h6;split
 .exact .inl rfl
 .exact .inr rfl
def BY(b:Bool)(w:A_):Ei F.Lt #[.bool b] w λv w'=>v = .I (o.bit b)/\w'=w:=by
 refine bk E.Lt ?_;refine aI ?_;refine N_ (λh=>?_) (λh=>?_)
 all_goals
  subst h;refine aI ?_;exact⟨rfl,trivial⟩
def Ue(n:Int)(w:A_):Ei F.Ll #[.I n] w λv w'=>v = .bool (o.within n)/\w'=w:=by
 refine bk E.Ll ?_
 (repeat' (refine aI ?_;first | (refine I_ (λ_=>?_) (λ_=>?_)<;>try (exfalso;omega)) | refine N_ (λ_=>?_) (λ_=>?_)))<;>try refine aI ?_
 all_goals
  refine⟨?_,aJ⟩;congr 1
  first | (rw[AG4];simp[o.within];omega) | (simp[o.within];omega)
theorem UF(a b n:Int)(w:A_):Ei F.Lk #[.I a,.I b,.I n] w
  λv w'=>v = .tuple #[.I (if o.within a&&o.within b&&o.within n then n else 0),.bool (o.within a&&o.within b&&o.within n)]/\w'=w:=by
 refine bk E.Lk ?_;refine aI ?_;refine J_ (Ue a w) ?_;rintro _ _ ⟨rfl,rfl⟩;refine aI ?_;cases h1:o.within a with
 | false =>
  refine aI ?_;exact⟨CC,trivial⟩
 | true =>
  refine aI ?_;refine J_ (Ue b _) ?_;rintro _ _ ⟨rfl,rfl⟩;refine aI ?_;cases J:o.within b with
  | false =>
   refine aI ?_;exact⟨CC,trivial⟩
  | true =>
   refine aI ?_;refine J_ (Ue n _) ?_;rintro _ _ ⟨rfl,rfl⟩;refine aI ?_;cases ab:o.within n with
   | false =>
    refine aI ?_;exact⟨CC,trivial⟩
   | true =>
    refine aI ?_;exact⟨CC,trivial⟩
theorem UG(f:Int->Int->Int)(a b n:Int)(h:o.within a=true->o.within b=true->n=f a b) :
  (if (o.within a&&o.within b&&o.within n)=true then n else 0)=(o.tell f a b).1/\(o.within a&&o.within b&&o.within n)=(o.tell f a b).2:=by
 unfold o.tell;cases h1:o.within a with
 | false=>simp
 | true =>
  cases J:o.within b with
  | false=>simp
  | true =>
   rw[h h1 J];cases ab:o.within (f a b)<;>simp
def asl:uQ F.Lg (o.tell (· + ·)):=by
 intro a b w;refine bk E.Lg ?_;refine aI ?_;refine _l ?_;refine aI ?_;refine J_ (UF a b _ w) ?_;rintro _ _ ⟨rfl,rfl⟩;obtain⟨h1,J⟩:=UG (· + ·) a b (IntKind.i64.wrap (a+b)) (λh1 J=>by simp[o.within] at h1 J;exact IntWalk.i64_in _ Aw);rw[h1,J];refine aI ?_;exact cc
def aeQ:uQ F.Lj (o.tell (· - ·)):=by
 intro a b w;refine bk E.Lj ?_;refine aI ?_;refine _l ?_;refine aI ?_;refine J_ (UF a b _ w) ?_;rintro _ _ ⟨rfl,rfl⟩;obtain⟨h1,J⟩:=UG (· - ·) a b (IntKind.i64.wrap (a - b)) (λh1 J=>by simp[o.within] at h1 J;exact IntWalk.i64_in _ Aw);rw[h1,J];refine aI ?_;exact cc
def asY:uQ F.Lh (o.tell (· * ·)):=by
 intro a b w;refine bk E.Lh ?_;refine aI ?_;refine _l ?_;refine aI ?_;refine J_ (UF a b _ w) ?_;rintro _ _ ⟨rfl,rfl⟩;obtain⟨h1,J⟩:=UG (· * ·) a b (IntKind.i64.wrap (a*b)) (λh1 J=>by simp[o.within] at h1 J;have:=adr h1 J;exact IntWalk.i64_in _ Aw);rw[h1,J];refine aI ?_;exact cc
def sk(op a b:Int):Int×Int:=match hp op with | some ae=>ya ae [a,b] | none=>(0,0)
def aso(op a b:Int)(w:A_)(nd:11<=op/\op<=19) :
  Ei F.Lw #[.I op,.I a,.I b] w λv w'=>v = .tuple #[.I (sk op a b).1,.I (sk op a b).2]/\Ext w w':=by
 have num:∀f:Int->Int->Int×Bool,(if (f a b).2=true then ((f a b).1,(0:Int)) else (0,10))=(let r:=f a b;if r.2=true then (r.1,0) else (0,10)):=λ_=>rfl;have an:op=11\/op=12\/op=13\/op=14\/op=15\/op=16\/op=17\/op=18\/op=19:=Aw
 refine bk E.Lw ?_;rcases an with e | e | e | e | e | e | e | e | e
 .have key:sk op a b=if (o.tell (· + ·) a b).2=true then ((o.tell (· + ·) a b).1,0) else (0,10):=by subst e;rfl
  rw[key];refine aI ?_;refine J_ (asl a b w) ?_;rintro _ w1 ⟨rfl,af⟩;refine aI ?_;refine N_ (λh=>?_) (λh=>?_)
  all_goals
   refine aI ?_;rw[h];exact cc
 .have key:sk op a b=if (o.tell (· - ·) a b).2=true then ((o.tell (· - ·) a b).1,0) else (0,10):=by subst e;rfl
  rw[key];refine aI ?_;refine J_ (aeQ a b w) ?_;rintro _ w1 ⟨rfl,af⟩;refine aI ?_;refine N_ (λh=>?_) (λh=>?_)
  all_goals
   refine aI ?_;rw[h];exact cc
 .have key:sk op a b=if (o.tell (· * ·) a b).2=true then ((o.tell (· * ·) a b).1,0) else (0,10):=by subst e;rfl
  rw[key];refine aI ?_;refine J_ (asY a b w) ?_;rintro _ w1 ⟨rfl,af⟩;refine aI ?_;refine N_ (λh=>?_) (λh=>?_)
  all_goals
   refine aI ?_;rw[h];exact cc
 .have key:sk op a b=(o.bit (decide (a=b)),0):=by subst e;rfl
  rw[key];refine aI ?_;refine J_ (BY _ w) ?_;rintro _ _ ⟨rfl,rfl⟩;refine aI ?_;exact cc
 .have key:sk op a b=(o.bit (!decide (a=b)),0):=by subst e;rfl
  rw[key];refine aI ?_;refine J_ (BY _ w) ?_;rintro _ _ ⟨rfl,rfl⟩;refine aI ?_;exact cc
 .have key:sk op a b=(o.bit (decide (a<b)),0):=by subst e;rfl
  rw[key];refine aI ?_;refine J_ (BY _ w) ?_;rintro _ _ ⟨rfl,rfl⟩;refine aI ?_;exact cc
 .have key:sk op a b=(o.bit (decide (a<=b)),0):=by subst e;rfl
  rw[key];refine aI ?_;refine J_ (BY _ w) ?_;rintro _ _ ⟨rfl,rfl⟩;refine aI ?_;exact cc
 .have key:sk op a b=(o.bit (!decide (a=0) && !decide (b=0)),0):=by subst e;rfl
  rw[key];refine aI ?_;refine I_ (λh1=>?_) (λh1=>?_)
  all_goals
   refine aI ?_;refine J_ (BY _ w) ?_;rintro _ _ ⟨rfl,rfl⟩;refine aI ?_;refine⟨?_,fU⟩;simp[h1]
 .have key:sk op a b=(o.bit (!decide (a=0) || !decide (b=0)),0):=by subst e;rfl
  rw[key];refine aI ?_;refine I_ (λh1=>?_) (λh1=>?_)
  all_goals
   refine aI ?_;refine J_ (BY _ w) ?_;rintro _ _ ⟨rfl,rfl⟩;refine aI ?_;refine⟨?_,fU⟩;simp[h1]
def NR(l:C_ Int)(n:Int):(decide ((h6 l n).2=0)=true->h6 l n=((h6 l n).1,0))/\(decide ((h6 l n).2=0)=false->h6 l n=(0,8)):=by
 rcases auR l n with h | h
 .exact⟨λ_=>Prod.ext rfl h,λbq=>by simp[h] at bq⟩
 .exact⟨λbq=>by simp[h] at bq,λ_=>h⟩
def ate(x:o.Node)(cs:C_ B_)(v:o.Env)(w:A_)(ah:x.ok)(h:qI w cs v)(ab:x.op≠3)(t:Int) :
  Ei F.LC #[.agg x.enc.toArray,.agg cs.toArray] w λu w'=>u = .tuple #[.I (hd x v t).1,.I (hd x v t).2]/\Ext w w':=by
 obtain⟨a0,bz,db,c1,a2,c2,a3,bw,rfl,pk,c7,dE,ed,gW,eB,dD,dO,dU⟩:=h.form;refine bk E.LC ?_;refine aI ?_;refine O_ λw1 bx cN af al=>?_;refine aI ?_;refine O_ λaz bP c8 ai ao=>?_;have he:=af.trans ai;have cM:az.heap[bx]? = some (.cells #[.I x.op,.I x.n] T.e):=ai.obj al;clear al;refine aI ?_;apply I_<;>intro g1
 .have hk:hd x v t=if o.within x.n then (x.n,0) else (0,10):=by rw[hd,if_pos g1]
  (repeat' (refine aI ?_;first | (refine I_ (λ_=>?_) (λ_=>?_)<;>try (exfalso;omega)) | refine N_ (λ_=>?_) (λ_=>?_)))<;>try refine aI ?_
  all_goals
   refine⟨?_,fU⟩;rw[hk];unfold o.within;split<;>first | rfl | (rename_i cI;simp at cI;exfalso;omega)
 refine aI ?_;apply I_<;>intro g2
 .by_cases vi:x.n<0\/(v.vars.length:Int)<=x.n
  .have hk:hd x v t=(0,8):=by rw[hd,if_neg g1,if_pos g2,hc vi]
   rw[hk]
   (repeat' (refine aI ?_;first | (refine I_ (λ_=>?_) (λ_=>?_)<;>try (exfalso;omega)) | refine N_ (λ_=>?_) (λ_=>?_)))<;>try refine aI ?_
   all_goals exact cc
  obtain⟨i,U⟩:=Nb (show 0<=x.n by omega);have kz:i<v.vars.length:=Aw
  obtain⟨a,rfl⟩:=pk.addr;obtain⟨bK,je,fm⟩:=pk.at i kz;have aw:o.nth v.vars x.n=some v.vars[i]:=by rw[U,iP Aw Aw];simp only[Int.toNat_natCast]
  have hk:hd x v t=h6 v.vars[i] 0:=by rw[hd,if_neg g1,if_pos g2,aw]
  rw[hk];rw[U] at cM;refine aI ?_;refine M_ (he.cell je) ?_;refine aI ?_;refine J_ (Nf _ v.vars[i] 0 az (fm.ext he)) ?_;rintro _ aM ⟨rfl,ag⟩;obtain⟨jY,jK⟩:=NR v.vars[i] 0;refine aI ?_;refine N_ (λg=>?_) (λg=>?_)
  .refine aI ?_;rw[jY g];exact cc
  .refine aI ?_;rw[jK g];exact cc
 refine aI ?_;apply I_<;>intro g4
 .have hk:hd x v t=h6 v.locals x.n:=by rw[hd,if_neg g1,if_neg g2,if_neg ab,if_pos g4]
  rw[hk];refine aI ?_;refine J_ (Nf _ v.locals x.n az (dE.ext he)) ?_;rintro _ aM ⟨rfl,ag⟩;obtain⟨jY,jK⟩:=NR v.locals x.n;refine aI ?_;refine N_ (λg=>?_) (λg=>?_)
  .refine aI ?_;rw[jY g];exact cc
  .refine aI ?_;rw[jK g];exact cc
 refine aI ?_;apply I_<;>intro g5
 .have hk:hd x v t=(v.self,0):=by rw[hd,if_neg g1,if_neg g2,if_neg ab,if_neg g4,if_neg Aw,if_pos g5]
  rw[hk];refine aI ?_;exact cc
 refine aI ?_;apply I_<;>intro g6
 .have hk:hd x v t=h6 v.lens x.n:=by rw[hd,if_neg g1,if_neg g2,if_neg ab,if_neg g4,if_pos g6]
  rw[hk];refine aI ?_;refine J_ (Nf _ v.lens x.n az (c7.ext he)) ?_;rintro _ aM ⟨rfl,ag⟩;obtain⟨jY,jK⟩:=NR v.lens x.n;refine aI ?_;refine N_ (λg=>?_) (λg=>?_)
  .refine aI ?_;rw[jY g];exact cc
  .refine aI ?_;rw[jK g];exact cc
 refine aI ?_;apply I_<;>intro g7;rotate_left
 .have hk:hd x v t=(0,0):=by rw[hd,if_neg g1,if_neg g2,if_neg ab,if_neg g4,if_neg g6,if_neg g5,if_neg g7]
  rw[hk];refine aI ?_;exact cc
 have hk:hd x v t=if 0<=x.n then (match o.nth v.at_ (x.n.tdiv 16) with | some l=>h6 l (x.n.tmod 16) | none=>(0,8)) else (0,8):=by
  rw[hd,if_neg g1,if_neg g2,if_neg ab,if_neg g4,if_neg g6,if_neg g5,if_pos g7];split
  .cases o.nth v.at_ (x.n.tdiv 16)<;>rfl
  .rfl
 refine aI ?_;apply I_<;>intro g8
 .rw[hk,if_neg Aw];refine aI ?_;exact cc
 rw[if_pos Aw] at hk;obtain⟨i,U⟩:=Nb (show 0<=x.n by omega);obtain⟨_,hb⟩:=ah.n;rw[U] at hb;have av:x.n.tdiv 16=((i / 16:Nat):Int):=by rw[U];rfl
 have anE:x.n.tmod 16=((i % 16:Nat):Int):=by rw[U];rfl
 refine aI ?_;refine _C Aw ?_;rw[av];refine aI ?_;apply I_<;>intro g9
 .rw[hk,hc (.inr Aw)];refine aI ?_;exact cc
 have ay:i / 16<v.at_.length:=Aw
 obtain⟨a,rfl⟩:=ed.addr;obtain⟨bK,je,fm⟩:=ed.at (i / 16) ay;rw[av,iP Aw Aw] at hk;simp only[Int.toNat_natCast] at hk;rw[hk];refine aI ?_;refine _C Aw ?_;rw[av];refine aI ?_;refine M_ (he.cell je) ?_;refine aI ?_;refine _t Aw ?_;refine aI ?_;refine P_ _ (λw' e=>Nf _ v.at_[i / 16] _ w' (fm.ext (he.trans e))) ?_;obtain⟨jY,jK⟩:=NR v.at_[i / 16] (x.n.tmod 16);refine aI ?_;intro aM ag;refine aI ?_;refine N_ (λg=>?_) (λg=>?_)
 .refine aI ?_;rw[jY g];exact cc
 .refine aI ?_;rw[jK g];exact cc
def uC(x:o.Node)(k:Int)(v:o.Env):Int×Int:=match hp x.op with | some ae=>ya ae [k] | none=>hd x v k
def asV(x:o.Node)(k:Int)(cs:C_ B_)(v:o.Env)(w:A_)(h:qI w cs v)(nd:x.op=3\/x.op=9\/x.op=10) :
  Ei F.Lx #[.agg x.enc.toArray,.I k,.agg cs.toArray] w λu w'=>u = .tuple #[.I (uC x k v).1,.I (uC x k v).2]/\Ext w w':=by
 obtain⟨a0,bz,db,c1,a2,c2,a3,bw,rfl,pk,c7,dE,ed,gW,eB,dD,dO,dU⟩:=h.form;refine bk E.Lx ?_;refine aI ?_;refine O_ λw1 bx cN af al=>?_;refine aI ?_;refine O_ λaz bP c8 ai ao=>?_;have he:=af.trans ai;have cM:az.heap[bx]? = some (.cells #[.I x.op,.I x.n] T.e):=ai.obj al;clear al;refine aI ?_;apply I_<;>intro g9
 .have hk:uC x k v=(o.bit (decide (k=0)),0):=by rw[uC,g9];rfl
  rw[hk];refine aI ?_;refine J_ (BY _ az) ?_;rintro _ _ ⟨rfl,rfl⟩;refine aI ?_;exact cc
 refine aI ?_;apply I_<;>intro g10
 .have hk:uC x k v=if (o.tell (· - ·) 0 k).2=true then ((o.tell (· - ·) 0 k).1,0) else (0,10):=by rw[uC,g10];rfl
  rw[hk];refine aI ?_;refine J_ (aeQ 0 k az) ?_;rintro _ aM ⟨rfl,ag⟩;refine aI ?_;refine N_ (λg=>?_) (λg=>?_)
  all_goals
   refine aI ?_;rw[g];exact cc
 have g3:x.op=3:=Aw
 have fx:uC x k v=hd x v k:=by rw[uC,show hp x.op=none from by rw[g3];rfl]
 have hk:uC x k v=(match o.nth v.vars x.n with | some l=>(match o.nth l (k - 1) with | some y=>(y,0) | none=>(0,10)) | none=>(0,8)):=by
  rw[fx,hd,if_neg Aw,if_neg Aw,if_pos g3];cases o.nth v.vars x.n with
  | none=>rfl
  | some l=>simp only;cases o.nth l (k - 1)<;>rfl
 clear fx;by_cases vi:x.n<0\/(v.vars.length:Int)<=x.n
 .rw[hc vi] at hk;rw[hk]
  (repeat' (refine aI ?_;first | (refine I_ (λ_=>?_) (λ_=>?_)<;>try (exfalso;omega)) | refine N_ (λ_=>?_) (λ_=>?_)))<;>try refine aI ?_
  all_goals exact cc
 obtain⟨i,U⟩:=Nb (show 0<=x.n by omega);have kz:i<v.vars.length:=Aw
 obtain⟨a,rfl⟩:=pk.addr;obtain⟨bK,je,fm⟩:=pk.at i kz;obtain⟨ca,ci,rfl,li⟩:=fm.form;rw[U,iP Aw Aw] at hk;simp only[Int.toNat_natCast] at hk;rw[U] at cM;have jS:=fm.ext he;generalize v.vars[i]=l at *;by_cases FL:k<1\/(l.length:Int)<k
 .rw[hc Aw] at hk;simp only at hk;rw[hk];by_cases av3:k<1
  .refine aI ?_;exact cc
  .refine aI ?_;refine M_ (he.cell je) ?_;refine aI ?_;exact cc
 obtain⟨j,ay⟩:=Nb (show 0<=k - 1 by omega);have vx:j<l.length:=Aw
 rw[iP Aw Aw] at hk;simp only[ay,Int.toNat_natCast] at hk;rw[hk];obtain⟨cx,rfl⟩:=fm.addr;refine aI ?_;refine M_ (he.cell je) ?_;refine aI ?_;refine M_ (he.cell je) ?_;refine aI ?_;refine K_ j Aw Aw ?_;refine aI ?_;exact cc
def aj5{v:o.Env}{x:o.Node}{st:C_ Int}(h:fR x.op=0):kQ v x st=hd x v (st.getLastD 0):=by
 unfold kQ;rw[(MZ h).2.2.2]
theorem aj6{v:o.Env}{x:o.Node}{st:C_ Int}(h:fR x.op=1)(aE:1<=st.length):kQ v x st=uC x st[st.length - 1] v:=by
 unfold kQ uC;cases aS:hp x.op with
 | none=>simp only;rw[FK st Aw]
 | some ae =>
  have:=(Hu aS).1
  simp only;rw[show ae.parts.toNat=1 from Aw,PM aE]
def aj7{v:o.Env}{x:o.Node}{st:C_ Int}(h:fR x.op=2)(aE:2<=st.length):kQ v x st=sk x.op st[st.length - 2] st[st.length - 1]:=by
 unfold kQ sk;obtain⟨ae,aS,au⟩:=adM (show 9<=x.op/\x.op<=19 by have:=M0 h;omega);rw[aS];simp only;rw[show ae.parts.toNat=2 from Aw,YY aE]
def TY(gX:B_)(e:C_ o.Node)(cs:C_ B_)(v:o.Env)(w:A_)(he:eW w gX e)(h:qI w cs v) :
  Ei F.Lq #[gX,.agg cs.toArray] w λu w'=>u = .tuple #[.I (o.eval e v).1,.I (o.eval e v).2]/\Ext w w':=by
 obtain⟨v0,v1,v2,v3,rfl,_⟩:=h.ex;obtain⟨aN,cap,rfl,hlen⟩:=he.form;refine bk E.Lq ?_;refine aI ?_;refine O_ λw1 dA ug af al=>?_;refine aI ?_;apply I_<;>intro g1
 .refine aI ?_;rw[o.eval,nm,if_pos Aw];exact cc
 refine aI ?_;apply I_<;>intro g2
 .refine aI ?_;rw[o.eval,nm,if_neg Aw,if_pos Aw];exact cc
 refine aI ?_;refine _h 7 e.length (λk S w' => ∃u st,S 6=u/\uV w1.heap.size w' u st/\gq (kQ v) (e.take k) []=(0,st)/\(0<k->1<=st.length)/\st.length<=12/\Ext w1 w')
  (by simp -dsimp only[dg,cK,Nat.reduceAdd,Nat.reduceEqDiff,reduceIte,reduceCtorEq,dq]) ⟨.slice none 0 0,[],by simp -dsimp only[dg,cK,Nat.reduceAdd,Nat.reduceEqDiff,reduceIte,reduceCtorEq,dq],aK.nil _ _ _ _ _,by simp[gq],CC,CC,Ext.refl _⟩ ?_
 rintro k S az b7 hk ct ⟨v6,st,bJ,gz,ih,FN,sN,ai⟩;have ad:=b7 0 rfl;have ab:=b7 3 rfl;simp only[bE,Nat.reduceAdd,Nat.reduceEqDiff,reduceIte,kx,oe] at ad ab;clear b7;obtain⟨rq,tI,rfl,bS,jg⟩:=gz.form;have U:Ints az _ st:=aK.iR (enc:=encI) (sz:=1) (λ_=>rfl) gz;unfold maxLen at jg;refine en (i_ ad (i_ ab (i_ bJ ct))) ?_;apply I_<;>intro g3;rotate_left
 .have a1:k=e.length:=Aw
  subst a1;rw[AE8] at ih;have h1:=FN Aw;obtain⟨a,rfl⟩:=U.addr h1;have de:o.eval e v=if st.length > 1 then (0,5) else (st.headD 0,0):=by
   rw[o.eval,nm,if_neg Aw,if_neg Aw,ih,if_neg CC]
  rw[de];clear de;refine en (i_ ad (i_ ab (i_ bJ ct))) ?_;apply I_<;>intro g4
  .refine aI ?_;rw[if_pos Aw];exact cc
  .refine en (i_ ad (i_ ab (i_ bJ ct))) ?_;refine K_ 0 rfl Aw ?_;refine aI ?_;rw[if_neg Aw]
   have:st.headD 0=st[0]:=by
    cases st with
    | nil=>simp at h1
    | cons z st=>rfl
   rw[this];exact cc
 have a1:k<e.length:=Aw
 obtain⟨a,rfl⟩:=he.addr;have nJ:=(he.at k a1).ok;have kf:=λad=>Ub (f:=kQ v) (e:=e) Aw a1 ih ad;have DG:=Ec a1 ih;have FM:=af.trans ai;have eo:=ai.obj al;refine en (i_ ad (i_ ab (i_ bJ ct))) ?_;refine J_ (afA e[k].op az) ?_;rintro _ _ ⟨rfl,rfl⟩;generalize aw:fR e[k].op=n at *;have hn : -1<=n/\n<=2:=by rw[<-aw];unfold fR; (repeat' split)<;>omega
 refine en (i_ ad (i_ ab (i_ bJ ct))) ?_;apply I_<;>intro g4
 .have aj:o.stepG (kQ v) e[k] st=(3,st):=by unfold o.stepG;rw[aw,if_pos g4]
  rw[aj] at kf;refine aI ?_;rw[o.eval,kf CC];exact cc
 refine en (i_ ad (i_ ab (i_ bJ ct))) ?_;apply I_<;>intro g5
 .have aj:o.stepG (kQ v) e[k] st=(4,st):=by unfold o.stepG;rw[aw,if_neg g4,if_pos g5]
  rw[aj] at kf;refine aI ?_;rw[o.eval,kf CC];exact cc
 obtain⟨p,rfl⟩:=Nb (show 0<=n by omega);have lh:o.stepG (kQ v) e[k] st=if (kQ v e[k] st).2≠0 then ((kQ v e[k] st).2,st) else if (st.take (st.length - p)++[(kQ v e[k] st).1]).length > 12 then (12,st) else (0,st.take (st.length - p)++[(kQ v e[k] st).1]):=by
  unfold o.stepG;rw[aw,if_neg g4,if_neg g5];simp only[Int.toNat_natCast]
 have l4:(st.take (st.length - p)++[(kQ v e[k] st).1]).length=st.length - p+1:=by simp[List.length_take]
 rw[l4] at lh;have fin:p=0\/p=1\/p=2:=Aw
 rcases fin with Bd | Bd | Bd
 case' inl =>
  have ax:=aj5 (v:=v) (st:=st) (x:=e[k]) Aw;obtain⟨fT,z2,z3,z4⟩:=MZ (x:=e[k].op) Aw;refine en (i_ ad (i_ ab (i_ bJ ct))) ?_;refine T_ (c:=[_,_,_,_,_]) eo (Ext.refl _) rfl ?_;refine en (i_ ad (i_ ab (i_ bJ ct))) ?_;refine P_ _ (λw' e'=>ate e[k] _ v w' nJ (h.ext (FM.trans e')) z3 (st.getLastD 0)) ?_;rw[<-ax];refine en (i_ ad (i_ ab (i_ bJ ct))) ?_
 case' inr.inl =>
  have ax:=aj6 (v:=v) (st:=st) (x:=e[k]) Aw Aw;obtain⟨nU,rfl⟩:=U.addr;refine en (i_ ad (i_ ab (i_ bJ ct))) ?_;refine K_ (st.length - 1) Aw Aw ?_;refine en (i_ ad (i_ ab (i_ bJ ct))) ?_;refine T_ (c:=[_,_,_,_,_]) eo (Ext.refl _) rfl ?_;refine en (i_ ad (i_ ab (i_ bJ ct))) ?_;refine P_ _ (λw' e'=>asV e[k] _ _ v w' (h.ext (FM.trans e')) (adF Aw)) ?_;rw[<-ax];refine en (i_ ad (i_ ab (i_ bJ ct))) ?_
 case' inr.inr =>
  have ax:=aj7 (v:=v) (st:=st) (x:=e[k]) Aw Aw;obtain⟨nU,rfl⟩:=U.addr;refine en (i_ ad (i_ ab (i_ bJ ct))) ?_;refine K_ (st.length - 2) Aw Aw ?_;refine en (i_ ad (i_ ab (i_ bJ ct))) ?_;refine K_ (st.length - 1) Aw Aw ?_;refine en (i_ ad (i_ ab (i_ bJ ct))) ?_;refine P_ _ (λw' e'=>aso e[k].op _ _ w' (M0 Aw)) ?_;rw[<-ax];refine en (i_ ad (i_ ab (i_ bJ ct))) ?_
 all_goals
  intro aM ag;refine en (i_ ad (i_ ab (i_ bJ ct))) ?_;apply I_<;>intro g6;rotate_left
  .rw[if_pos g6] at lh;refine aI ?_;rw[o.eval,kf (by rw[lh];exact g6),lh];exact cc
  rw[if_neg (by simpa using g6)] at lh;have ez:=gz.ext ag;refine en (i_ ad (i_ ab (i_ bJ ct))) ?_;refine _D (cs:=[]) (by simp[List.range,List.range.loop,gG]) λaR cQ fD aq bn=>?_;have z12:=ai.size;have z23:=ag.size;have agb:=aq.size;have Qq:uV w1.heap.size aR (.slice (some ⟨cQ,0,none⟩) 0 0) []:=aK.empty Aw bn;have dj:=ez.ext aq;have dC:uV w1.heap.size aR (.slice _ (st.length - p) _) (st.take (st.length - p)):=aK.head (enc:=encI) (sz:=1) (xs:=st) (λ_=>rfl) dj (st.length - p) (Nat.sub_le _ _);have cu:(st.take (st.length - p)).length=st.length - p:=by simp[List.length_take]
  refine en (i_ ad (i_ ab (i_ bJ ct))) ?_;refine _i (st.length - p) (by simp -dsimp only[dg,cK,Nat.reduceAdd,Nat.reduceEqDiff,reduceIte,reduceCtorEq,dq,bJ];first | rfl | (congr 1;omega)) Aw ?_;refine aI ?_;refine _n (xs:=[]) (ys:=st.take (st.length - p)) Qq dC (λ_=>rfl) Jz (by rw[cu];simp only[List.length_nil];omega) (by rw[cu];simp only[List.length_nil,maxLen];omega) Aw λv5 bg Bh kS=>?_;have Gn:Ext aM bg:=aq.grown kS λq av=>by simp[Value.ownBlock] at av;omega
  rw[AF8] at Bh;have z35:=Gn.size;refine aI ?_;refine _D (cs:=[(kQ v e[k] st).1].flatMap encI) (by simp[List.range,List.range.loop,gG,lay,dc,bE,Value.cells,encI]) λbp dm e8 aC bS=>?_;have U0:=aC.size;have dk:=Bh.ext aC;refine aI ?_;refine _j (xs:=st.take (st.length - p)) (ys:=[(kQ v e[k] st).1]) dk (λ_=>rfl) (hK bS) rfl Jz (by rw[cu];simp only[List.length_cons,List.length_nil];omega) (by rw[cu];simp only[List.length_cons,List.length_nil,maxLen];omega) Aw λafO bH dY jR=>?_;have bc:Ext w1 bH:=Ext.grown (((ai.trans ag).trans Gn).trans aC) jR λq av=>(dk.lt q av).1;obtain⟨aqB,qR,rfl,_⟩:=dY.form;rw[l4] at dY ⊢;by_cases g7:12<st.length - p+1
  .rw[if_pos Aw] at lh
   first
    | (exfalso;omega)
    | (refine aI ?_
       rw[o.eval,kf (by rw[lh];simp),lh];exact⟨aJ,af.trans bc⟩)
  rw[if_neg Aw] at lh;refine en ct ?_;refine⟨a1,aJ,_,_,rfl,dY,by rw[DG,lh],λ_=>by rw[l4];omega,by rw[l4];omega,bc⟩
end Go.Proofs.R
namespace o
open Go
def aks{m:Model}(aL:eE m){s:C_ Int}(ax:Fits m s):∀x∈s,-9223372036854775808<=x/\x<=9223372036854775807:=λx ah=>by
 obtain⟨i,U,rfl⟩:=List.mem_iff_getElem.1 ah;have bq:i<(cp m).length:=by have:=ax.len;unfold di at this;omega
 have h1:=ax.cell i U bq;have J:=ah4 aL _ (E2 bq);obtain⟨bx,bP,bV⟩:=J;omega
structure VN(v:Env):Prop where
 vars:∀l∈v.vars,∀x∈l,dZ x
 lens:∀x∈v.lens,dZ x
 locals:∀x∈v.locals,dZ x
 at_:∀l∈v.at_,∀x∈l,dZ x
 self:dZ v.self
def PX{m:Model}(aL:eE m){s:C_ Int}(ax:Fits m s){q:Nat}(av:q<(insts m).length):VN (cX m s q):=by
 have eh:=aks aL ax;have tY:=(rl _ (E2 av)).elem;have gj:=xz aL;refine⟨λl aE x ah=>?_,λx ah=>?_,λx ah=>?_,λl aE x ah=>?_,?_⟩
 .simp only[cX,List.mem_map] at aE;obtain⟨k,_,rfl⟩:=aE;exact eh x (List.mem_of_mem_drop (AK2 ah))
 .simp only[cX,List.mem_map] at ah;obtain⟨k,_,rfl⟩:=ah;rw[List.getElem!_eq_getElem?_getD];cases hk:s[b6 m k]? with
  | none=>simp[dZ]
  | some y=>exact eh y (List.mem_of_getElem? hk)
 .rw[(HS s av rfl).1] at ah;exact eh x (List.mem_of_mem_drop (AK2 ah))
 .simp only[cX,List.mem_map] at aE;obtain⟨k,_,rfl⟩:=aE;unfold kP at ah;obtain⟨d,_,rfl⟩:=List.mem_map.1 ah
  have:=O9 m s k d (insts m).length
  unfold dZ;omega
 .rw[(HS s av rfl).2];unfold dZ;omega
end o
namespace ba
open Go Go.RowKit
def _k{b n k:Nat}{c:C_ B_}{ty:F_}{w:A_}{bl:B_->Prop}{t}(cs:C_ B_)(ak:w.heap[b]? = some (.cells c.toArray ty))(gx:(c.drop k).take n=cs)(aw:cs.length=n)(hk:bl (.agg cs.toArray)):yn n (.pointer (some (Addr.add ⟨b,0,none⟩ k))) w bl t:=by
 refine Z_ (cs:=cs) (λj v ay=>?_) aw hk;subst gx;rw[List.getElem?_take] at ay;split at ay
 .rw[List.getElem?_drop] at ay;rw[add_add];exact fP ak (by simpa using ay)
 .cases ay
end ba
namespace Go.Proofs.R
open Go Go.RowKit ba o
def SP{w:A_}{v:B_}{l:C_ Int}(h:c3 w v l)(eh:∀x∈l,dZ x):py w v l:=by
 obtain⟨aN,cap,e,h1,J,ab,aF⟩:=h.ex;exact⟨aN,cap,e,h1,J,ab,λa aY i U=>⟨aF a aY i U,eh _ (E2 U)⟩⟩
def aeL{w:A_}{v:B_}{l:C_ (C_ Int)}(h:yp w v l)(eh:∀r∈l,∀x∈r,dZ x):wx w v l:=by
 obtain⟨aN,cap,e,h1,J,ab,aF⟩:=h.ex;refine⟨aN,cap,e,h1,J,ab,λa aY i U=>?_⟩;obtain⟨u,hu,aw⟩:=aF a aY i U;exact⟨u,hu,SP aw (eh _ (E2 U))⟩
def PW{w:A_}{cs:C_ B_}{x:o.Env}(h:Oi w cs x)(aS:VN x):qI w cs x:=by
 obtain⟨v0,v1,v2,v3,rfl,ad,h1,J,ab⟩:=h.ex;exact⟨v0,v1,v2,v3,rfl,aeL ad aS.vars,SP h1 aS.lens,SP J aS.locals,aeL ab aS.at_,aS.self⟩
def Xw(base:Nat)(ae:H_ (C_ Int))(u:B_)(w:A_):Prop :=
 (ae=none/\u = .tuple #[.slice none 0 0,.bool false])\/(∃t kp,ae=some t/\u = .tuple #[kp,.bool true]/\iy base w kp t)
def asa(cs:C_ B_)(v bK bY:B_)(m:o.Model)(s:C_ Int)(q p:Nat)(a:o.Act)(w:A_)(h:pC w cs m)(aG:m.cr)(aL:eE m)(aj:c3 w v s)(ax:o.Fits m s)(aP:fL m q p)
  (U:eW w bK a.index)(aH:eW w bY a.value)(aY:nR (o.inner (m.procs[p]'(aP.au)) (eC m)) a) :
  Ei F.Mr #[.agg cs.toArray,v,.I q,.agg (a.enc bK bY).toArray] w λu w'=>Xw w.heap.size (h9 m s q a) u w'/\Ext w w':=by
 have ew:=h;obtain⟨eD,d0,dI,d1,ec,d2,ep,d3,eM,d4,bZ,bz,bN,c1,bT,c2,bW,bw,b1,bD,ca,ci,e1,gh,rfl,b2,pJ,dF,cR,cA,eN,fs,ad,h1,J,ab,alj,QA⟩:=h.form;obtain⟨os,oX,rfl,DT⟩:=aj.form;obtain⟨Tv,eF,rfl,xK⟩:=U.form;obtain⟨BH,Ax,rfl,lvl⟩:=aH.form;have zc:=aY.kind;have hlen:=ax.len;have jN:di m<=64:=iH aL;have gj:=aL.gj;have av:=aP.av;have aw7:=aP.zL aL;obtain⟨f6,f7,f8⟩:=pT m;obtain⟨sU,iD⟩:=ow av;have c9:=PX aL ax av;refine bk E.Mr ?_;refine I ?_;intro w1 cQ fD af bn;refine I ?_;intro az ia hi ai b3;replace bn:=ai.obj bn;have aD:=af.trans ai;unfold o.Act.enc at b3;refine I ?_;apply I_<;>intro g5
 .obtain⟨fj,dS⟩:=aY.chan (.inr g5);have dL:a.to.toNat<m.aA.length:=dS;have gK:a.to=(a.to.toNat:Nat):=Aw
  rw[gK] at b3;refine I ?_;refine J_ (TU _ _ m s a.to.toNat az (ew.ext aD) aL (aj.ext Flat.ext aD) hlen dL) ?_;rintro u aM ⟨hu,ag⟩;obtain⟨rr,mT,rfl,_⟩:=hu.form;have dN:(o.chanOf m s a.to.toNat).length=1+gF m a.to.toNat:=u5 (by rw[hlen];exact n1 dL);have GP:=tJ aL dL;have abX:=n1 dL;obtain⟨eB,GH⟩:=aY.recv g5;have GG:a.loc.toNat<(m.procs[p]'(aP.au)).vars.length:=GH;have aog:=aP.room;have done:h9 m s q a=zI m s q a:=by unfold h9;rw[if_pos g5]
  rw[done];unfold zI;replace bn:=ag.obj bn;replace b3:=ag.obj b3;have aO:=aD.trans ag;refine I ?_;refine J_ (as8 _ _ aM hu Aw) ?_;rintro u aR ⟨bR,aq⟩;replace bn:=aq.obj bn;replace b3:=aq.obj b3;have bo:=aO.trans aq;rcases bR with ⟨ey,rfl⟩ | ⟨r,x,vr,hX,rfl,xn⟩
  .refine I ?_;exact⟨.inl ⟨by rw[ey],aJ⟩,bo⟩
  obtain⟨aq1,aiV,rfl,_⟩:=xn.form;have hM:=NH hX;rw[hX];obtain⟨pE,rfl⟩:=cA.addr;have xW:=cA.ext Flat.ext bo;refine I ?_;intro bg ar;replace bn:=ar.obj bn;replace b3:=ar.obj b3;replace xW:=xW.ext Flat.ext ar;have bC:=bo.trans ar;refine I ?_;rw[iD];refine I ?_;refine J_ (T2 _ _ _ m s r a.to.toNat bg (ew.ext bC) aL (aj.ext Flat.ext bC) ((kF xn).ext Flat.ext ar) hlen dL Aw) ?_;rintro u bp ⟨dk,aC⟩;obtain⟨D3,CK,rfl,_⟩:=dk.form;have b5:=bC.trans aC;have kz:(h0 s (b6 m a.to.toNat) r).length=di m:=by rw[G6 Aw];exact hlen
  refine⟨aC,?_⟩;refine I ?_;refine J_ (Nl _ _ m (h0 s (b6 m a.to.toNat) r) (cV m q+1+a.loc.toNat) _ x bp (ew.ext b5) aL (kF dk) kz Aw Aw) ?_;rintro u bH ⟨bR,bc⟩;rcases bR with ⟨ey,rfl⟩ | ⟨t,kp,aoo,rfl,lH⟩
  .refine I ?_;exact⟨.inl ⟨ey,aJ⟩,b5.trans bc⟩
  .obtain⟨qs,oW,rfl,_⟩:=lH.form;refine I ?_;exact⟨.inr ⟨t,_,aoo,rfl,aK.low b5.size lH⟩,b5.trans bc⟩
 .refine I ?_;refine _k [.slice eD m.scalars.length d0,.slice dI m.vars.length d1,.slice ec m.aA.length d2,.slice ep m.procs.length d3,.slice eM m.props.length d4] bn rfl rfl ?_;refine I ?_;refine _k [.slice bZ (o.layout m).vars.length bz,.slice bN (o.layout m).aA.length c1,.slice bT (o.layout m).insts.length c2,.I (o.layout m).cells,.slice bW (o.layout m).aV.length bw,.slice b1 (o.layout m).U.length bD] bn rfl rfl ?_;refine I ?_;refine J_ (aeP _ _ _ m s q az (b2.ext aD) aG aL (pJ.ext aD) (aj.ext Flat.ext aD) ax Aw Aw) ?_;rintro _ aM ⟨⟨es,rfl,aw⟩,ag⟩;have de:=PW aw.here c9;have J5:=de;obtain⟨a0,fj,db,cM,a2,cW,a3,fr,rfl,pk,c7,dE,ed,gW,_⟩:=de.form;replace bn:=ag.obj bn;replace b3:=ag.obj b3;have aO:=aD.trans ag;refine I ?_;intro aR b13 F5 aq gw;replace bn:=aq.obj bn;replace b3:=aq.obj b3;have bo:=aO.trans aq;refine I ?_;refine J_ (TY _ a.value _ (cX m s q) aR (aH.ext bo) (J5.ext aq)) ?_;rintro _ bg ⟨rfl,ar⟩;obtain⟨n,pO⟩:∃n,n=(o.eval a.value (cX m s q)).1:=⟨_,rfl⟩;obtain⟨e,o5⟩:∃e,e=(o.eval a.value (cX m s q)).2:=⟨_,rfl⟩;rw[<-pO,<-o5];replace bn:=ar.obj bn;replace b3:=ar.obj b3;replace gw:=ar.obj gw;have bC:=bo.trans ar;have fT:=aD.size;refine I ?_;refine I_ (λvL=>?_) (λvL=>?_);rotate_left
  .refine I ?_;refine⟨.inl ⟨?_,aJ⟩,bC⟩;unfold h9;rw[if_neg g5,<-o5,if_pos vL]
  have done:h9 m s q a=if a.kind=1 then o.putAt m s (gb m a.to.toNat) n else if a.kind=2 then xB m s a (o.eval a.index (cX m s q)) n else if a.kind=3 then o.putAt m s (cV m q+1+a.to.toNat) n else vZ m s a.to.toNat n:=by
   unfold h9;rw[if_neg g5,<-o5,if_neg (by simpa using vL),<-pO]
  rw[done];have rf:=aj.ext Flat.ext bC;have aap:=ew.ext bC;refine I ?_;apply I_<;>intro g1
  .obtain⟨fj,bU,dS,iE⟩:=aY.set g1;have hB:a.to.toNat<m.vars.length:=(List.getElem?_eq_some_iff.1 dS).1;obtain⟨dP,gn⟩:=rB hB;have oo:=Et aL hB;have Sl:=sl hB;have eI:=nC m;have RE:=rp hB;have amB:o.cells m.vars[a.to.toNat] m.scalars=1:=by
    have GZ:m.vars[a.to.toNat]=bU:=(List.getElem?_eq_some_iff.1 dS).2;rw[GZ];unfold o.cells;rw[if_pos iE]
   obtain⟨pE,rfl⟩:=dF.addr;have BM:=dF.ext Flat.ext bC;refine I ?_;intro bp aC;replace bn:=aC.obj bn;replace b3:=aC.obj b3;replace BM:=BM.ext Flat.ext aC;have b5:=bC.trans aC;refine I ?_;refine K_ a.to.toNat Aw Aw ?_;refine I ?_;refine J_ (Nl _ _ m s (gb m a.to.toNat) _ n bp (ew.ext b5) aL (aj.ext Flat.ext b5) hlen (by rw[gn]) Aw) ?_;rintro u bH ⟨bR,bc⟩;rcases bR with ⟨ey,rfl⟩ | ⟨t,kp,hX,rfl,lH⟩
   .refine I ?_;exact⟨.inl ⟨by rw[if_pos g1];exact ey,aJ⟩,b5.trans bc⟩
   .obtain⟨qs,oW,rfl,_⟩:=lH.form;refine I ?_;exact⟨.inr ⟨t,_,by rw[if_pos g1];exact hX,rfl,aK.low b5.size lH⟩,b5.trans bc⟩
  refine I ?_;apply I_<;>intro g2
  .obtain⟨fj,GY,A5⟩:=aY.item g2;have hB:a.to.toNat<m.vars.length:=GY;obtain⟨dP,gn⟩:=rB hB;have Sl:=sl hB;have eI:=nC m;have RE:=rp hB;have dN:=sH m.vars[a.to.toNat] m.scalars;have aox:=Ur (s:=s) (inst:=(q:Int)) hB;have aoA:=Ny m s q;obtain⟨aoB,aoC⟩:=List.getElem?_eq_some_iff.1 aox;have hM:((cX m s q).vars[a.to.toNat]).length=lI m a.to.toNat:=by rw[aoC,H5,AF5];omega
   obtain⟨pE,rfl⟩:=dF.addr;obtain⟨nY,rfl⟩:=pk.addr;obtain⟨vr,fp,kV⟩:=pk.at a.to.toNat aoB;obtain⟨ax6,avV,rfl,_⟩:=kV.form;rw[hM] at fp;refine I ?_;refine J_ (TY _ a.index _ (cX m s q) bg (U.ext bC) (J5.ext (aq.trans ar))) ?_;rintro _ bp ⟨rfl,aC⟩;obtain⟨k,Gz⟩:∃k,k=(o.eval a.index (cX m s q)).1:=⟨_,rfl⟩;obtain⟨f,Gs⟩:∃f,f=(o.eval a.index (cX m s q)).2:=⟨_,rfl⟩;have o6:∀n,xB m s a (o.eval a.index (cX m s q)) n=if f≠0\/k<1\/(lI m a.to.toNat:Int)<k then none else o.putAt m s (gb m a.to.toNat+k.toNat - 1) n:=λn=>by unfold xB;rw[<-Gz,<-Gs]
   rw[o6,<-Gz,<-Gs];clear o6;replace bn:=aC.obj bn;replace b3:=aC.obj b3;replace gw:=aC.obj gw;have b5:=bC.trans aC;have amL:=((aq.trans ar).trans aC).cell fp;refine I ?_;refine I_ (λkh=>?_) (λkh=>?_);rotate_left
   .refine I ?_;exact⟨.inl ⟨by rw[if_neg g1,if_pos g2,if_pos (.inl kh)],aJ⟩,b5⟩
   refine I ?_;refine I_ (λh2=>?_) (λh2=>?_)
   .refine I ?_;exact⟨.inl ⟨by rw[if_neg g1,if_pos g2,if_pos (.inr (.inl h2))],aJ⟩,b5⟩
   refine I ?_;refine K_ a.to.toNat Aw Aw ?_;refine I ?_;refine M_ amL ?_;refine I ?_;refine I_ (λxC=>?_) (λxC=>?_)
   .refine I ?_;exact⟨.inl ⟨by rw[if_neg g1,if_pos g2,if_pos (.inr (.inr Aw))],aJ⟩,b5⟩
   have aeg:=dF.ext Flat.ext b5;refine I ?_;intro bH bc;replace bn:=bc.obj bn;replace b3:=bc.obj b3;replace aeg:=aeg.ext Flat.ext bc;have cL:=b5.trans bc;refine I ?_;refine K_ a.to.toNat Aw Aw ?_;refine I ?_;refine J_ (Nl _ _ m s (gb m a.to.toNat+k.toNat - 1) _ n bH (ew.ext cL) aL (aj.ext Flat.ext cL) hlen (by rw[gn];omega) Aw) ?_;rintro u cB ⟨bR,bt⟩;rcases bR with ⟨ey,rfl⟩ | ⟨t,kp,hX,rfl,lH⟩
   .refine I ?_;exact⟨.inl ⟨by rw[if_neg g1,if_pos g2,if_neg Aw];exact ey,aJ⟩,cL.trans bt⟩
   .obtain⟨qs,oW,rfl,_⟩:=lH.form;refine I ?_;exact⟨.inr ⟨t,_,by rw[if_neg g1,if_pos g2,if_neg Aw];exact hX,rfl,aK.low cL.size lH⟩,cL.trans bt⟩
  refine I ?_;apply I_<;>intro g3
  .obtain⟨fj,hB⟩:=aY.loc g3;have dL:a.to.toNat<(m.procs[p]'(aP.au)).vars.length:=hB;have GP:=aP.room;obtain⟨pE,rfl⟩:=cA.addr;have oD:=cA.ext Flat.ext bC;refine I ?_;intro bp aC;replace bn:=aC.obj bn;replace b3:=aC.obj b3;replace oD:=oD.ext Flat.ext aC;have b5:=bC.trans aC;refine I ?_;rw[iD];refine I ?_;refine J_ (Nl _ _ m s (cV m q+1+a.to.toNat) _ n bp (ew.ext b5) aL (aj.ext Flat.ext b5) hlen Aw Aw) ?_;rintro u bH ⟨bR,bc⟩;rcases bR with ⟨ey,rfl⟩ | ⟨t,kp,hX,rfl,lH⟩
   .refine I ?_;exact⟨.inl ⟨by rw[if_neg g1,if_neg g2,if_pos g3];exact ey,aJ⟩,b5.trans bc⟩
   .obtain⟨qs,oW,rfl,_⟩:=lH.form;refine I ?_;exact⟨.inr ⟨t,_,by rw[if_neg g1,if_neg g2,if_pos g3];exact hX,rfl,aK.low b5.size lH⟩,b5.trans bc⟩
  have g4:a.kind=4:=Aw
  rw[if_neg g1,if_neg g2,if_neg g3];obtain⟨fj,hB⟩:=aY.chan (.inl g4);have dL:a.to.toNat<m.aA.length:=hB;have aaT:=aL.chan _ (E2 dL);obtain⟨nW,rfl⟩:=J.addr;have dK:=((J.at a.to.toNat dL).cells).ext bC;refine I ?_;refine K_ a.to.toNat Aw dL ?_;refine dV ?_;intro bp avG awk aC QS;replace bn:=aC.obj bn;replace b3:=aC.obj b3;have b5:=bC.trans aC;refine dV ?_;simp -dsimp only[cK];refine dV ?_;intro bH bc;replace bn:=bc.obj bn;replace b3:=bc.obj b3;replace QS:=bc.obj QS;have cL:=b5.trans bc;have mA:=Pu aaT gj.1;have Kd:wM m a.to.toNat=e7 m.aA[a.to.toNat].scalar m.aA[a.to.toNat].aV m.aA[a.to.toNat].U m.scalars:=by unfold wM;rw[List.getElem?_eq_getElem dL]
  clear dK;unfold ea.enc at QS;refine dV ?_;refine R_ [1,4,7,14,18] (λx:Int×Int=>[(19,.I x.1),(20,.I x.2)]) (λx W=>Ext bH W/\x.1=(wM m a.to.toNat).aV/\x.2=(wM m a.to.toNat).U) ?_ ?_
  .refine I ?_;refine I_ (λkh=>?_) (λkh=>?_)
   .have bB:=aaT.ll.resolve_left Aw;obtain⟨j,ay,abj,Gx⟩:∃(j:Nat) (ay:j<m.scalars.length),m.aA[a.to.toNat].scalar=(j:Int)+1/\o.size m.aA[a.to.toNat].scalar m.scalars=m.scalars[j].size:=by
     unfold o.size at bB ⊢;cases ah:m.scalars[(m.aA[a.to.toNat].scalar - 1).toNat]? with
     | none=>rw[ah] at bB;exact absurd rfl bB
     | some x =>
      rw[ah] at bB;obtain⟨ay,rfl⟩:=List.getElem?_eq_some_iff.1 ah;simp only at bB ⊢;split at bB
      .rename_i cI;exact⟨_,ay,Aw,by rw[if_pos cI]⟩
      .exact absurd rfl bB
    obtain⟨Aj,rfl⟩:=ad.addr;have gx:=((ad.at j ay).cells).ext cL;refine I ?_;refine K_ j Aw ay ?_;refine I ?_;intro cB bt;refine I ?_;refine⟨(0,m.scalars[j].size),⟨rfl,rfl,trivial⟩,bt,?_,?_⟩
    .rw[Kd];unfold e7;rw[if_neg Aw]
    .rw[Kd];unfold e7;rw[if_neg Aw];exact Gx.symm
   .refine I ?_;refine⟨(m.aA[a.to.toNat].aV,m.aA[a.to.toNat].U),⟨rfl,rfl,trivial⟩,Ext.refl _,?_,?_⟩
    .rw[Kd];unfold e7;rw[if_pos Aw]
    .rw[Kd];unfold e7;rw[if_pos Aw]
  rintro⟨aV,cw⟩ S cB ⟨bt,hA,ud⟩;simp only at hA ud;replace bn:=bt.obj bn;replace b3:=bt.obj b3;have eK:=cL.trans bt;have Ic:=eK.size;rw[show vZ m s a.to.toNat n=if n<aV\/cw<n then none else (nN (o.chanOf m s a.to.toNat) n).map (h0 s (b6 m a.to.toNat)) from by unfold vZ;rw[<-hA,<-ud]];refine I ?_;refine I_ (λkh=>?_) (λkh=>?_)
  .refine I ?_;exact⟨.inl ⟨by rw[if_pos (.inl kh)],aJ⟩,eK⟩
  refine I ?_;refine I_ (λh2=>?_) (λh2=>?_)
  .refine I ?_;exact⟨.inl ⟨by rw[if_pos (.inr Aw)],aJ⟩,eK⟩
  rw[if_neg Aw];have gK:a.to=(a.to.toNat:Nat):=Aw
  rw[gK] at b3;have dN:(o.chanOf m s a.to.toNat).length=1+gF m a.to.toNat:=u5 (by rw[hlen];exact n1 dL);have GP:=tJ aL dL;refine I ?_;refine J_ (TU _ _ m s a.to.toNat cB (ew.ext eK) aL (aj.ext Flat.ext eK) hlen dL) ?_;rintro u cD ⟨hu,b0⟩;obtain⟨rr,mT,rfl,_⟩:=hu.form;replace bn:=b0.obj bn;replace b3:=b0.obj b3;have fO:=eK.trans b0;refine I ?_;refine J_ (as6 _ _ n cD hu Aw) ?_;rintro u et ⟨bR,cd⟩;replace bn:=cd.obj bn;replace b3:=cd.obj b3;have j8:=fO.trans cd;rcases bR with ⟨ey,rfl⟩ | ⟨r,vr,hX,rfl,xn⟩
  .refine I ?_;exact⟨.inl ⟨by rw[ey];rfl,aJ⟩,j8⟩
  .obtain⟨aq1,aiV,rfl,_⟩:=xn.form;have hM:=Na hX;refine I ?_;refine J_ (T2 _ _ _ m s r a.to.toNat et (ew.ext j8) aL (aj.ext Flat.ext j8) (kF xn) hlen dL Aw) ?_;rintro u ft ⟨o9,ef⟩;obtain⟨D3,CK,rfl,_⟩:=o9.form;refine I ?_;exact⟨.inr ⟨_,_,by rw[hX];rfl,rfl,aK.low j8.size o9⟩,j8.trans ef⟩
end Go.Proofs.R
namespace o
open Go
def O1(m:Model)(q:Nat)(l:C_ Act)(s:C_ Int){k:Nat}(hk:k<l.length):lu m q (l.take (k+1)) s=match lu m q (l.take k) s with | none=>none | some t=>h9 m t q l[k]:=by
 rw[MR hk,XU]<;>rfl
theorem O0(m:Model)(q:Nat):∀(l:C_ Act) (s:C_ Int) (k:Nat),lu m q (l.take k) s=none->lu m q l s=none
 | [],s,k,h=>by simp[lu] at h
 | a :: l,s,0,h=>by simp[lu] at h
 | a :: l,s,k+1,h=>by
  simp only[List.take_succ_cons,lu] at h ⊢;cases h1:h9 m s q a with
  | none=>rfl
  | some t=>rw[h1] at h;exact O0 m q l t k h
end o
namespace Go.Proofs.R
open Go Go.RowKit ba o
def aem(cs:C_ B_)(v:B_)(m:o.Model)(s:C_ Int)(ref:Int)(q p k:Nat)(w:A_)(h:pC w cs m)(aG:m.cr)(aj:c3 w v s)(ax:o.Fits m s)(br:fe m ref q p k) :
  Ei F.Mv #[.agg cs.toArray,v,.I ref] w λu w'=>Xw w.heap.size (hS m s q (bM m p k)) u w'/\Ext w w':=by
 have ew:=h;have aL:=gU br.ok;obtain⟨eD,d0,dI,d1,ec,d2,ep,d3,eM,d4,bZ,bz,bN,c1,bT,c2,bW,bw,b1,bD,ca,ci,e1,gh,rfl,b2,pJ,dF,cR,cA,eN,fs,ad,h1,J,ab,alj,QA⟩:=h.form;obtain⟨os,oX,rfl,DT⟩:=aj.form;have aP:=br.inst;have jf:=br.cin;have qk:=jf.gj;have av:=aP.av;have hlen:=ax.len;have jN:di m<=64:=iH aL;have vv:=aP.room;obtain⟨r,rfl⟩:=Nb br.aV;have aT:r<(o.refs m).length:=br.U;have fm:(o.refs m)[r].inst=(q:Int):=br.at_.nk;have ke:(o.refs m)[r].cmd=(k:Int):=br.at_.pU;obtain⟨sU,iD⟩:=ow av;obtain⟨iN,rfl⟩:=QA.addr;obtain⟨a2,rfl⟩:=cA.addr;obtain⟨IS,rfl⟩:=aj.addr;have c9:=PX aL ax av;obtain⟨c,tW⟩:∃c,c=bM m p k:=⟨_,rfl⟩;rw[<-tW] at jf qk ⊢;refine bk E.Mv ?_;refine I ?_;intro w1 bV eX af a8;have alE:=QA.ext Flat.ext af;refine I ?_;intro az j6 mv ai cF;have tP:(o.refs m)[r].enc=[.I q,.I k]:=by unfold o.Ref.enc;rw[fm,ke]
 rw[tP] at cF;replace a8:=ai.obj a8;have aD:=af.trans ai;clear alE;refine I ?_;refine J_ (TO _ m r q p k az (ew.ext aD) br) ?_;rintro _ aM ⟨⟨eY,va,rfl,ga,e2⟩,ag⟩;rw[<-tW] at ga e2 ⊢;obtain⟨fE,fN,rfl,_⟩:=ga.form;obtain⟨oC,n2,rfl,_⟩:=e2.form;replace a8:=ag.obj a8;replace cF:=ag.obj cF;have aO:=aD.trans ag;unfold dG.enc;refine I ?_;intro aR b9 lZ aq cG;replace a8:=aq.obj a8;replace cF:=aq.obj cF;have bo:=aO.trans aq;have kW:=aj.ext Flat.ext bo;have xW:=cA.ext Flat.ext bo;have abG:=ga.ext (ag.trans aq);have abE:=e2.ext (ag.trans aq);clear ga e2;refine I ?_;refine K_ (cV m q) (by rw[iD]) Aw ?_;refine I ?_;intro bg ar;replace a8:=ar.obj a8;replace cF:=ar.obj cF;replace cG:=ar.obj cG;have bC:=bo.trans ar;have RL:=abG.ext ar;have DC:=abE.ext ar;have sX:s[cV m q]? = some (s[cV m q]' Aw):=List.getElem?_eq_getElem Aw;clear abG abE kW xW;refine dV ?_;apply I_<;>intro g1;rotate_left
 .refine I ?_;exact⟨.inl ⟨by unfold hS;rw[sX,if_pos (by simpa using g1)],aJ⟩,bC⟩
 have r0:hS m s q c=if 0<c.guard.length/\((o.eval c.guard (cX m s q)).2≠0\/(o.eval c.guard (cX m s q)).1=0) then none else (lu m q c.bL s).map λt=>t.set (cV m q) c.to:=by
  unfold hS;rw[sX,if_neg (by simpa using g1)]
 have amj:=a8;have amu:=cF;have vm:=cG;refine dV ?_;refine R_ [1,3,8,9] (λ_:Unit=>[]) (λ_ W=>Ext bg W/\¬(0<c.guard.length/\((o.eval c.guard (cX m s q)).2≠0\/(o.eval c.guard (cX m s q)).1=0))) ?_ ?_
 .refine I ?_;apply I_<;>intro g2;rotate_left
  .refine I ?_;exact⟨(),trivial,Ext.refl _,λcI=>Aw⟩
  have rf:=aj.ext Flat.ext bC;refine I ?_;intro bp aC;replace a8:=aC.obj a8;replace cF:=aC.obj cF;replace cG:=aC.obj cG;have b5:=bC.trans aC;refine I ?_;refine _k [.slice eD m.scalars.length d0,.slice dI m.vars.length d1,.slice ec m.aA.length d2,.slice ep m.procs.length d3,.slice eM m.props.length d4] a8 rfl rfl ?_;refine I ?_;refine _k [.slice bZ (o.layout m).vars.length bz,.slice bN (o.layout m).aA.length c1,.slice (some a2) (o.layout m).insts.length c2,.I (o.layout m).cells,.slice bW (o.layout m).aV.length bw,.slice b1 (o.layout m).U.length bD] a8 rfl rfl ?_;refine I ?_;refine J_ (aeP _ _ _ m s q bp (b2.ext b5) aG aL (pJ.ext b5) (aj.ext Flat.ext b5) ax Aw Aw) ?_;rintro _ bH ⟨⟨es,rfl,aw⟩,bc⟩;have de:=PW aw.here c9;refine⟨bc,?_⟩;refine I ?_;refine J_ (TY _ c.guard _ (cX m s q) bH (RL.ext (aC.trans bc)) de) ?_;rintro _ cB ⟨rfl,bt⟩;obtain⟨n,pO⟩:∃n,n=(o.eval c.guard (cX m s q)).1:=⟨_,rfl⟩;obtain⟨e,o5⟩:∃e,e=(o.eval c.guard (cX m s q)).2:=⟨_,rfl⟩;rw[<-pO,<-o5];rw[<-pO,<-o5] at r0;have eK:=(b5.trans bc).trans bt;refine I ?_;refine I_ (λkh=>?_) (λkh=>?_);rotate_left
  .refine I ?_;exact⟨.inl ⟨by rw[r0,if_pos ⟨Aw,.inl kh⟩],aJ⟩,eK⟩
  refine I ?_;refine I_ (λh2=>?_) (λh2=>?_)
  .refine I ?_;exact⟨.inl ⟨by rw[r0,if_pos ⟨Aw,.inr h2⟩],aJ⟩,eK⟩
  .refine I ?_;exact⟨(),trivial,(aC.trans bc).trans bt,λcI=>by rcases cI.2 with h | h;exact h kh;exact h2 h⟩
 clear a8 cF cG;rintro _ S bp ⟨aC,uc⟩;have hV:hS m s q c=(lu m q c.bL s).map λt=>t.set (cV m q) c.to:=by rw[r0,if_neg uc]
 rw[hV];clear r0 uc hV;have cG:=aC.obj vm;refine I ?_;refine L_ 13 c.bL.length [1,3,8,9] (λv:fk=>[(12,.slice v.1 v.2.1 v.2.2)]) (some IS,s.length,oX) (λn v W=>Ext bg W/\∃t,lu m q (c.bL.take n) s=some t/\c3 W (.slice v.1 v.2.1 v.2.2) t/\o.Fits m t) a6 a6 ⟨aC,s,rfl,aj.ext Flat.ext (bC.trans aC),ax⟩ ?_;clear cG aC;rintro n kp aZ bH aw ⟨bc,t,aB,Bg,r3⟩;have a8:=bc.obj amj;have cF:=bc.obj amu;have cG:=bc.obj vm;have anL:=DC.ext bc;have cL:=bC.trans bc;refine I ?_;apply I_<;>intro g2
 .have hn:n<c.bL.length:=Aw
  obtain⟨oS,rfl⟩:=DC.addr;obtain⟨bK,bY,nG,ot,qo⟩:=anL.at n hn;have qh:=jf.act n hn;obtain⟨ax3,avU,rfl,_⟩:=ot.form;obtain⟨ax4,CH,rfl,_⟩:=qo.form;refine I ?_;intro cB bt;replace a8:=bt.obj a8;replace cF:=bt.obj cF;replace cG:=bt.obj cG;replace nG:=nG.ext bt;have eK:=cL.trans bt;refine I ?_;refine J_ (asa _ _ _ _ m t q p c.bL[n] cB (ew.ext eK) aG aL (Bg.ext Flat.ext bt) r3 aP (ot.ext bt) (qo.ext bt) qh) ?_;rintro u cD ⟨bR,b0⟩;have zk:=O1 m q c.bL s hn;rw[aB] at zk;simp only at zk;rcases bR with ⟨ey,rfl⟩ | ⟨h5,afS,hX,rfl,lH⟩
  .refine I ?_;exact⟨.inl ⟨by rw[O0 m q c.bL s (n+1) (zk.trans ey)];rfl,aJ⟩,eK.trans b0⟩
  .obtain⟨qs,oW,rfl,_⟩:=lH.form;refine I ?_;exact⟨hn,aJ,(qs,_,oW),⟨rfl,trivial⟩,(bc.trans bt).trans b0,h5,zk.trans hX,kF lH,XT aL aP qh r3 hX⟩
 .have vC:n=c.bL.length:=Aw
  subst vC;rw[AE8] at aB;rw[aB];obtain⟨nr,nQ,dQ⟩:=kp;obtain⟨_,_,axg,_⟩:=Bg.form;have cu:=r3.len;have aej:=cA.ext Flat.ext cL;refine I ?_;intro cB bt;replace a8:=bt.obj a8;replace cF:=bt.obj cF;replace cG:=bt.obj cG;replace aej:=aej.ext Flat.ext bt;have eK:=cL.trans bt;refine I ?_;refine J_ (aeq _ t (cV m q) c.to _ (Bg.ext Flat.ext bt) (by rw[iD]) Aw Aw) ?_;rintro u cD ⟨fy,b0⟩;obtain⟨D3,CK,rfl,_⟩:=fy.form;refine I ?_;exact⟨.inr ⟨_,_,rfl,rfl,aK.low eK.size fy⟩,eK.trans b0⟩
end Go.Proofs.R
namespace o
open Go
def lost(m:Model)(s t:C_ Int)(c:dG):C_ Int:=h0 t (b6 m (comm c.bL).2.toNat) (chanOf m s (comm c.bL).2.toNat)
structure Iq(m:Model)(s:List Int)(ref k0:Int)(t:List Int)(e:Int):Prop where
 f0:¬(gE m s/\Told m ref)->t=[]/\e=2
 f1:∀q p k,gE m s->fe m ref q p k->¬(0<=k0/\k0<ways (bM m p k) m.aA)->t=[]/\e=2
 f2:∀q p k,gE m s->fe m ref q p k->0<=k0/\k0<ways (bM m p k) m.aA->hS m s q (bM m p k)=none->t=[]/\e=15
 f3:∀q p k u,gE m s->fe m ref q p k->0<=k0/\k0<ways (bM m p k) m.aA->hS m s q (bM m p k)=some u->t=(if k0=1 then lost m s u (bM m p k) else u)/\e=0
theorem Iq.none{m:Model}{s:C_ Int}{ref k0:Int}{q p k:Nat}(an:fe m ref q p k)(aT:gE m s)(hw:0<=k0/\k0<ways (bM m p k) m.aA)(h:hS m s q (bM m p k)=Option.none):Iq m s ref k0 [] 15 :=
 ⟨λaw=>absurd ⟨aT,an.told⟩ aw,λeQ gC k' _ q2 aw=>(by obtain⟨rfl,rfl,rfl⟩:=an.one q2;exact absurd hw aw),λ_ _ _ _ _ _ _=>⟨rfl,rfl⟩,λeQ gC k' u _ q2 _ hu=>by obtain⟨rfl,rfl,rfl⟩:=an.one q2;rw[h] at hu;cases hu⟩
theorem Iq.some{m:Model}{s u:C_ Int}{ref k0:Int}{q p k:Nat}(an:fe m ref q p k)(aT:gE m s)(hw:0<=k0/\k0<ways (bM m p k) m.aA)(h:hS m s q (bM m p k)=Option.some u):Iq m s ref k0 (if k0=1 then lost m s u (bM m p k) else u) 0 :=
 ⟨λaw=>absurd ⟨aT,an.told⟩ aw,λeQ gC k' _ q2 aw=>(by obtain⟨rfl,rfl,rfl⟩:=an.one q2;exact absurd hw aw),λeQ gC k' _ q2 _ hu=>(by obtain⟨rfl,rfl,rfl⟩:=an.one q2;rw[h] at hu;cases hu),
  λeQ gC k' kZ _ q2 _ hu=>by obtain⟨rfl,rfl,rfl⟩:=an.one q2;rw[h] at hu;injection hu with hu;subst hu;exact⟨rfl,rfl⟩⟩
def au2{c:dG}{l:C_ ea}(h:1<ways c l):∃j:Nat,(comm c.bL).2=j/\j<l.length/\(comm c.bL).1=4:=by
 unfold ways at h;split at h
 .rename_i aF;cases aw:nth l (comm c.bL).2 with
  | none=>rw[aw] at h;simp at h
  | some x =>
   obtain⟨ad,_,h1⟩:=xP aw;exact⟨(comm c.bL).2.toNat,Aw,h1,aF⟩
 .omega
def YD{m:Model}{s t:C_ Int}{ref:Int}{q p k:Nat}(br:fe m ref q p k)(ax:Fits m s)(h:hS m s q (bM m p k)=some t):t.length=di m :=
 (aiI br.inst.av rfl br.cin ax.len h).1.trans ax.len
end o
namespace Go.Proofs.R
open Go Go.RowKit ba
def TS(cs:C_ B_)(v:B_)(m:o.Model)(s:C_ Int)(w:A_)(h:pC w cs m)(aL:o.eE m)(aj:c3 w v s) :
  Ei F.Mq #[.agg cs.toArray,v] w λu w'=>(∃t:Bool,u = .bool t/\(t=true↔o.Fits m s))/\Ext w w':=by
 obtain⟨eD,d0,dI,d1,ec,d2,ep,d3,eM,d4,bZ,bz,bN,c1,bT,c2,bW,bw,b1,bD,ca,ci,e1,gh,rfl,b2,pJ,_⟩:=h.form;obtain⟨os,oX,rfl,DT⟩:=aj.form;refine bk E.Mq ?_;refine I ?_;intro w1 bP c8 af ao;refine I ?_;refine _k [.slice eD m.scalars.length d0,.slice dI m.vars.length d1,.slice ec m.aA.length d2,.slice ep m.procs.length d3,.slice eM m.props.length d4] ao rfl rfl ?_;refine I ?_;refine _k [.slice bZ (o.layout m).vars.length bz,.slice bN (o.layout m).aA.length c1,.slice bT (o.layout m).insts.length c2,.I (o.layout m).cells,.slice bW (o.layout m).aV.length bw,.slice b1 (o.layout m).U.length bD] ao rfl rfl ?_;refine I ?_;refine J_ (aek _ _ m _ s w1 (b2.ext af) (pJ.ext af) aL (aj.ext Flat.ext af)) ?_;rintro _ az ⟨⟨t,rfl,aB⟩,ai⟩;refine I ?_;exact⟨⟨t,rfl,aB⟩,af.trans ai⟩
end Go.Proofs.R
namespace o
open Go
theorem XY{s:Scope}:∀(l:C_ Act) (i:Nat) (t:Bool),(lv s l i t).2=0->∀k (h:k<l.length),k5 l[k] s=0
 | [],_,_,_,k,h=>by simp at h
 | a :: r,i,t,h,k,hk=>by
  unfold lv at h;by_cases h1:(hF a&&t)=true
  .rw[if_pos h1] at h;cases h
  rw[if_neg h1] at h;by_cases J:k5 a s≠0
  .rw[if_pos J] at h;exact absurd h J
  rw[if_neg J] at h;cases k with
  | zero=>simpa using J
  | succ k=>exact XY r _ _ h k (by simpa using hk)
structure agi(m:Model)(p:Nat)(c:dG):Prop where
 act:∀k (h:k<c.bL.length),∀au:p<m.procs.length,k5 c.bL[k] (inner m.procs[p] (eC m))=0
 to:∀au:p<m.procs.length,0<=c.to/\c.to<m.procs[p].cn
def aiK{m:Model}(h:(check m).cJ=0){p k:Nat}(au:p<m.procs.length)(hk:k<m.procs[p].c4.length):agi m p m.procs[p].c4[k]:=by
 obtain⟨dI,_,_⟩:=TE (YB h);obtain⟨_,cM,_,_⟩:=FD au (dI p au);obtain⟨_,_,hN⟩:=ad2 cM;have e:hE m (p:Int)=inner m.procs[p] (eC m):=by
  unfold hE;rw[iP Aw Aw];rfl
 have a7:=(Pz _ _ hN k hk).1;rw[e] at a7;unfold j7 at a7;by_cases h1:head m.procs[p].c4[k] m.procs[p].cn≠0
 .rw[if_pos h1] at a7;exact absurd a7 h1
 rw[if_neg h1] at a7;have a7:(lv (inner m.procs[p] (eC m)) m.procs[p].c4[k].bL 0 false).2=0:=by
  split at a7
  .rename_i cI;exact absurd a7 cI.2
  .exact a7
 refine⟨λj ay _=>XY _ _ _ a7 j ay,λ_=>?_⟩;have h1:head m.procs[p].c4[k] m.procs[p].cn=0:=by simpa using h1
 unfold head at h1;by_cases c7:isName m.procs[p].c4[k].name=false
 .rw[if_pos c7] at h1;cases h1
 rw[if_neg c7] at h1;by_cases dE:m.procs[p].c4[k].from_<0\/m.procs[p].cn<=m.procs[p].c4[k].from_\/m.procs[p].c4[k].to<0\/m.procs[p].cn<=m.procs[p].c4[k].to
 .rw[if_pos dE] at h1;cases h1
 omega
theorem acr{m:Model}:∀(l:C_ dv) (i:Nat),l=m.procs.drop i->∀x∈kg m l i,∃(p:Nat) (h:p<m.procs.length),x.proc=p/\(m.procs[p].over≠0->x.elem<=elems m m.procs[p])
 | [],_,_,x,ah=>by simp[kg] at ah
 | p :: r,i,h,x,ah=>by
  have U:i<m.procs.length:=by
   apply Classical.byContradiction;intro aw;rw[AE9 Aw] at h;cases h
  rw[AF0 U] at h;injection h with h1 J
  simp only[kg,List.mem_append] at ah;rcases ah with (ah | ah) | ah
  .unfold jF at ah;split at ah
   .rename_i ad;rw[AF2] at ah;subst ah;exact⟨i,U,rfl,λaw=>absurd (h1 ▸ ad) aw⟩
   .cases ah
  .unfold kk at ah;obtain⟨k,hk,rfl⟩:=List.mem_map.1 ah
   have:=List.mem_range.1 hk
   refine⟨i,U,rfl,λ_=>?_⟩;rw[<-h1];simp only;omega
  .exact acr r (i+1) J x ah
def fL.ap4{m:Model}{q p:Nat}(h:fL m q p):(m.procs[p]'(h.au)).over≠0->((insts m)[q]'(h.av)).elem<=elems m (m.procs[p]'(h.au)):=by
 obtain⟨gC,abL,e,h1⟩:=acr m.procs 0 CC _ (E2 h.av);have J:=h.eq;have aD:((gC:Nat):Int)=p:=by
  have:((insts m)[q]'(h.av)).proc=(gC:Int):=e
  rw[<-this,J]
 have:gC=p:=Aw
 subst this;exact h1
theorem ajn{m:Model}{p:dv}(h:elems m p≠0):(elems m p:Int)=size p.over m.scalars:=by
 unfold elems at h ⊢;cases aw:nth m.scalars (p.over - 1) with
 | none=>rw[aw] at h;exact absurd rfl h
 | some x =>
  rw[aw] at h;obtain⟨ad,h1,_⟩:=xP aw;simp only at h ⊢;unfold size;rw[h1];split at h
  .exact absurd rfl h
  .rename_i cI;rw[if_neg cI];simp only;rw[if_pos Aw];omega
def ao8{x:Node}{s:Scope}(h:x.op=5)(h1:1<=s.self/\s.self<=s.scalars.length):kind [x] s=(1+s.self,0):=by
 have aw:fR x.op=0:=by rw[h];decide
 have ax:fZ s x []=(1+s.self,0):=by
  unfold fZ;rw[h];simp[hp,jC,nf,h,h1]
 unfold kind nm gq;simp only[List.length_singleton,stepG,aw,ax];simp[gq]
theorem agW{m:Model}{p:Nat}(au:p<m.procs.length){a:Act}(h:k5 a (inner m.procs[p] (eC m))=0)(J:a.kind=2)(aj:pX a=true):∃v,m.vars[a.to.toNat]? = some v/\v.over=m.procs[p].over:=by
 obtain⟨x,ah,a7⟩:∃x,a.index=[x]/\x.op=5:=by
  unfold pX at aj;split at aj
  .rename_i x ah;exact⟨x,ah,by simpa using aj⟩
  .cases aj
 have eh:=OZ h;have ab0:=((eh.item J).2.2.node 0 (by rw[ah];simp)).1.self (by simp[ah,a7]);unfold k5 at h;rw[if_pos Aw] at h;rw[if_neg (by omega:¬a.kind=3)] at h;cases bb:declared (inner m.procs[p] (eC m)).vars a.to (inner m.procs[p] (eC m)) with
 | none=>rw[bb] at h;cases h
 | some zG =>
  rw[bb] at h;obtain⟨v,k⟩:=zG;obtain⟨_,d2,_⟩:=PK bb;simp only at h;by_cases ab:(v.over≠0)≠(a.kind=2)
  .rw[if_pos ab] at h;cases h
  rw[if_neg ab] at h;by_cases aF:a.kind=2/\asked a.index (1+v.over) (inner m.procs[p] (eC m))≠0
  .rw[if_pos aF] at h;exact absurd h aF.2
  have bJ:asked a.index (1+v.over) (inner m.procs[p] (eC m))=0:=Classical.byContradiction λaw=>aF ⟨J,aw⟩;refine⟨v,d2,?_⟩;unfold asked at bJ;rw[ah,ao8 a7 ab0] at bJ;simp only[ne_eq,not_true_eq_false,if_false] at bJ;split at bJ
  .cases bJ
  .rename_i cI
   have:(inner m.procs[p] (eC m)).self=m.procs[p].over:=rfl
   omega
theorem aoY{m:Model}{q p:Nat}(aP:fL m q p){v:Nat}(aH:v<m.vars.length){own:Bool}(aS:own=true->m.vars[v].over=(m.procs[p]'(aP.au)).over/\(m.procs[p]'(aP.au)).over≠0):∀x∈mC m q v own,0<=x/\x<di m:=λx ah=>by
 have h1:=sl aH;have J:=rp aH;have ab:=nC m;unfold mC at ah;cases own with
 | false =>
  rw[if_neg CC] at ah
  have:=qz.1 ah
  omega
 | true =>
  obtain⟨bN,bT⟩:=aS rfl;rw[if_pos rfl] at ah;have ah:=qz.1 ah;have bG:=aP.elem bT;have aD:=aP.ap4 bT;have aO:=ajn (m:=m) (p:=m.procs[p]'(aP.au)) Aw;have bo:=Fx aP.av;have bC:cells m.vars[v] m.scalars=size (m.procs[p]'(aP.au)).over m.scalars:=by unfold cells;rw[if_neg Aw,bN]
  omega
def agU{m:Model}{q p:Nat}(aP:fL m q p){a:Act}(de:k5 a (inner (m.procs[p]'(aP.au)) (eC m))=0):∀x∈j5 m q a,0<=x/\x<di m:=λx ah=>by
 have aY:=OZ de;have s3:=aP.room;have ab:=nC m;unfold j5 at ah;by_cases h1:a.kind=1
 .rw[if_pos h1] at ah;obtain⟨_,v,aH,iE⟩:=aY.set h1;have hB:a.to.toNat<m.vars.length:=(List.getElem?_eq_some_iff.1 aH).1;have dL:m.vars[a.to.toNat]=v:=(List.getElem?_eq_some_iff.1 aH).2
  have:=sl hB
  have e:cells m.vars[a.to.toNat] m.scalars=1:=by rw[dL];unfold cells;rw[if_pos iE]
  have:=qz.1 ah
  omega
 rw[if_neg h1] at ah;by_cases J:a.kind=2
 .rw[if_pos J] at ah;have hB:a.to.toNat<m.vars.length:=(aY.item J).2.1;refine aoY aP hB (λaj=>?_) x ah;obtain⟨v,aH,aS⟩:=agW aP.au de J aj;obtain⟨_,dL⟩:=List.getElem?_eq_some_iff.1 aH;obtain⟨y,bF,a7⟩:∃y,a.index=[y]/\y.op=5:=by
   unfold pX at aj;split at aj
   .rename_i y bF;exact⟨y,bF,by simpa using aj⟩
   .cases aj
  have ab0:=((aY.item J).2.2.node 0 (by rw[bF];simp)).1.self (by simp[bF,a7])
  have:(inner (m.procs[p]'(aP.au)) (eC m)).self=(m.procs[p]'(aP.au)).over:=rfl
  exact⟨by rw[dL];exact aS,Aw⟩
 rw[if_neg J] at ah;by_cases AK:a.kind=3
 .rw[if_pos AK] at ah;have a7:a.to.toNat<(m.procs[p]'(aP.au)).vars.length:=(aY.loc AK).2
  have:=qz.1 ah
  omega
 rw[if_neg AK] at ah;by_cases aF:a.kind=4
 .rw[if_pos aF] at ah
  have:=n1 (m:=m) (aY.chan (.inl aF)).2
  have:=qz.1 ah
  omega
 rw[if_neg aF] at ah;by_cases a7:a.kind=5
 .rw[if_pos a7] at ah;have bJ:a.loc.toNat<(m.procs[p]'(aP.au)).vars.length:=(aY.recv a7).2
  have:=n1 (m:=m) (aY.chan (.inr a7)).2
  rcases List.mem_append.1 ah with ah | ah
  .have:=qz.1 ah;omega
  .have:=qz.1 ah;omega
 .rw[if_neg a7] at ah;cases ah
def avg{m:Model}{ref:Int}{q p k:Nat}(br:fe m ref q p k):∀x∈kq m q (bM m p k) (bM m p k).bL.length,0<=x/\x<di m:=λx ah=>by
 have aP:=br.inst;have abD:=aiK br.ok br.at_.au br.at_.hk;rw[<-sJ br.at_.au br.at_.hk] at abD;have s3:=aP.room;unfold kq at ah;rw[AE8] at ah;rcases List.mem_append.1 ah with ah | ah
 .have:=qz.1 ah;omega
 .obtain⟨a,aY,SB⟩:=List.mem_flatMap.1 ah;obtain⟨j,ay,rfl⟩:=List.mem_iff_getElem.1 aY;exact agU aP (abD.act j ay aP.au) x SB
def apV:C_ Node:=[⟨1,0⟩,⟨1,0⟩,⟨14,0⟩]
def more(m:Model)(s:ByteArray):Model:=⟨m.scalars,m.vars,m.aA,m.procs,m.props++[⟨s,apV⟩]⟩
def Pw{m:Model}(h:(check m).cJ=0):(data m).cJ=0/\(nh m).cJ=0/\(qt m).cJ=0:=by
 unfold check at h;by_cases h1:(data m).cJ≠0
 .rw[if_pos h1] at h;exact absurd h h1
 rw[if_neg h1] at h;by_cases J:(nh m).cJ≠0
 .rw[if_pos J] at h;exact absurd h J
 rw[if_neg J] at h;exact⟨by simpa using h1,by simpa using J,h⟩
def ad3{m:Model}(h:(check m).cJ=0):m.props.length<=8:=by
 obtain⟨_,_,ab⟩:=Pw h;have aT:=M6 ab;refine Classical.byContradiction λaw=>?_;have dr:=aT 8 Aw;rw[FE Aw,if_pos Aw] at dr;cases dr
def TF{m:Model}(h:(check m).cJ=0){j:Nat}(ay:j<m.props.length):tp (eC m) m.props[j].expr:=by
 obtain⟨_,_,ab⟩:=Pw h;have dr:=M6 ab j ay;rw[FE ay] at dr;refine acQ (Classical.byContradiction λaw=>?_)
 repeat' split at dr
 all_goals first | omega | (exact absurd dr aw) | skip
 all_goals contradiction
def tg(m:Model):C_ Int:=m.props.flatMap λp=>xT m p.expr
def jH(m:Model):C_ Bool:=if (check m).cJ=0 then (List.range (di m)).map λ(c:Nat)=>decide ((c:Int)∈tg m) else []
structure oN(n:Nat)(L:List Int)(ae:List Bool):Prop where
 len:ae.length=n
 at_:∀(c:Nat) (h:c<ae.length),ae[c]=decide ((c:Int)∈L)
def oN.start(n:Nat):oN n [] (List.replicate n false):=⟨CC,λc h=>CC⟩
theorem oN.put{n c:Nat}{L:C_ Int}{ae:C_ Bool}(h:oN n L ae)(an:c<n):oN n (L++[(c:Int)]) (ae.set c true):=by
 refine⟨by rw[X4];exact h.len,λd bb=>?_⟩;rw[X4] at bb;rw[List.getElem_set];by_cases e:c=d
 .subst e;simp
 .rw[if_neg e,h.at_ d bb]
  have:¬(d:Int)=(c:Int):=Aw
  simp[this]
def oN.congr{n:Nat}{L nS:C_ Int}{ae:C_ Bool}(h:oN n L ae)(e:∀x,x∈L↔x∈nS):oN n nS ae:=⟨h.len,λc an=>by rw[h.at_ c an];exact decide_eq_decide.2 (e _)⟩
def oN.eq{n:Nat}{L:C_ Int}{ae o':C_ Bool}(h:oN n L ae)(bq:oN n L o'):ae=o':=by
 refine AK8 (by rw[h.len,bq.len]) λc h1 J=>by rw[h.at_ c h1,bq.at_ c J]
def oN.ae6{m:Model}{ae:C_ Bool}(hk:(check m).cJ=0)(h:oN (di m) (tg m) ae):ae=jH m:=by
 unfold jH;rw[if_pos hk];exact h.eq ⟨CC,λc an=>CC⟩
def hs(a b:C_ Int):Prop := ∃x,x∈a/\x∈b
instance(a b:C_ Int):Decidable (hs a b):=decidable_of_iff (a.any (λx=>b.contains x)=true) (by simp[hs,List.any_eq_true])
def hs.comm{a b:C_ Int}:hs a b↔hs b a:=⟨λ⟨x,h1,J⟩=>⟨x,J,h1⟩,λ⟨x,h1,J⟩=>⟨x,J,h1⟩⟩
def hs.adA(b:C_ Int):¬hs [] b:=λ⟨_,h,_⟩=>by cases h
def hs.aqh(a:C_ Int):¬hs a []:=λ⟨_,_,h⟩=>by cases h
def arP{a:C_ Int}(aY:a.Pairwise (· < ·)){i:Nat}(h:i<a.length):∀x∈a.drop i,a[i]<=x:=λx ah=>by
 rw[AF0 h] at ah;rcases List.mem_cons.1 ah with e | e
 .omega
 .have au:=aY.sublist (List.drop_sublist i a);rw[AF0 h,AI3] at au
  have:=au.1 x e
  omega
def afH{a b:C_ Int}(ak:b.Pairwise (· < ·)){i k:Nat}(h1:i<a.length)(J:k<b.length)(h:a[i]<b[k]):hs (a.drop i) (b.drop k)↔hs (a.drop (i+1)) (b.drop k):=by
 constructor
 .rintro⟨x,cM,cW⟩;rw[AF0 h1] at cM;rcases List.mem_cons.1 cM with e | e
  .have:=arP ak J x cW;omega
  .exact⟨x,e,cW⟩
 .rintro⟨x,cM,cW⟩;exact⟨x,by rw[AF0 h1];exact AH7 _ cM,cW⟩
def H2{a b:C_ Int}(aY:a.Pairwise (· < ·)){i k:Nat}(h1:i<a.length)(J:k<b.length)(h:b[k]<a[i]):hs (a.drop i) (b.drop k)↔hs (a.drop i) (b.drop (k+1)):=by
 rw[hs.comm,afH aY J h1 h,hs.comm]
def auq{a b:C_ Int}{i k:Nat}(h1:i<a.length)(J:k<b.length)(h:a[i]=b[k]):hs (a.drop i) (b.drop k) :=
 ⟨a[i],by rw[AF0 h1];exact AG5 ..,by rw[AF0 J,h];exact AG5 ..⟩
def aur{a b:C_ Int}{i k:Nat}(h:¬(i<a.length/\k<b.length)):¬hs (a.drop i) (b.drop k):=by
 by_cases h1:i<a.length
 .have e:b.drop k=[]:=AE9 Aw;rw[e];exact hs.aqh _
 .have e:a.drop i=[]:=AE9 Aw;rw[e];exact hs.adA _
def nA(r w kl w':C_ Int):Prop:=hs w w'\/hs w kl\/hs r w'
instance(r w kl w':C_ Int):Decidable (nA r w kl w'):=inferInstanceAs (Decidable (_\/_\/_))
end o
namespace Go.Proofs.R
open Go Go.RowKit ba o
def H2(va iS:B_)(a b:C_ Int)(w:A_)(aY:c3 w va a)(ak:c3 w iS b)(uD:a.Pairwise (· < ·))(te:b.Pairwise (· < ·)) :
  Ei F.Ju #[va,iS] w λv w'=>v = .bool (decide (hs a b))/\Ext w w':=by
 obtain⟨aN,fh,rfl,qp⟩:=aY.form;obtain⟨ph,sG,rfl,hC⟩:=ak.form;refine bk E.Ju ?_;refine I ?_;refine _L [0,1] (λx:Nat×Nat=>[(5,.I x.1),(6,.I x.2)]) (0,0) (λx W=>Ext w W/\x.1<=a.length/\x.2<=b.length/\(hs a b↔hs (a.drop x.1) (b.drop x.2))) (λx=>(a.length - x.1)+(b.length - x.2)) a6 ⟨Ext.refl _,AF4 _,AF4 _,Iff.rfl⟩ ?_;rintro⟨i,k⟩ S w1 ⟨af,U,hk,hm⟩;dsimp only at U hk hm ⊢;have no:¬(i<a.length/\k<b.length)->decide (hs a b)=false:=λh=>decide_eq_false (by rw[hm];exact aur h);refine I ?_;apply I_<;>intro g1;rotate_left
 .refine I ?_;exact⟨by rw[no Aw],af⟩
 refine I ?_;apply I_<;>intro g2;rotate_left
 .refine I ?_;exact⟨by rw[no Aw],af⟩
 have l0:i<a.length:=Aw
 have b8:k<b.length:=Aw
 obtain⟨oS,rfl⟩:=aY.addr;obtain⟨wA,rfl⟩:=ak.addr;have aaq:=aY.ext Flat.ext af;have cN:=ak.ext Flat.ext af;refine I ?_;intro az ai;have aD:=af.trans ai;refine I ?_;apply I_<;>intro g3
 .have yes:decide (hs a b)=true:=decide_eq_true (by rw[hm];exact auq l0 b8 g3);refine I ?_;exact⟨by rw[yes],aD⟩
 have alP:=aaq.ext Flat.ext ai;have c8:=cN.ext Flat.ext ai;clear aaq cN;refine I ?_;intro aM ag;have aO:=aD.trans ag;refine I ?_;apply I_<;>intro g4
 .refine I ?_;exact⟨(i+1,k),⟨aJ,aJ,trivial⟩,⟨aO,by simp only;omega,hk,hm.trans (afH te l0 b8 g4)⟩,by simp only;omega⟩
 .refine I ?_;exact⟨(i,k+1),⟨aJ,aJ,trivial⟩,⟨aO,U,by simp only;omega,hm.trans (o.H2 uD l0 b8 Aw)⟩,by simp only;omega⟩
def Tc(va iS:B_)(a b:C_ Int)(w:A_)(aY:c3 w va a)(ak:c3 w iS b) :
  Ei F.MI #[va,iS] w λv w'=>v = .bool (decide (hs a b))/\Ext w w':=by
 obtain⟨aN,fh,rfl,qp⟩:=aY.form;obtain⟨ph,sG,rfl,hC⟩:=ak.form;refine bk E.MI ?_;refine I ?_;refine L_ 5 a.length [0,1] (λ_:Unit=>[]) () (λi _ W=>Ext w W/\¬hs (a.take i) b) a6 a6 ⟨Ext.refl _,by simpa using hs.adA b⟩ ?_;rintro i _ S w1 U ⟨af,sY⟩;refine I ?_;apply I_<;>intro g1;rotate_left
 .have iD:i=a.length:=Aw
  rw[iD,AE8] at sY;have no:decide (hs a b)=false:=decide_eq_false sY;refine I ?_;exact⟨by rw[no],af⟩
 have l0:i<a.length:=Aw
 obtain⟨oS,rfl⟩:=aY.addr;refine I ?_;refine L_ 6 b.length [0,1,5] (λ_:Unit=>[]) () (λk _ W=>Ext w W/\¬a[i]∈b.take k) a6 a6 ⟨af,CC⟩ ?_;rintro k _ j3 az hk ⟨ai,hn⟩;refine I ?_;apply I_<;>intro g2;rotate_left
 .have A8:k=b.length:=Aw
  rw[A8,AE8] at hn;refine I ?_;refine⟨l0,aJ,(),trivial,ai,?_⟩;rintro⟨x,h1,J⟩;rw[MR l0,AG0,AF2] at h1;rcases h1 with h1 | rfl
  .exact sY ⟨x,h1,J⟩
  .exact hn J
 have b8:k<b.length:=Aw
 obtain⟨wA,rfl⟩:=ak.addr;have alP:=aY.ext Flat.ext ai;have c8:=ak.ext Flat.ext ai;refine I ?_;intro aM ag;have aO:=ai.trans ag;refine I ?_;apply I_<;>intro g3
 .have yes:decide (hs a b)=true:=decide_eq_true ⟨a[i],E2 _,by rw[g3];exact E2 _⟩;refine I ?_;exact⟨by rw[yes],aO⟩
 .refine I ?_;refine⟨b8,aJ,(),trivial,aO,?_⟩;rw[MR b8,AG0,AF2];rintro(h | h)
  .exact hn h
  .exact g3 h
def aqN(v1 v2 v3 v4:B_)(a b cx fV:C_ Int)(w:A_)(h1:c3 w v1 a)(J:c3 w v2 b)(ab:c3 w v3 cx)(aF:c3 w v4 fV)(uD:a.Pairwise (· < ·))(te:b.Pairwise (· < ·))(aro:cx.Pairwise (· < ·))(adV:fV.Pairwise (· < ·)) :
  Ei F.a0 #[.agg #[v1,v2],.agg #[v3,v4]] w λv w'=>v = .bool (decide (nA a b cx fV))/\Ext w w':=by
 obtain⟨bN,c1,rfl,_⟩:=h1.form;obtain⟨bT,c2,rfl,_⟩:=J.form;obtain⟨bW,bw,rfl,_⟩:=ab.form;obtain⟨b1,bD,rfl,_⟩:=aF.form;refine bk E.a0 ?_;refine I ?_;intro w1 bP c8 af ao;refine I ?_;intro az bV eX ai a8;replace ao:=ai.obj ao;have aD:=af.trans ai;refine I ?_;refine J_ (H2 _ _ b fV az (J.ext Flat.ext aD) (aF.ext Flat.ext aD) te adV) ?_;rintro _ aM ⟨rfl,ag⟩;have aO:=aD.trans ag;replace ao:=ag.obj ao;replace a8:=ag.obj a8;refine I ?_;apply I_<;>intro g1
 .have yes:decide (nA a b cx fV)=true:=decide_eq_true (.inl g1);refine I ?_;exact⟨by rw[yes],aO⟩
 refine I ?_;refine J_ (H2 _ _ b cx aM (J.ext Flat.ext aO) (ab.ext Flat.ext aO) te aro) ?_;rintro _ aR ⟨rfl,aq⟩;have bo:=aO.trans aq;replace ao:=aq.obj ao;replace a8:=aq.obj a8;refine I ?_;apply I_<;>intro g2
 .have yes:decide (nA a b cx fV)=true:=decide_eq_true (.inr (.inl g2));refine I ?_;exact⟨by rw[yes],bo⟩
 refine I ?_;refine J_ (H2 _ _ a fV aR (h1.ext Flat.ext bo) (aF.ext Flat.ext bo) uD adV) ?_;rintro _ bg ⟨rfl,ar⟩;have bC:=bo.trans ar;have last:decide (nA a b cx fV)=decide (hs a fV):=decide_eq_decide.2 ⟨λh=>h.elim (λh=>absurd h g1) λh=>h.elim (λh=>absurd h g2) id,λh=>.inr (.inr h)⟩;refine I ?_;exact⟨by rw[last],bC⟩
def auy(v1 v2 v3 v4:B_)(a b cx fV:C_ Int)(w:A_)(h1:c3 w v1 a)(J:c3 w v2 b)(ab:c3 w v3 cx)(aF:c3 w v4 fV) :
  Ei F.MJ #[.agg #[v1,v2],.agg #[v3,v4]] w λv w'=>v = .bool (decide (nA a b cx fV))/\Ext w w':=by
 obtain⟨bN,c1,rfl,_⟩:=h1.form;obtain⟨bT,c2,rfl,_⟩:=J.form;obtain⟨bW,bw,rfl,_⟩:=ab.form;obtain⟨b1,bD,rfl,_⟩:=aF.form;refine bk E.MJ ?_;refine I ?_;intro w1 bP c8 af ao;refine I ?_;intro az bV eX ai a8;replace ao:=ai.obj ao;have aD:=af.trans ai;refine I ?_;refine J_ (Tc _ _ b cx az (J.ext Flat.ext aD) (ab.ext Flat.ext aD)) ?_;rintro _ aM ⟨rfl,ag⟩;have aO:=aD.trans ag;replace ao:=ag.obj ao;replace a8:=ag.obj a8;refine I ?_;apply I_<;>intro g1
 .have yes:decide (nA a b cx fV)=true:=decide_eq_true (.inr (.inl g1));refine I ?_;exact⟨by rw[yes],aO⟩
 refine I ?_;refine J_ (Tc _ _ b fV aM (J.ext Flat.ext aO) (aF.ext Flat.ext aO)) ?_;rintro _ aR ⟨rfl,aq⟩;have bo:=aO.trans aq;replace ao:=aq.obj ao;replace a8:=aq.obj a8;refine I ?_;apply I_<;>intro g2
 .have yes:decide (nA a b cx fV)=true:=decide_eq_true (.inl g2);refine I ?_;exact⟨by rw[yes],bo⟩
 refine I ?_;refine J_ (Tc _ _ fV a aR (aF.ext Flat.ext bo) (h1.ext Flat.ext bo)) ?_;rintro _ bg ⟨rfl,ar⟩;have bC:=bo.trans ar;have last:decide (nA a b cx fV)=decide (hs fV a):=decide_eq_decide.2 ⟨λh=>h.elim (λh=>absurd h g2) λh=>h.elim (λh=>absurd h g1) hs.comm.1,λh=>.inr (.inr (hs.comm.1 h))⟩;refine I ?_;exact⟨by rw[last],bC⟩
end Go.Proofs.R