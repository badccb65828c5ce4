/- Texts joined: ExprK ExprL ExprN ExprR ExprS MovE StbA StbB LabA LabC. -/
import Derived.Test.YtempnjgiohpopaaGreatDoorQlbd
import Derived.Test.YtempnjgiohpopaaGreatDoorQlbg
import Derived.Test.YtempnjgiohpopaaGreatDoorQlbj
import Derived.Test.YtempnjgiohpopaaGreatDoorQlbk
import Derived.Test.YtempnjgiohpopaaGreatDoorQlbn
set_option linter.all false
set_option maxRecDepth 8000
set_option maxHeartbeats 16000000
section
set_option linter.unusedSimpArgs false
namespace Go.Proofs.R
open Go Go.RowKit bn
theorem y5(v:Value)(l:List Int)(n:Int)(w:World)(aN:lO w v l):bw Tryz.prog F.j #[v,.int .i64 n] w fun v w'=>v = .tuple #[.int .i64 (o.fG l n).1,.int .i64 (o.fG l n).2]∧w'=w:=by
 obtain⟨bf,cap,rfl,hlen⟩:=aN.form;refine bO E.j ?_;refine bH ?_
 (repeat' first
 | assumption
 | exact Ext.refl _
 | refine Ext.trans ?_ (by assumption)
 | refine K.wrap (by omega) ?_
 | refine K.dv (by assumption) ?_ rfl ?_
 | refine K.dp (by assumption) ?_ rfl ?_
 | refine K.dC (by assumption) ?_ (by omega) rfl ?_
 | refine K.dn (by assumption) ?_ (by omega) rfl ?_
 | refine K.dB (by assumption) ?_ (by omega) rfl ?_
 | refine K.dA (by omega) ?_
 | refine K.dt (by first | assumption | omega) ?_
 | refine K.dy (by first | assumption | omega) ?_
 | refine K.dj (by assumption) ?_
 | refine K.dm (by assumption) ?_
 | simp -dsimp only[bU,bQ,Nat.reduceAdd,Nat.reduceEqDiff,reduceIte,reduceCtorEq,bZ])
 apply K.cond<;>intro g1
 ·(repeat' first
 | assumption
 | exact Ext.refl _
 | refine Ext.trans ?_ (by assumption)
 | refine K.wrap (by omega) ?_
 | refine K.dv (by assumption) ?_ rfl ?_
 | refine K.dp (by assumption) ?_ rfl ?_
 | refine K.dC (by assumption) ?_ (by omega) rfl ?_
 | refine K.dn (by assumption) ?_ (by omega) rfl ?_
 | refine K.dB (by assumption) ?_ (by omega) rfl ?_
 | refine K.dA (by omega) ?_
 | refine K.dt (by first | assumption | omega) ?_
 | refine K.dy (by first | assumption | omega) ?_
 | refine K.dj (by assumption) ?_
 | refine K.dm (by assumption) ?_
 | simp -dsimp only[bU,bQ,Nat.reduceAdd,Nat.reduceEqDiff,reduceIte,reduceCtorEq,bZ])
  rw[o.fG,o.ga (.inl g1)];exact⟨rfl,trivial⟩
 (repeat' first
 | assumption
 | exact Ext.refl _
 | refine Ext.trans ?_ (by assumption)
 | refine K.wrap (by omega) ?_
 | refine K.dv (by assumption) ?_ rfl ?_
 | refine K.dp (by assumption) ?_ rfl ?_
 | refine K.dC (by assumption) ?_ (by omega) rfl ?_
 | refine K.dn (by assumption) ?_ (by omega) rfl ?_
 | refine K.dB (by assumption) ?_ (by omega) rfl ?_
 | refine K.dA (by omega) ?_
 | refine K.dt (by first | assumption | omega) ?_
 | refine K.dy (by first | assumption | omega) ?_
 | refine K.dj (by assumption) ?_
 | refine K.dm (by assumption) ?_
 | simp -dsimp only[bU,bQ,Nat.reduceAdd,Nat.reduceEqDiff,reduceIte,reduceCtorEq,bZ])
 apply K.cond<;>intro g2
 ·(repeat' first
 | assumption
 | exact Ext.refl _
 | refine Ext.trans ?_ (by assumption)
 | refine K.wrap (by omega) ?_
 | refine K.dv (by assumption) ?_ rfl ?_
 | refine K.dp (by assumption) ?_ rfl ?_
 | refine K.dC (by assumption) ?_ (by omega) rfl ?_
 | refine K.dn (by assumption) ?_ (by omega) rfl ?_
 | refine K.dB (by assumption) ?_ (by omega) rfl ?_
 | refine K.dA (by omega) ?_
 | refine K.dt (by first | assumption | omega) ?_
 | refine K.dy (by first | assumption | omega) ?_
 | refine K.dj (by assumption) ?_
 | refine K.dm (by assumption) ?_
 | simp -dsimp only[bU,bQ,Nat.reduceAdd,Nat.reduceEqDiff,reduceIte,reduceCtorEq,bZ])
  rw[o.fG,o.ga (.inr (by omega))];exact⟨rfl,trivial⟩
 obtain⟨i,rfl⟩:=Int.eq_ofNat_of_zero_le (show 0≤n by omega);obtain⟨a,rfl⟩:=aN.addr (by omega)
 (repeat' first
 | assumption
 | exact Ext.refl _
 | refine Ext.trans ?_ (by assumption)
 | refine K.wrap (by omega) ?_
 | refine K.dv (by assumption) ?_ rfl ?_
 | refine K.dp (by assumption) ?_ rfl ?_
 | refine K.dC (by assumption) ?_ (by omega) rfl ?_
 | refine K.dn (by assumption) ?_ (by omega) rfl ?_
 | refine K.dB (by assumption) ?_ (by omega) rfl ?_
 | refine K.dA (by omega) ?_
 | refine K.dt (by first | assumption | omega) ?_
 | refine K.dy (by first | assumption | omega) ?_
 | refine K.dj (by assumption) ?_
 | refine K.dm (by assumption) ?_
 | simp -dsimp only[bU,bQ,Nat.reduceAdd,Nat.reduceEqDiff,reduceIte,reduceCtorEq,bZ])
 rw[o.fG,o.iP (by omega) (by omega)];simp only[Int.toNat_natCast];exact⟨bq,trivial⟩
theorem aeL(l:List Int)(aN:l.length≤9223372036854775807)(n:Int)(h:o.df n):o.nth l (IntKind.i64.wrap (n - 1))=o.nth l (n - 1):=by
 obtain⟨h1,U⟩:=h;by_cases aM:n = -9223372036854775808
 ·subst aM
  have:IntKind.i64.wrap (-9223372036854775808 - 1)=9223372036854775807:=by decide
  rw[this,o.ga (.inr (by omega)),o.ga (.inl (by omega))]
 ·rw[IntWalk.i64_in (n - 1) (by omega)]
theorem aeO(x:o.Node)(cs:List Value)(v:o.Env)(base b:Nat)(w:World)(m:Value)(st:List Int)(aD:x.ok)(h:o.na w cs v)(hm:nK base b w m st)(ai:x.op=3→0<st.length)(aX:∀z∈st,o.df z) :
  bw Tryz.prog F.bN #[.pointer (some ⟨b,0,none⟩),.agg x.enc.toArray,.agg cs.toArray] w fun u w'=>u = .tuple #[.int .i64 (o.fC x v (st.getLastD 0)).1,.int .i64 (o.fC x v (st.getLastD 0)).2]∧Ext w w':=by
 obtain⟨a0,bR,dF,c1,a2,c2,a3,bN,rfl,qc,dS,dP,dD,gT,et,dY,eg,dK⟩:=h.form;refine bO E.bN ?_;refine bH ?_
 (repeat' first
 | assumption
 | exact Ext.refl _
 | refine Ext.trans ?_ (by assumption)
 | refine K.wrap (by omega) ?_
 | refine K.dv (by assumption) ?_ rfl ?_
 | refine K.dp (by assumption) ?_ rfl ?_
 | refine K.dC (by assumption) ?_ (by omega) rfl ?_
 | refine K.dn (by assumption) ?_ (by omega) rfl ?_
 | refine K.dB (by assumption) ?_ (by omega) rfl ?_
 | refine K.dA (by omega) ?_
 | refine K.dt (by first | assumption | omega) ?_
 | refine K.dy (by first | assumption | omega) ?_
 | refine K.dj (by assumption) ?_
 | refine K.dm (by assumption) ?_
 | simp -dsimp only[bU,bQ,Nat.reduceAdd,Nat.reduceEqDiff,reduceIte,reduceCtorEq,bZ])
 refine K.new fun ar bz cN aE al=>?_
 (repeat' first
 | assumption
 | exact Ext.refl _
 | refine Ext.trans ?_ (by assumption)
 | refine K.wrap (by omega) ?_
 | refine K.dv (by assumption) ?_ rfl ?_
 | refine K.dp (by assumption) ?_ rfl ?_
 | refine K.dC (by assumption) ?_ (by omega) rfl ?_
 | refine K.dn (by assumption) ?_ (by omega) rfl ?_
 | refine K.dB (by assumption) ?_ (by omega) rfl ?_
 | refine K.dA (by omega) ?_
 | refine K.dt (by first | assumption | omega) ?_
 | refine K.dy (by first | assumption | omega) ?_
 | refine K.dj (by assumption) ?_
 | refine K.dm (by assumption) ?_
 | simp -dsimp only[bU,bQ,Nat.reduceAdd,Nat.reduceEqDiff,reduceIte,reduceCtorEq,bZ])
 refine K.new fun aW ch en aF aO=>?_;have he:=aE.trans aF;have da:aW.heap[bz]? = some (.cells #[.int .i64 x.op,.int .i64 x.n] T.f):=aF.obj al;clear al
 (repeat' first
 | assumption
 | exact Ext.refl _
 | refine Ext.trans ?_ (by assumption)
 | refine K.wrap (by omega) ?_
 | refine K.dv (by assumption) ?_ rfl ?_
 | refine K.dp (by assumption) ?_ rfl ?_
 | refine K.dC (by assumption) ?_ (by omega) rfl ?_
 | refine K.dn (by assumption) ?_ (by omega) rfl ?_
 | refine K.dB (by assumption) ?_ (by omega) rfl ?_
 | refine K.dA (by omega) ?_
 | refine K.dt (by first | assumption | omega) ?_
 | refine K.dy (by first | assumption | omega) ?_
 | refine K.dj (by assumption) ?_
 | refine K.dm (by assumption) ?_
 | simp -dsimp only[bU,bQ,Nat.reduceAdd,Nat.reduceEqDiff,reduceIte,reduceCtorEq,bZ])
 apply K.cond<;>intro g1
 ·have hk:o.fC x v (st.getLastD 0)=if o.within x.n then (x.n,0) else (0,10):=by rw[o.fC,if_pos g1]
  have aG:(o.tell (· + ·) x.n 0).2=o.within x.n:=by
   unfold o.tell
   have:o.within 0=true:=rfl
   simp only[Int.add_zero,this,Bool.and_true,Bool.and_self];split<;>simp_all
  rw[hk]
  (repeat' first
 | assumption
 | exact Ext.refl _
 | refine Ext.trans ?_ (by assumption)
 | refine K.wrap (by omega) ?_
 | refine K.dv (by assumption) ?_ rfl ?_
 | refine K.dp (by assumption) ?_ rfl ?_
 | refine K.dC (by assumption) ?_ (by omega) rfl ?_
 | refine K.dn (by assumption) ?_ (by omega) rfl ?_
 | refine K.dB (by assumption) ?_ (by omega) rfl ?_
 | refine K.dA (by omega) ?_
 | refine K.dt (by first | assumption | omega) ?_
 | refine K.dy (by first | assumption | omega) ?_
 | refine K.dj (by assumption) ?_
 | refine K.dm (by assumption) ?_
 | simp -dsimp only[bU,bQ,Nat.reduceAdd,Nat.reduceEqDiff,reduceIte,reduceCtorEq,bZ])
  refine K.call (FQ x.n 0 aW) ?_;rintro _ bh ⟨rfl,av⟩;rw[aG]
  (repeat' first
 | assumption
 | exact Ext.refl _
 | refine Ext.trans ?_ (by assumption)
 | refine K.wrap (by omega) ?_
 | refine K.dv (by assumption) ?_ rfl ?_
 | refine K.dp (by assumption) ?_ rfl ?_
 | refine K.dC (by assumption) ?_ (by omega) rfl ?_
 | refine K.dn (by assumption) ?_ (by omega) rfl ?_
 | refine K.dB (by assumption) ?_ (by omega) rfl ?_
 | refine K.dA (by omega) ?_
 | refine K.dt (by first | assumption | omega) ?_
 | refine K.dy (by first | assumption | omega) ?_
 | refine K.dj (by assumption) ?_
 | refine K.dm (by assumption) ?_
 | simp -dsimp only[bU,bQ,Nat.reduceAdd,Nat.reduceEqDiff,reduceIte,reduceCtorEq,bZ])
  refine K.c3 (fun g2=>?_) (fun g2=>?_)
  all_goals
   (repeat' first
 | assumption
 | exact Ext.refl _
 | refine Ext.trans ?_ (by assumption)
 | refine K.wrap (by omega) ?_
 | refine K.dv (by assumption) ?_ rfl ?_
 | refine K.dp (by assumption) ?_ rfl ?_
 | refine K.dC (by assumption) ?_ (by omega) rfl ?_
 | refine K.dn (by assumption) ?_ (by omega) rfl ?_
 | refine K.dB (by assumption) ?_ (by omega) rfl ?_
 | refine K.dA (by omega) ?_
 | refine K.dt (by first | assumption | omega) ?_
 | refine K.dy (by first | assumption | omega) ?_
 | refine K.dj (by assumption) ?_
 | refine K.dm (by assumption) ?_
 | simp -dsimp only[bU,bQ,Nat.reduceAdd,Nat.reduceEqDiff,reduceIte,reduceCtorEq,bZ])
   rw[g2];exact b2
 by_cases aS:x.op=2∨x.op=3
 ·have hk:o.fC x v (st.getLastD 0)=(match o.nth v.vars x.n with | some l=>if x.op=2 then o.fG l 0 else (match o.nth l (st.getLastD 0 - 1) with | some y=>(y,0) | none=>(0,10)) | none=>(0,8)):=by
   rw[o.fC,if_neg g1];split
   ·rename_i e;cases o.nth v.vars x.n<;>simp[e]
   ·rename_i e;rw[if_pos (by omega)];cases o.nth v.vars x.n with
    | none=>rfl
    | some l=>simp only[e,if_false];cases o.nth l (st.getLastD 0 - 1)<;>rfl
  by_cases zK:x.n<0∨(v.vars.length:Int)≤x.n
  ·rw[hk,o.ga zK]
   (repeat' (refine aC ?_;first | (refine K.cond (fun _=>?_) (fun _=>?_)<;>try (exfalso;omega)) | refine K.c3 (fun _=>?_) (fun _=>?_)))<;>try refine aC ?_
   all_goals exact b2
  obtain⟨i,ad⟩:=Int.eq_ofNat_of_zero_le (show 0≤x.n by omega);have qK:i<v.vars.length:=by omega
  obtain⟨a,rfl⟩:=qc.addr (by omega);obtain⟨cB,jK,ou⟩:=qc.at i qK;have aM:o.nth v.vars x.n=some v.vars[i]:=by rw[ad,o.iP (by omega) (by omega)];simp only[Int.toNat_natCast]
  rw[ad] at da;by_cases g2:x.op=2
  ·have cp:o.fC x v (st.getLastD 0)=o.fG v.vars[i] 0:=by rw[hk,aM];simp only[g2,if_true]
   rw[cp]
   (repeat' first
 | assumption
 | exact Ext.refl _
 | refine Ext.trans ?_ (by assumption)
 | refine K.wrap (by omega) ?_
 | refine K.dv (by assumption) ?_ rfl ?_
 | refine K.dp (by assumption) ?_ rfl ?_
 | refine K.dC (by assumption) ?_ (by omega) rfl ?_
 | refine K.dn (by assumption) ?_ (by omega) rfl ?_
 | refine K.dB (by assumption) ?_ (by omega) rfl ?_
 | refine K.dA (by omega) ?_
 | refine K.dt (by first | assumption | omega) ?_
 | refine K.dy (by first | assumption | omega) ?_
 | refine K.dj (by assumption) ?_
 | refine K.dm (by assumption) ?_
 | simp -dsimp only[bU,bQ,Nat.reduceAdd,Nat.reduceEqDiff,reduceIte,reduceCtorEq,bZ])
   refine K.ld (he.cell jK) ?_
   (repeat' first
 | assumption
 | exact Ext.refl _
 | refine Ext.trans ?_ (by assumption)
 | refine K.wrap (by omega) ?_
 | refine K.dv (by assumption) ?_ rfl ?_
 | refine K.dp (by assumption) ?_ rfl ?_
 | refine K.dC (by assumption) ?_ (by omega) rfl ?_
 | refine K.dn (by assumption) ?_ (by omega) rfl ?_
 | refine K.dB (by assumption) ?_ (by omega) rfl ?_
 | refine K.dA (by omega) ?_
 | refine K.dt (by first | assumption | omega) ?_
 | refine K.dy (by first | assumption | omega) ?_
 | refine K.dj (by assumption) ?_
 | refine K.dm (by assumption) ?_
 | simp -dsimp only[bU,bQ,Nat.reduceAdd,Nat.reduceEqDiff,reduceIte,reduceCtorEq,bZ])
   refine K.call (y5 _ v.vars[i] 0 aW (ou.ext he)) ?_;rintro _ _ ⟨rfl,rfl⟩
   (repeat' first
 | assumption
 | exact Ext.refl _
 | refine Ext.trans ?_ (by assumption)
 | refine K.wrap (by omega) ?_
 | refine K.dv (by assumption) ?_ rfl ?_
 | refine K.dp (by assumption) ?_ rfl ?_
 | refine K.dC (by assumption) ?_ (by omega) rfl ?_
 | refine K.dn (by assumption) ?_ (by omega) rfl ?_
 | refine K.dB (by assumption) ?_ (by omega) rfl ?_
 | refine K.dA (by omega) ?_
 | refine K.dt (by first | assumption | omega) ?_
 | refine K.dy (by first | assumption | omega) ?_
 | refine K.dj (by assumption) ?_
 | refine K.dm (by assumption) ?_
 | simp -dsimp only[bU,bQ,Nat.reduceAdd,Nat.reduceEqDiff,reduceIte,reduceCtorEq,bZ])
   exact b2
  ·have g3:x.op=3:=by omega
   have mN:=ai g3;have kT:o.fC x v (st.getLastD 0)=(match o.nth v.vars[i] (st.getLastD 0 - 1) with | some y=>(y,0) | none=>(0,10)):=by rw[hk,aM];simp only[g2,if_false]
   rw[kT];clear kT hk
   (repeat' first
 | assumption
 | exact Ext.refl _
 | refine Ext.trans ?_ (by assumption)
 | refine K.wrap (by omega) ?_
 | refine K.dv (by assumption) ?_ rfl ?_
 | refine K.dp (by assumption) ?_ rfl ?_
 | refine K.dC (by assumption) ?_ (by omega) rfl ?_
 | refine K.dn (by assumption) ?_ (by omega) rfl ?_
 | refine K.dB (by assumption) ?_ (by omega) rfl ?_
 | refine K.dA (by omega) ?_
 | refine K.dt (by first | assumption | omega) ?_
 | refine K.dy (by first | assumption | omega) ?_
 | refine K.dj (by assumption) ?_
 | refine K.dm (by assumption) ?_
 | simp -dsimp only[bU,bQ,Nat.reduceAdd,Nat.reduceEqDiff,reduceIte,reduceCtorEq,bZ])
   refine K.ld (he.cell jK) ?_
   (repeat' first
 | assumption
 | exact Ext.refl _
 | refine Ext.trans ?_ (by assumption)
 | refine K.wrap (by omega) ?_
 | refine K.dv (by assumption) ?_ rfl ?_
 | refine K.dp (by assumption) ?_ rfl ?_
 | refine K.dC (by assumption) ?_ (by omega) rfl ?_
 | refine K.dn (by assumption) ?_ (by omega) rfl ?_
 | refine K.dB (by assumption) ?_ (by omega) rfl ?_
 | refine K.dA (by omega) ?_
 | refine K.dt (by first | assumption | omega) ?_
 | refine K.dy (by first | assumption | omega) ?_
 | refine K.dj (by assumption) ?_
 | refine K.dm (by assumption) ?_
 | simp -dsimp only[bU,bQ,Nat.reduceAdd,Nat.reduceEqDiff,reduceIte,reduceCtorEq,bZ])
   refine K.fj _ (fun w' e=>SN base b w' m st (hm.ext (he.trans e)) mN) ?_
   (repeat' first
 | assumption
 | exact Ext.refl _
 | refine Ext.trans ?_ (by assumption)
 | refine K.wrap (by omega) ?_
 | refine K.dv (by assumption) ?_ rfl ?_
 | refine K.dp (by assumption) ?_ rfl ?_
 | refine K.dC (by assumption) ?_ (by omega) rfl ?_
 | refine K.dn (by assumption) ?_ (by omega) rfl ?_
 | refine K.dB (by assumption) ?_ (by omega) rfl ?_
 | refine K.dA (by omega) ?_
 | refine K.dt (by first | assumption | omega) ?_
 | refine K.dy (by first | assumption | omega) ?_
 | refine K.dj (by assumption) ?_
 | refine K.dm (by assumption) ?_
 | simp -dsimp only[bU,bQ,Nat.reduceAdd,Nat.reduceEqDiff,reduceIte,reduceCtorEq,bZ])
   refine K.Fe ?_
   (repeat' first
 | assumption
 | exact Ext.refl _
 | refine Ext.trans ?_ (by assumption)
 | refine K.wrap (by omega) ?_
 | refine K.dv (by assumption) ?_ rfl ?_
 | refine K.dp (by assumption) ?_ rfl ?_
 | refine K.dC (by assumption) ?_ (by omega) rfl ?_
 | refine K.dn (by assumption) ?_ (by omega) rfl ?_
 | refine K.dB (by assumption) ?_ (by omega) rfl ?_
 | refine K.dA (by omega) ?_
 | refine K.dt (by first | assumption | omega) ?_
 | refine K.dy (by first | assumption | omega) ?_
 | refine K.dj (by assumption) ?_
 | refine K.dm (by assumption) ?_
 | simp -dsimp only[bU,bQ,Nat.reduceAdd,Nat.reduceEqDiff,reduceIte,reduceCtorEq,bZ])
   refine K.fj _ (fun w' e=>(y5 _ v.vars[i] _ w' (ou.ext (he.trans e))).mono fun _ _ ⟨h1,U⟩=>⟨h1,U ▸ Ext.refl _⟩) ?_
   (repeat' first
 | assumption
 | exact Ext.refl _
 | refine Ext.trans ?_ (by assumption)
 | refine K.wrap (by omega) ?_
 | refine K.dv (by assumption) ?_ rfl ?_
 | refine K.dp (by assumption) ?_ rfl ?_
 | refine K.dC (by assumption) ?_ (by omega) rfl ?_
 | refine K.dn (by assumption) ?_ (by omega) rfl ?_
 | refine K.dB (by assumption) ?_ (by omega) rfl ?_
 | refine K.dA (by omega) ?_
 | refine K.dt (by first | assumption | omega) ?_
 | refine K.dy (by first | assumption | omega) ?_
 | refine K.dj (by assumption) ?_
 | refine K.dm (by assumption) ?_
 | simp -dsimp only[bU,bQ,Nat.reduceAdd,Nat.reduceEqDiff,reduceIte,reduceCtorEq,bZ])
   intro bh av;have Yq:o.df (st.getLastD 0):=by rw[zJ _ mN];exact aX _ (List.getElem_mem _)
   obtain⟨fw,ci,rfl,li⟩:=ou.form;have hw:=aeL _ li _ Yq;cases aJ:o.nth v.vars[i] (IntKind.i64.wrap (st.getLastD 0 - 1)) with
   | none =>
    have bS:o.fG v.vars[i] (IntKind.i64.wrap (st.getLastD 0 - 1))=(0,8):=by rw[o.fG,aJ]
    rw[bS]
    (repeat' first
 | assumption
 | exact Ext.refl _
 | refine Ext.trans ?_ (by assumption)
 | refine K.wrap (by omega) ?_
 | refine K.dv (by assumption) ?_ rfl ?_
 | refine K.dp (by assumption) ?_ rfl ?_
 | refine K.dC (by assumption) ?_ (by omega) rfl ?_
 | refine K.dn (by assumption) ?_ (by omega) rfl ?_
 | refine K.dB (by assumption) ?_ (by omega) rfl ?_
 | refine K.dA (by omega) ?_
 | refine K.dt (by first | assumption | omega) ?_
 | refine K.dy (by first | assumption | omega) ?_
 | refine K.dj (by assumption) ?_
 | refine K.dm (by assumption) ?_
 | simp -dsimp only[bU,bQ,Nat.reduceAdd,Nat.reduceEqDiff,reduceIte,reduceCtorEq,bZ])
    rw[←hw,aJ];exact b2
   | some y =>
    have bS:o.fG v.vars[i] (IntKind.i64.wrap (st.getLastD 0 - 1))=(y,0):=by rw[o.fG,aJ]
    rw[bS]
    (repeat' first
 | assumption
 | exact Ext.refl _
 | refine Ext.trans ?_ (by assumption)
 | refine K.wrap (by omega) ?_
 | refine K.dv (by assumption) ?_ rfl ?_
 | refine K.dp (by assumption) ?_ rfl ?_
 | refine K.dC (by assumption) ?_ (by omega) rfl ?_
 | refine K.dn (by assumption) ?_ (by omega) rfl ?_
 | refine K.dB (by assumption) ?_ (by omega) rfl ?_
 | refine K.dA (by omega) ?_
 | refine K.dt (by first | assumption | omega) ?_
 | refine K.dy (by first | assumption | omega) ?_
 | refine K.dj (by assumption) ?_
 | refine K.dm (by assumption) ?_
 | simp -dsimp only[bU,bQ,Nat.reduceAdd,Nat.reduceEqDiff,reduceIte,reduceCtorEq,bZ])
    rw[←hw,aJ];exact b2
 rw[o.fC,if_neg g1,if_neg (by omega),if_neg (by omega)]
 (repeat' first
 | assumption
 | exact Ext.refl _
 | refine Ext.trans ?_ (by assumption)
 | refine K.wrap (by omega) ?_
 | refine K.dv (by assumption) ?_ rfl ?_
 | refine K.dp (by assumption) ?_ rfl ?_
 | refine K.dC (by assumption) ?_ (by omega) rfl ?_
 | refine K.dn (by assumption) ?_ (by omega) rfl ?_
 | refine K.dB (by assumption) ?_ (by omega) rfl ?_
 | refine K.dA (by omega) ?_
 | refine K.dt (by first | assumption | omega) ?_
 | refine K.dy (by first | assumption | omega) ?_
 | refine K.dj (by assumption) ?_
 | refine K.dm (by assumption) ?_
 | simp -dsimp only[bU,bQ,Nat.reduceAdd,Nat.reduceEqDiff,reduceIte,reduceCtorEq,bZ])
 apply K.cond<;>intro g4
 ·rw[if_pos g4]
  (repeat' first
 | assumption
 | exact Ext.refl _
 | refine Ext.trans ?_ (by assumption)
 | refine K.wrap (by omega) ?_
 | refine K.dv (by assumption) ?_ rfl ?_
 | refine K.dp (by assumption) ?_ rfl ?_
 | refine K.dC (by assumption) ?_ (by omega) rfl ?_
 | refine K.dn (by assumption) ?_ (by omega) rfl ?_
 | refine K.dB (by assumption) ?_ (by omega) rfl ?_
 | refine K.dA (by omega) ?_
 | refine K.dt (by first | assumption | omega) ?_
 | refine K.dy (by first | assumption | omega) ?_
 | refine K.dj (by assumption) ?_
 | refine K.dm (by assumption) ?_
 | simp -dsimp only[bU,bQ,Nat.reduceAdd,Nat.reduceEqDiff,reduceIte,reduceCtorEq,bZ])
  refine K.call (y5 _ v.locals x.n aW (dP.ext he)) ?_;rintro _ _ ⟨rfl,rfl⟩
  (repeat' first
 | assumption
 | exact Ext.refl _
 | refine Ext.trans ?_ (by assumption)
 | refine K.wrap (by omega) ?_
 | refine K.dv (by assumption) ?_ rfl ?_
 | refine K.dp (by assumption) ?_ rfl ?_
 | refine K.dC (by assumption) ?_ (by omega) rfl ?_
 | refine K.dn (by assumption) ?_ (by omega) rfl ?_
 | refine K.dB (by assumption) ?_ (by omega) rfl ?_
 | refine K.dA (by omega) ?_
 | refine K.dt (by first | assumption | omega) ?_
 | refine K.dy (by first | assumption | omega) ?_
 | refine K.dj (by assumption) ?_
 | refine K.dm (by assumption) ?_
 | simp -dsimp only[bU,bQ,Nat.reduceAdd,Nat.reduceEqDiff,reduceIte,reduceCtorEq,bZ])
  exact b2
 rw[if_neg g4]
 (repeat' first
 | assumption
 | exact Ext.refl _
 | refine Ext.trans ?_ (by assumption)
 | refine K.wrap (by omega) ?_
 | refine K.dv (by assumption) ?_ rfl ?_
 | refine K.dp (by assumption) ?_ rfl ?_
 | refine K.dC (by assumption) ?_ (by omega) rfl ?_
 | refine K.dn (by assumption) ?_ (by omega) rfl ?_
 | refine K.dB (by assumption) ?_ (by omega) rfl ?_
 | refine K.dA (by omega) ?_
 | refine K.dt (by first | assumption | omega) ?_
 | refine K.dy (by first | assumption | omega) ?_
 | refine K.dj (by assumption) ?_
 | refine K.dm (by assumption) ?_
 | simp -dsimp only[bU,bQ,Nat.reduceAdd,Nat.reduceEqDiff,reduceIte,reduceCtorEq,bZ])
 apply K.cond<;>intro g6
 ·rw[if_pos g6]
  (repeat' first
 | assumption
 | exact Ext.refl _
 | refine Ext.trans ?_ (by assumption)
 | refine K.wrap (by omega) ?_
 | refine K.dv (by assumption) ?_ rfl ?_
 | refine K.dp (by assumption) ?_ rfl ?_
 | refine K.dC (by assumption) ?_ (by omega) rfl ?_
 | refine K.dn (by assumption) ?_ (by omega) rfl ?_
 | refine K.dB (by assumption) ?_ (by omega) rfl ?_
 | refine K.dA (by omega) ?_
 | refine K.dt (by first | assumption | omega) ?_
 | refine K.dy (by first | assumption | omega) ?_
 | refine K.dj (by assumption) ?_
 | refine K.dm (by assumption) ?_
 | simp -dsimp only[bU,bQ,Nat.reduceAdd,Nat.reduceEqDiff,reduceIte,reduceCtorEq,bZ])
  refine K.call (y5 _ v.lens x.n aW (dS.ext he)) ?_;rintro _ _ ⟨rfl,rfl⟩
  (repeat' first
 | assumption
 | exact Ext.refl _
 | refine Ext.trans ?_ (by assumption)
 | refine K.wrap (by omega) ?_
 | refine K.dv (by assumption) ?_ rfl ?_
 | refine K.dp (by assumption) ?_ rfl ?_
 | refine K.dC (by assumption) ?_ (by omega) rfl ?_
 | refine K.dn (by assumption) ?_ (by omega) rfl ?_
 | refine K.dB (by assumption) ?_ (by omega) rfl ?_
 | refine K.dA (by omega) ?_
 | refine K.dt (by first | assumption | omega) ?_
 | refine K.dy (by first | assumption | omega) ?_
 | refine K.dj (by assumption) ?_
 | refine K.dm (by assumption) ?_
 | simp -dsimp only[bU,bQ,Nat.reduceAdd,Nat.reduceEqDiff,reduceIte,reduceCtorEq,bZ])
  exact b2
 rw[if_neg g6]
 (repeat' first
 | assumption
 | exact Ext.refl _
 | refine Ext.trans ?_ (by assumption)
 | refine K.wrap (by omega) ?_
 | refine K.dv (by assumption) ?_ rfl ?_
 | refine K.dp (by assumption) ?_ rfl ?_
 | refine K.dC (by assumption) ?_ (by omega) rfl ?_
 | refine K.dn (by assumption) ?_ (by omega) rfl ?_
 | refine K.dB (by assumption) ?_ (by omega) rfl ?_
 | refine K.dA (by omega) ?_
 | refine K.dt (by first | assumption | omega) ?_
 | refine K.dy (by first | assumption | omega) ?_
 | refine K.dj (by assumption) ?_
 | refine K.dm (by assumption) ?_
 | simp -dsimp only[bU,bQ,Nat.reduceAdd,Nat.reduceEqDiff,reduceIte,reduceCtorEq,bZ])
 apply K.cond<;>intro g5
 ·rw[if_pos g5]
  (repeat' first
 | assumption
 | exact Ext.refl _
 | refine Ext.trans ?_ (by assumption)
 | refine K.wrap (by omega) ?_
 | refine K.dv (by assumption) ?_ rfl ?_
 | refine K.dp (by assumption) ?_ rfl ?_
 | refine K.dC (by assumption) ?_ (by omega) rfl ?_
 | refine K.dn (by assumption) ?_ (by omega) rfl ?_
 | refine K.dB (by assumption) ?_ (by omega) rfl ?_
 | refine K.dA (by omega) ?_
 | refine K.dt (by first | assumption | omega) ?_
 | refine K.dy (by first | assumption | omega) ?_
 | refine K.dj (by assumption) ?_
 | refine K.dm (by assumption) ?_
 | simp -dsimp only[bU,bQ,Nat.reduceAdd,Nat.reduceEqDiff,reduceIte,reduceCtorEq,bZ])
  exact b2
 rw[if_neg g5]
 (repeat' first
 | assumption
 | exact Ext.refl _
 | refine Ext.trans ?_ (by assumption)
 | refine K.wrap (by omega) ?_
 | refine K.dv (by assumption) ?_ rfl ?_
 | refine K.dp (by assumption) ?_ rfl ?_
 | refine K.dC (by assumption) ?_ (by omega) rfl ?_
 | refine K.dn (by assumption) ?_ (by omega) rfl ?_
 | refine K.dB (by assumption) ?_ (by omega) rfl ?_
 | refine K.dA (by omega) ?_
 | refine K.dt (by first | assumption | omega) ?_
 | refine K.dy (by first | assumption | omega) ?_
 | refine K.dj (by assumption) ?_
 | refine K.dm (by assumption) ?_
 | simp -dsimp only[bU,bQ,Nat.reduceAdd,Nat.reduceEqDiff,reduceIte,reduceCtorEq,bZ])
 apply K.cond<;>intro g7;rotate_left
 ·rw[if_neg g7]
  (repeat' first
 | assumption
 | exact Ext.refl _
 | refine Ext.trans ?_ (by assumption)
 | refine K.wrap (by omega) ?_
 | refine K.dv (by assumption) ?_ rfl ?_
 | refine K.dp (by assumption) ?_ rfl ?_
 | refine K.dC (by assumption) ?_ (by omega) rfl ?_
 | refine K.dn (by assumption) ?_ (by omega) rfl ?_
 | refine K.dB (by assumption) ?_ (by omega) rfl ?_
 | refine K.dA (by omega) ?_
 | refine K.dt (by first | assumption | omega) ?_
 | refine K.dy (by first | assumption | omega) ?_
 | refine K.dj (by assumption) ?_
 | refine K.dm (by assumption) ?_
 | simp -dsimp only[bU,bQ,Nat.reduceAdd,Nat.reduceEqDiff,reduceIte,reduceCtorEq,bZ])
  exact b2
 rw[if_pos g7]
 (repeat' first
 | assumption
 | exact Ext.refl _
 | refine Ext.trans ?_ (by assumption)
 | refine K.wrap (by omega) ?_
 | refine K.dv (by assumption) ?_ rfl ?_
 | refine K.dp (by assumption) ?_ rfl ?_
 | refine K.dC (by assumption) ?_ (by omega) rfl ?_
 | refine K.dn (by assumption) ?_ (by omega) rfl ?_
 | refine K.dB (by assumption) ?_ (by omega) rfl ?_
 | refine K.dA (by omega) ?_
 | refine K.dt (by first | assumption | omega) ?_
 | refine K.dy (by first | assumption | omega) ?_
 | refine K.dj (by assumption) ?_
 | refine K.dm (by assumption) ?_
 | simp -dsimp only[bU,bQ,Nat.reduceAdd,Nat.reduceEqDiff,reduceIte,reduceCtorEq,bZ])
 apply K.cond<;>intro g8
 ·(repeat' first
 | assumption
 | exact Ext.refl _
 | refine Ext.trans ?_ (by assumption)
 | refine K.wrap (by omega) ?_
 | refine K.dv (by assumption) ?_ rfl ?_
 | refine K.dp (by assumption) ?_ rfl ?_
 | refine K.dC (by assumption) ?_ (by omega) rfl ?_
 | refine K.dn (by assumption) ?_ (by omega) rfl ?_
 | refine K.dB (by assumption) ?_ (by omega) rfl ?_
 | refine K.dA (by omega) ?_
 | refine K.dt (by first | assumption | omega) ?_
 | refine K.dy (by first | assumption | omega) ?_
 | refine K.dj (by assumption) ?_
 | refine K.dm (by assumption) ?_
 | simp -dsimp only[bU,bQ,Nat.reduceAdd,Nat.reduceEqDiff,reduceIte,reduceCtorEq,bZ])
  rw[if_neg (by omega)];exact b2
 rw[if_pos (by omega)];obtain⟨i,ad⟩:=Int.eq_ofNat_of_zero_le (show 0≤x.n by omega);obtain⟨_,hZ⟩:=aD.n;rw[ad] at hZ;have aJ:x.n.tdiv 16=((i / 16:Nat):Int):=by rw[ad];rfl
 have YW:x.n.tmod 16=((i % 16:Nat):Int):=by rw[ad];rfl
 (repeat' first
 | assumption
 | exact Ext.refl _
 | refine Ext.trans ?_ (by assumption)
 | refine K.wrap (by omega) ?_
 | refine K.dv (by assumption) ?_ rfl ?_
 | refine K.dp (by assumption) ?_ rfl ?_
 | refine K.dC (by assumption) ?_ (by omega) rfl ?_
 | refine K.dn (by assumption) ?_ (by omega) rfl ?_
 | refine K.dB (by assumption) ?_ (by omega) rfl ?_
 | refine K.dA (by omega) ?_
 | refine K.dt (by first | assumption | omega) ?_
 | refine K.dy (by first | assumption | omega) ?_
 | refine K.dj (by assumption) ?_
 | refine K.dm (by assumption) ?_
 | simp -dsimp only[bU,bQ,Nat.reduceAdd,Nat.reduceEqDiff,reduceIte,reduceCtorEq,bZ])
 refine K.quo (by omega) ?_;rw[aJ]
 (repeat' first
 | assumption
 | exact Ext.refl _
 | refine Ext.trans ?_ (by assumption)
 | refine K.wrap (by omega) ?_
 | refine K.dv (by assumption) ?_ rfl ?_
 | refine K.dp (by assumption) ?_ rfl ?_
 | refine K.dC (by assumption) ?_ (by omega) rfl ?_
 | refine K.dn (by assumption) ?_ (by omega) rfl ?_
 | refine K.dB (by assumption) ?_ (by omega) rfl ?_
 | refine K.dA (by omega) ?_
 | refine K.dt (by first | assumption | omega) ?_
 | refine K.dy (by first | assumption | omega) ?_
 | refine K.dj (by assumption) ?_
 | refine K.dm (by assumption) ?_
 | simp -dsimp only[bU,bQ,Nat.reduceAdd,Nat.reduceEqDiff,reduceIte,reduceCtorEq,bZ])
 apply K.cond<;>intro g9
 ·(repeat' first
 | assumption
 | exact Ext.refl _
 | refine Ext.trans ?_ (by assumption)
 | refine K.wrap (by omega) ?_
 | refine K.dv (by assumption) ?_ rfl ?_
 | refine K.dp (by assumption) ?_ rfl ?_
 | refine K.dC (by assumption) ?_ (by omega) rfl ?_
 | refine K.dn (by assumption) ?_ (by omega) rfl ?_
 | refine K.dB (by assumption) ?_ (by omega) rfl ?_
 | refine K.dA (by omega) ?_
 | refine K.dt (by first | assumption | omega) ?_
 | refine K.dy (by first | assumption | omega) ?_
 | refine K.dj (by assumption) ?_
 | refine K.dm (by assumption) ?_
 | simp -dsimp only[bU,bQ,Nat.reduceAdd,Nat.reduceEqDiff,reduceIte,reduceCtorEq,bZ])
  rw[o.ga (.inr (by omega))];exact b2
 have aP:i / 16<v.at_.length:=by omega
 obtain⟨a,rfl⟩:=dD.addr (by omega);obtain⟨cB,jK,ou⟩:=dD.at (i / 16) aP;rw[o.iP (by omega) (by omega)];simp only[Int.toNat_natCast]
 (repeat' first
 | assumption
 | exact Ext.refl _
 | refine Ext.trans ?_ (by assumption)
 | refine K.wrap (by omega) ?_
 | refine K.dv (by assumption) ?_ rfl ?_
 | refine K.dp (by assumption) ?_ rfl ?_
 | refine K.dC (by assumption) ?_ (by omega) rfl ?_
 | refine K.dn (by assumption) ?_ (by omega) rfl ?_
 | refine K.dB (by assumption) ?_ (by omega) rfl ?_
 | refine K.dA (by omega) ?_
 | refine K.dt (by first | assumption | omega) ?_
 | refine K.dy (by first | assumption | omega) ?_
 | refine K.dj (by assumption) ?_
 | refine K.dm (by assumption) ?_
 | simp -dsimp only[bU,bQ,Nat.reduceAdd,Nat.reduceEqDiff,reduceIte,reduceCtorEq,bZ])
 refine K.quo (by omega) ?_;rw[aJ]
 (repeat' first
 | assumption
 | exact Ext.refl _
 | refine Ext.trans ?_ (by assumption)
 | refine K.wrap (by omega) ?_
 | refine K.dv (by assumption) ?_ rfl ?_
 | refine K.dp (by assumption) ?_ rfl ?_
 | refine K.dC (by assumption) ?_ (by omega) rfl ?_
 | refine K.dn (by assumption) ?_ (by omega) rfl ?_
 | refine K.dB (by assumption) ?_ (by omega) rfl ?_
 | refine K.dA (by omega) ?_
 | refine K.dt (by first | assumption | omega) ?_
 | refine K.dy (by first | assumption | omega) ?_
 | refine K.dj (by assumption) ?_
 | refine K.dm (by assumption) ?_
 | simp -dsimp only[bU,bQ,Nat.reduceAdd,Nat.reduceEqDiff,reduceIte,reduceCtorEq,bZ])
 refine K.ld (he.cell jK) ?_
 (repeat' first
 | assumption
 | exact Ext.refl _
 | refine Ext.trans ?_ (by assumption)
 | refine K.wrap (by omega) ?_
 | refine K.dv (by assumption) ?_ rfl ?_
 | refine K.dp (by assumption) ?_ rfl ?_
 | refine K.dC (by assumption) ?_ (by omega) rfl ?_
 | refine K.dn (by assumption) ?_ (by omega) rfl ?_
 | refine K.dB (by assumption) ?_ (by omega) rfl ?_
 | refine K.dA (by omega) ?_
 | refine K.dt (by first | assumption | omega) ?_
 | refine K.dy (by first | assumption | omega) ?_
 | refine K.dj (by assumption) ?_
 | refine K.dm (by assumption) ?_
 | simp -dsimp only[bU,bQ,Nat.reduceAdd,Nat.reduceEqDiff,reduceIte,reduceCtorEq,bZ])
 refine K.rem (by omega) ?_
 (repeat' first
 | assumption
 | exact Ext.refl _
 | refine Ext.trans ?_ (by assumption)
 | refine K.wrap (by omega) ?_
 | refine K.dv (by assumption) ?_ rfl ?_
 | refine K.dp (by assumption) ?_ rfl ?_
 | refine K.dC (by assumption) ?_ (by omega) rfl ?_
 | refine K.dn (by assumption) ?_ (by omega) rfl ?_
 | refine K.dB (by assumption) ?_ (by omega) rfl ?_
 | refine K.dA (by omega) ?_
 | refine K.dt (by first | assumption | omega) ?_
 | refine K.dy (by first | assumption | omega) ?_
 | refine K.dj (by assumption) ?_
 | refine K.dm (by assumption) ?_
 | simp -dsimp only[bU,bQ,Nat.reduceAdd,Nat.reduceEqDiff,reduceIte,reduceCtorEq,bZ])
 refine K.fj _ (fun w' e=>(y5 _ v.at_[i / 16] _ w' (ou.ext (he.trans e))).mono fun _ _ ⟨h1,U⟩=>⟨h1,U ▸ Ext.refl _⟩) ?_
 (repeat' first
 | assumption
 | exact Ext.refl _
 | refine Ext.trans ?_ (by assumption)
 | refine K.wrap (by omega) ?_
 | refine K.dv (by assumption) ?_ rfl ?_
 | refine K.dp (by assumption) ?_ rfl ?_
 | refine K.dC (by assumption) ?_ (by omega) rfl ?_
 | refine K.dn (by assumption) ?_ (by omega) rfl ?_
 | refine K.dB (by assumption) ?_ (by omega) rfl ?_
 | refine K.dA (by omega) ?_
 | refine K.dt (by first | assumption | omega) ?_
 | refine K.dy (by first | assumption | omega) ?_
 | refine K.dj (by assumption) ?_
 | refine K.dm (by assumption) ?_
 | simp -dsimp only[bU,bQ,Nat.reduceAdd,Nat.reduceEqDiff,reduceIte,reduceCtorEq,bZ])
 intro bh av
 (repeat' first
 | assumption
 | exact Ext.refl _
 | refine Ext.trans ?_ (by assumption)
 | refine K.wrap (by omega) ?_
 | refine K.dv (by assumption) ?_ rfl ?_
 | refine K.dp (by assumption) ?_ rfl ?_
 | refine K.dC (by assumption) ?_ (by omega) rfl ?_
 | refine K.dn (by assumption) ?_ (by omega) rfl ?_
 | refine K.dB (by assumption) ?_ (by omega) rfl ?_
 | refine K.dA (by omega) ?_
 | refine K.dt (by first | assumption | omega) ?_
 | refine K.dy (by first | assumption | omega) ?_
 | refine K.dj (by assumption) ?_
 | refine K.dm (by assumption) ?_
 | simp -dsimp only[bU,bQ,Nat.reduceAdd,Nat.reduceEqDiff,reduceIte,reduceCtorEq,bZ])
 exact b2
end Go.Proofs.R
end
section
set_option linter.unusedSimpArgs false
namespace o
open Go Go.RowKit bn
structure Env.ok(v:Env):Prop where
 vars:∀l∈v.vars,∀z∈l,df z
 lens:∀z∈v.lens,df z
 locals:∀z∈v.locals,df z
 at_:∀l∈v.at_,∀z∈l,df z
 self:df v.self
theorem R0{w:World}{v:Value}{l:List (List Int)}(h:qn w v l):∀r∈l,∀z∈r,df z:=by
 intro r ba;obtain⟨i,ad,rfl⟩:=List.mem_iff_getElem.1 ba;obtain⟨bf,cap,rfl,_⟩:=h.form;obtain⟨a,rfl⟩:=h.addr (by omega);obtain⟨cB,_,U⟩:=h.at i ad;exact U.ok
theorem na.ok{w:World}{cs:List Value}{v:Env}(h:na w cs v):v.ok:=by
 obtain⟨v0,v1,v2,v3,_,ak,h1,U,ai,aL⟩:=h.ex;exact⟨R0 ak,h1.ok,U.ok,R0 ai,aL⟩
theorem vL{α:Type}{l:List α}{n:Int}{x:α}(h:nth l n=some x):x∈l:=by
 unfold nth at h;split at h
 ·exact List.mem_of_getElem? h
 ·cases h
theorem Ea:df 0:=⟨by decide,by decide⟩
theorem aeU{n:Int}(h:within n=true):df n:=by simp[within] at h;exact⟨by omega,by omega⟩
theorem aed(f:Int→Int→Int)(a b:Int):df (tell f a b).1:=by
 unfold tell;split
 ·rename_i h;simp only[Bool.and_eq_true] at h;exact aeU h.2
 ·exact Ea
theorem Uz(b:Bool):df (bit b):=by cases b<;>exact⟨by decide,by decide⟩
theorem VC{x:Int}{aj:mi}(h:fS x=some aj)(a b:Int):df (aj.uT a b).1:=by
 unfold fS at h
 repeat' split at h
 all_goals first | (cases h;first | exact aed _ _ _ | exact Uz _) | cases h
theorem E8{l:List Int}{n:Int}(h:∀z∈l,df z):df (fG l n).1:=by
 unfold fG;split
 ·rename_i x aD;exact h x (vL aD)
 ·exact Ea
theorem Wt{v:Env}(aS:v.ok){x:Node}{st:List Int}(aD:x.ok):df (hC v x st).1:=by
 unfold hC;split
 ·rename_i aj a1;unfold sG;simp only;split
  ·exact VC a1 _ _
  ·exact Ea
 ·unfold fC
  (repeat' split)
  all_goals first
   | exact aD.n
   | exact Ea
   | exact aS.self
   | exact E8 aS.locals
   | exact E8 aS.lens
   | (rename_i cR;exact E8 (aS.vars _ (vL cR)))
   | (rename_i cR;exact E8 (aS.at_ _ (vL cR)))
   | (rename_i h1 _ _ U;exact aS.vars _ (vL h1) _ (vL U))
   | (rename_i U;rename_i h1;exact aS.vars _ (vL h1) _ (vL U))
end o
namespace Go.Proofs.R
open Go Go.RowKit bn
theorem aeQ(aj:o.mi)(u fA:Value)(l:List Int)(w:World)(aN:Ints w fA l)(ak:0<l.length)(bx:sI w u aj.uT) :
  bw Tryz.prog F.bX #[.agg #[.int .i64 aj.parts,.int .i64 aj.hS,.int .i64 aj.makes,u],fA] w fun v w'=>v = .tuple #[.int .i64 (o.sG aj l).1,.int .i64 (o.sG aj l).2]∧Ext w w':=by
 obtain⟨bf,cap,rfl,hlen⟩:=aN.form;refine bO E.bX ?_;refine bH ?_
 (repeat' first
 | assumption
 | exact Ext.refl _
 | refine Ext.trans ?_ (by assumption)
 | refine K.wrap (by omega) ?_
 | refine K.dv (by assumption) ?_ rfl ?_
 | refine K.dp (by assumption) ?_ rfl ?_
 | refine K.dC (by assumption) ?_ (by omega) rfl ?_
 | refine K.dn (by assumption) ?_ (by omega) rfl ?_
 | refine K.dB (by assumption) ?_ (by omega) rfl ?_
 | refine K.dA (by omega) ?_
 | refine K.dt (by first | assumption | omega) ?_
 | refine K.dy (by first | assumption | omega) ?_
 | refine K.dj (by assumption) ?_
 | refine K.dm (by assumption) ?_
 | simp -dsimp only[bU,bQ,Nat.reduceAdd,Nat.reduceEqDiff,reduceIte,reduceCtorEq,bZ])
 refine K.new fun ar b aA aE al=>?_;obtain⟨a,rfl⟩:=aN.addr ak;have oj:Ints ar (.slice (some a) l.length cap) l:=aN.ext aE
 (repeat' first
 | assumption
 | exact Ext.refl _
 | refine Ext.trans ?_ (by assumption)
 | refine K.wrap (by omega) ?_
 | refine K.dv (by assumption) ?_ rfl ?_
 | refine K.dp (by assumption) ?_ rfl ?_
 | refine K.dC (by assumption) ?_ (by omega) rfl ?_
 | refine K.dn (by assumption) ?_ (by omega) rfl ?_
 | refine K.dB (by assumption) ?_ (by omega) rfl ?_
 | refine K.dA (by omega) ?_
 | refine K.dt (by first | assumption | omega) ?_
 | refine K.dy (by first | assumption | omega) ?_
 | refine K.dj (by assumption) ?_
 | refine K.dm (by assumption) ?_
 | simp -dsimp only[bU,bQ,Nat.reduceAdd,Nat.reduceEqDiff,reduceIte,reduceCtorEq,bZ])
 refine K.du (l.length - 1) (by omega) (by omega) ?_
 (repeat' first
 | assumption
 | exact Ext.refl _
 | refine Ext.trans ?_ (by assumption)
 | refine K.wrap (by omega) ?_
 | refine K.dv (by assumption) ?_ rfl ?_
 | refine K.dp (by assumption) ?_ rfl ?_
 | refine K.dC (by assumption) ?_ (by omega) rfl ?_
 | refine K.dn (by assumption) ?_ (by omega) rfl ?_
 | refine K.dB (by assumption) ?_ (by omega) rfl ?_
 | refine K.dA (by omega) ?_
 | refine K.dt (by first | assumption | omega) ?_
 | refine K.dy (by first | assumption | omega) ?_
 | refine K.dj (by assumption) ?_
 | refine K.dm (by assumption) ?_
 | simp -dsimp only[bU,bQ,Nat.reduceAdd,Nat.reduceEqDiff,reduceIte,reduceCtorEq,bZ])
 refine K.RG _ (fun w' e=>K.uT (bx.ext (aE.trans e)) fun bW aZ=>⟨rfl,aZ⟩) ?_;have dJ:l[0]=l.headD 0:=by
  cases l with
  | nil=>simp at ak
  | cons z l=>rfl
 rw[dJ,←zJ l ak];rw[o.sG];generalize aj.uT (l.headD 0) (l.getLastD 0)=q
 (repeat' first
 | assumption
 | exact Ext.refl _
 | refine Ext.trans ?_ (by assumption)
 | refine K.wrap (by omega) ?_
 | refine K.dv (by assumption) ?_ rfl ?_
 | refine K.dp (by assumption) ?_ rfl ?_
 | refine K.dC (by assumption) ?_ (by omega) rfl ?_
 | refine K.dn (by assumption) ?_ (by omega) rfl ?_
 | refine K.dB (by assumption) ?_ (by omega) rfl ?_
 | refine K.dA (by omega) ?_
 | refine K.dt (by first | assumption | omega) ?_
 | refine K.dy (by first | assumption | omega) ?_
 | refine K.dj (by assumption) ?_
 | refine K.dm (by assumption) ?_
 | simp -dsimp only[bU,bQ,Nat.reduceAdd,Nat.reduceEqDiff,reduceIte,reduceCtorEq,bZ])
 intro aW aF
 (repeat' first
 | assumption
 | exact Ext.refl _
 | refine Ext.trans ?_ (by assumption)
 | refine K.wrap (by omega) ?_
 | refine K.dv (by assumption) ?_ rfl ?_
 | refine K.dp (by assumption) ?_ rfl ?_
 | refine K.dC (by assumption) ?_ (by omega) rfl ?_
 | refine K.dn (by assumption) ?_ (by omega) rfl ?_
 | refine K.dB (by assumption) ?_ (by omega) rfl ?_
 | refine K.dA (by omega) ?_
 | refine K.dt (by first | assumption | omega) ?_
 | refine K.dy (by first | assumption | omega) ?_
 | refine K.dj (by assumption) ?_
 | refine K.dm (by assumption) ?_
 | simp -dsimp only[bU,bQ,Nat.reduceAdd,Nat.reduceEqDiff,reduceIte,reduceCtorEq,bZ])
 refine K.c3 (fun g=>?_) (fun g=>?_)
 all_goals
  (repeat' first
 | assumption
 | exact Ext.refl _
 | refine Ext.trans ?_ (by assumption)
 | refine K.wrap (by omega) ?_
 | refine K.dv (by assumption) ?_ rfl ?_
 | refine K.dp (by assumption) ?_ rfl ?_
 | refine K.dC (by assumption) ?_ (by omega) rfl ?_
 | refine K.dn (by assumption) ?_ (by omega) rfl ?_
 | refine K.dB (by assumption) ?_ (by omega) rfl ?_
 | refine K.dA (by omega) ?_
 | refine K.dt (by first | assumption | omega) ?_
 | refine K.dy (by first | assumption | omega) ?_
 | refine K.dj (by assumption) ?_
 | refine K.dm (by assumption) ?_
 | simp -dsimp only[bU,bQ,Nat.reduceAdd,Nat.reduceEqDiff,reduceIte,reduceCtorEq,bZ])
  simp only[g,if_true,Bool.false_eq_true,if_false];exact b2
theorem V6(x:o.Node)(cs:List Value)(v:o.Env)(base b pm cX:Nat)(w:World)(m:Value)(st:List Int)(JM:TypeId)(aD:x.ok)(h:o.na w cs v)(hm:nK base b w m st)(ai:x.op=3→0<st.length)(aX:∀z∈st,o.df z)
  (Au:w.heap[pm]? = some (.cells #[.pointer (some ⟨b,0,none⟩)] JM))(pZ:w.heap[cX]? = some (.cells cs.toArray T.aj)) :
  bw Tryz.prog F.c2 #[.agg x.enc.toArray,.pointer (some ⟨pm,0,none⟩),.pointer (some ⟨cX,0,none⟩)] w fun u w' =>
   u = .tuple #[.int .i64 (o.fC x v (st.getLastD 0)).1,.int .i64 (o.fC x v (st.getLastD 0)).2]∧Ext w w':=by
 obtain⟨v0,v1,v2,v3,rfl,_⟩:=h.ex;refine bO E.c2 ?_;refine bH ?_
 (repeat' first
 | assumption
 | exact Ext.refl _
 | refine Ext.trans ?_ (by assumption)
 | refine K.wrap (by omega) ?_
 | refine K.dv (by assumption) ?_ rfl ?_
 | refine K.dp (by assumption) ?_ rfl ?_
 | refine K.dC (by assumption) ?_ (by omega) rfl ?_
 | refine K.dn (by assumption) ?_ (by omega) rfl ?_
 | refine K.dB (by assumption) ?_ (by omega) rfl ?_
 | refine K.dA (by omega) ?_
 | refine K.dt (by first | assumption | omega) ?_
 | refine K.dy (by first | assumption | omega) ?_
 | refine K.dj (by assumption) ?_
 | refine K.dm (by assumption) ?_
 | simp -dsimp only[bU,bQ,Nat.reduceAdd,Nat.reduceEqDiff,reduceIte,reduceCtorEq,bZ])
 refine K.new fun ar bz cN aE al=>?_;have da:ar.heap[bz]? = some (.cells x.enc.toArray T.f):=al
 (repeat' first
 | assumption
 | exact Ext.refl _
 | refine Ext.trans ?_ (by assumption)
 | refine K.wrap (by omega) ?_
 | refine K.dv (by assumption) ?_ rfl ?_
 | refine K.dp (by assumption) ?_ rfl ?_
 | refine K.dC (by assumption) ?_ (by omega) rfl ?_
 | refine K.dn (by assumption) ?_ (by omega) rfl ?_
 | refine K.dB (by assumption) ?_ (by omega) rfl ?_
 | refine K.dA (by omega) ?_
 | refine K.dt (by first | assumption | omega) ?_
 | refine K.dy (by first | assumption | omega) ?_
 | refine K.dj (by assumption) ?_
 | refine K.dm (by assumption) ?_
 | simp -dsimp only[bU,bQ,Nat.reduceAdd,Nat.reduceEqDiff,reduceIte,reduceCtorEq,bZ])
 refine K.fO (c:=x.enc) da (Ext.refl _) rfl ?_
 (repeat' first
 | assumption
 | exact Ext.refl _
 | refine Ext.trans ?_ (by assumption)
 | refine K.wrap (by omega) ?_
 | refine K.dv (by assumption) ?_ rfl ?_
 | refine K.dp (by assumption) ?_ rfl ?_
 | refine K.dC (by assumption) ?_ (by omega) rfl ?_
 | refine K.dn (by assumption) ?_ (by omega) rfl ?_
 | refine K.dB (by assumption) ?_ (by omega) rfl ?_
 | refine K.dA (by omega) ?_
 | refine K.dt (by first | assumption | omega) ?_
 | refine K.dy (by first | assumption | omega) ?_
 | refine K.dj (by assumption) ?_
 | refine K.dm (by assumption) ?_
 | simp -dsimp only[bU,bQ,Nat.reduceAdd,Nat.reduceEqDiff,reduceIte,reduceCtorEq,bZ])
 refine K.fO pZ aE rfl ?_
 (repeat' first
 | assumption
 | exact Ext.refl _
 | refine Ext.trans ?_ (by assumption)
 | refine K.wrap (by omega) ?_
 | refine K.dv (by assumption) ?_ rfl ?_
 | refine K.dp (by assumption) ?_ rfl ?_
 | refine K.dC (by assumption) ?_ (by omega) rfl ?_
 | refine K.dn (by assumption) ?_ (by omega) rfl ?_
 | refine K.dB (by assumption) ?_ (by omega) rfl ?_
 | refine K.dA (by omega) ?_
 | refine K.dt (by first | assumption | omega) ?_
 | refine K.dy (by first | assumption | omega) ?_
 | refine K.dj (by assumption) ?_
 | refine K.dm (by assumption) ?_
 | simp -dsimp only[bU,bQ,Nat.reduceAdd,Nat.reduceEqDiff,reduceIte,reduceCtorEq,bZ])
 refine K.call (aeO x _ v base b ar m st aD (h.ext aE) (hm.ext aE) ai aX) ?_;rintro _ aW ⟨rfl,aF⟩
 (repeat' first
 | assumption
 | exact Ext.refl _
 | refine Ext.trans ?_ (by assumption)
 | refine K.wrap (by omega) ?_
 | refine K.dv (by assumption) ?_ rfl ?_
 | refine K.dp (by assumption) ?_ rfl ?_
 | refine K.dC (by assumption) ?_ (by omega) rfl ?_
 | refine K.dn (by assumption) ?_ (by omega) rfl ?_
 | refine K.dB (by assumption) ?_ (by omega) rfl ?_
 | refine K.dA (by omega) ?_
 | refine K.dt (by first | assumption | omega) ?_
 | refine K.dy (by first | assumption | omega) ?_
 | refine K.dj (by assumption) ?_
 | refine K.dm (by assumption) ?_
 | simp -dsimp only[bU,bQ,Nat.reduceAdd,Nat.reduceEqDiff,reduceIte,reduceCtorEq,bZ])
 exact b2
theorem Wu(v:o.Env):EY (o.hC v) o.sG fun x st=>o.fC x v (st.getLastD 0):=fun _ _=>rfl
theorem V8(fH:Value)(e:List o.Node)(cs:List Value)(v:o.Env)(w:World)(he:o.gG w fH e)(h:o.na w cs v) :
  bw Tryz.prog F.zk #[fH,.agg cs.toArray] w fun u w'=>u = .tuple #[.int .i64 (o.eval e v).1,.int .i64 (o.eval e v).2]∧Ext w w':=by
 have c4:=h.ok;obtain⟨v0,v1,v2,v3,rfl,_⟩:=h.ex;refine bO E.zk ?_;refine bH ?_
 (repeat' first
 | assumption
 | exact Ext.refl _
 | refine Ext.trans ?_ (by assumption)
 | refine K.wrap (by omega) ?_
 | refine K.dv (by assumption) ?_ rfl ?_
 | refine K.dp (by assumption) ?_ rfl ?_
 | refine K.dC (by assumption) ?_ (by omega) rfl ?_
 | refine K.dn (by assumption) ?_ (by omega) rfl ?_
 | refine K.dB (by assumption) ?_ (by omega) rfl ?_
 | refine K.dA (by omega) ?_
 | refine K.dt (by first | assumption | omega) ?_
 | refine K.dy (by first | assumption | omega) ?_
 | refine K.dj (by assumption) ?_
 | refine K.dm (by assumption) ?_
 | simp -dsimp only[bU,bQ,Nat.reduceAdd,Nat.reduceEqDiff,reduceIte,reduceCtorEq,bZ])
 refine K.new fun ar cX pZ aE al=>?_
 (repeat' first
 | assumption
 | exact Ext.refl _
 | refine Ext.trans ?_ (by assumption)
 | refine K.wrap (by omega) ?_
 | refine K.dv (by assumption) ?_ rfl ?_
 | refine K.dp (by assumption) ?_ rfl ?_
 | refine K.dC (by assumption) ?_ (by omega) rfl ?_
 | refine K.dn (by assumption) ?_ (by omega) rfl ?_
 | refine K.dB (by assumption) ?_ (by omega) rfl ?_
 | refine K.dA (by omega) ?_
 | refine K.dt (by first | assumption | omega) ?_
 | refine K.dy (by first | assumption | omega) ?_
 | refine K.dj (by assumption) ?_
 | refine K.dm (by assumption) ?_
 | simp -dsimp only[bU,bQ,Nat.reduceAdd,Nat.reduceEqDiff,reduceIte,reduceCtorEq,bZ])
 refine K.cJ (cs:=[.slice none 0 0,.map none]) (by simp[ep]) ?_
 (repeat' first
 | assumption
 | exact Ext.refl _
 | refine Ext.trans ?_ (by assumption)
 | refine K.wrap (by omega) ?_
 | refine K.dv (by assumption) ?_ rfl ?_
 | refine K.dp (by assumption) ?_ rfl ?_
 | refine K.dC (by assumption) ?_ (by omega) rfl ?_
 | refine K.dn (by assumption) ?_ (by omega) rfl ?_
 | refine K.dB (by assumption) ?_ (by omega) rfl ?_
 | refine K.dA (by omega) ?_
 | refine K.dt (by first | assumption | omega) ?_
 | refine K.dy (by first | assumption | omega) ?_
 | refine K.dj (by assumption) ?_
 | refine K.dm (by assumption) ?_
 | simp -dsimp only[bU,bQ,Nat.reduceAdd,Nat.reduceEqDiff,reduceIte,reduceCtorEq,bZ])
 refine K.new fun aW b aA aF aO=>?_
 (repeat' first
 | assumption
 | exact Ext.refl _
 | refine Ext.trans ?_ (by assumption)
 | refine K.wrap (by omega) ?_
 | refine K.dv (by assumption) ?_ rfl ?_
 | refine K.dp (by assumption) ?_ rfl ?_
 | refine K.dC (by assumption) ?_ (by omega) rfl ?_
 | refine K.dn (by assumption) ?_ (by omega) rfl ?_
 | refine K.dB (by assumption) ?_ (by omega) rfl ?_
 | refine K.dA (by omega) ?_
 | refine K.dt (by first | assumption | omega) ?_
 | refine K.dy (by first | assumption | omega) ?_
 | refine K.dj (by assumption) ?_
 | refine K.dm (by assumption) ?_
 | simp -dsimp only[bU,bQ,Nat.reduceAdd,Nat.reduceEqDiff,reduceIte,reduceCtorEq,bZ])
 refine K.new fun bh pm Au av bA=>?_
 (repeat' first
 | assumption
 | exact Ext.refl _
 | refine Ext.trans ?_ (by assumption)
 | refine K.wrap (by omega) ?_
 | refine K.dv (by assumption) ?_ rfl ?_
 | refine K.dp (by assumption) ?_ rfl ?_
 | refine K.dC (by assumption) ?_ (by omega) rfl ?_
 | refine K.dn (by assumption) ?_ (by omega) rfl ?_
 | refine K.dB (by assumption) ?_ (by omega) rfl ?_
 | refine K.dA (by omega) ?_
 | refine K.dt (by first | assumption | omega) ?_
 | refine K.dy (by first | assumption | omega) ?_
 | refine K.dj (by assumption) ?_
 | refine K.dm (by assumption) ?_
 | simp -dsimp only[bU,bQ,Nat.reduceAdd,Nat.reduceEqDiff,reduceIte,reduceCtorEq,bZ])
 refine K.qf bA (by decide) rfl fun bj ew b0=>?_;have G8:bj.heap[pm]? = some (.cells #[.pointer (some ⟨b,0,none⟩)] T.nW):=b0;have aH:Ext aW bj:=ew.ext av Au;have HS:=cL aO;have Zg:=cL al;have vf:Ext w bj:=(aE.trans aF).trans aH;clear b0 ew av bA;have fo:=aH.obj aO;have mM:=aH.obj (aF.obj al);have fx:=aE.size
 (repeat' first
 | assumption
 | exact Ext.refl _
 | refine Ext.trans ?_ (by assumption)
 | refine K.wrap (by omega) ?_
 | refine K.dv (by assumption) ?_ rfl ?_
 | refine K.dp (by assumption) ?_ rfl ?_
 | refine K.dC (by assumption) ?_ (by omega) rfl ?_
 | refine K.dn (by assumption) ?_ (by omega) rfl ?_
 | refine K.dB (by assumption) ?_ (by omega) rfl ?_
 | refine K.dA (by omega) ?_
 | refine K.dt (by first | assumption | omega) ?_
 | refine K.dy (by first | assumption | omega) ?_
 | refine K.dj (by assumption) ?_
 | refine K.dm (by assumption) ?_
 | simp -dsimp only[bU,bQ,Nat.reduceAdd,Nat.reduceEqDiff,reduceIte,reduceCtorEq,bZ])
 refine K.call (Sa (o.hC v) o.sG (fun x st=>o.fC x v (st.getLastD 0)) (Wu v) o.df b w bj vf (by omega) fH _ _ e he fo (fun x st aD _ _ _ _=>o.Wt c4 aD) ?_ ?_) ?_
 ·intro x st base m w' aD hm vk aX dS dP dD JW cI t jv hk;refine K.ln (first:=[]) (cap:=[.pointer (some ⟨pm,0,none⟩),.pointer (some ⟨cX,0,none⟩)]) (by kernel_rfl)
   (V6 x _ v base b pm cX JW m st _ aD (h.ext ((hm.ext vf (by intro k hk e;omega)).trans jv)) (vk.ext jv) ?_ aX (jv.obj (hm.obj (by omega) G8)) (jv.obj (hm.obj (by omega) mM))) fun v bW ⟨h1,U⟩=>by subst h1;exact hk bW U
  intro ai
  have:o.eI x.op=1:=by rw[ai];rfl
  omega
 ·rintro aj e4 fA l w' cI t hm ⟨u,rfl,bx⟩ ⟨x,aD⟩ aN ad hk;exact K.CR (first:=[]) (cap:=[]) (by kernel_rfl) (aeQ aj u fA l w' ad (by have:=IX aD;omega) bx) fun v bW ⟨h1,U⟩=>by subst h1;exact hk bW U
 rintro _ bF ⟨rfl,kU⟩;have a8:Ext w bF:=kU.ext vf (by intro k hk e;omega)
 (repeat' first
 | assumption
 | exact Ext.refl _
 | refine Ext.trans ?_ (by assumption)
 | refine K.wrap (by omega) ?_
 | refine K.dv (by assumption) ?_ rfl ?_
 | refine K.dp (by assumption) ?_ rfl ?_
 | refine K.dC (by assumption) ?_ (by omega) rfl ?_
 | refine K.dn (by assumption) ?_ (by omega) rfl ?_
 | refine K.dB (by assumption) ?_ (by omega) rfl ?_
 | refine K.dA (by omega) ?_
 | refine K.dt (by first | assumption | omega) ?_
 | refine K.dy (by first | assumption | omega) ?_
 | refine K.dj (by assumption) ?_
 | refine K.dm (by assumption) ?_
 | simp -dsimp only[bU,bQ,Nat.reduceAdd,Nat.reduceEqDiff,reduceIte,reduceCtorEq,bZ])
 exact b2
end Go.Proofs.R
end
section
set_option linter.unusedSimpArgs false
namespace Go.Proofs.R
open Go Go.RowKit bn
theorem ED(v:Value)(l:List Int)(n:Int)(w:World)(aN:lO w v l):bw Tryz.prog F.tM #[v,.int .i64 n] w fun v w'=>v = .tuple #[.int .i64 (o.fG l n).1,.bool (decide ((o.fG l n).2=0))]∧Ext w w':=by
 obtain⟨bf,cap,rfl,hlen⟩:=aN.form;refine bO E.tM ?_;refine bH ?_;refine aC ?_;apply K.cond<;>intro g1
 ·refine aC ?_;rw[o.fG,o.ga (.inl g1)];exact b2
 refine aC ?_;apply K.cond<;>intro g2
 ·refine aC ?_;rw[o.fG,o.ga (.inr (by omega))];exact b2
 obtain⟨i,rfl⟩:=Int.eq_ofNat_of_zero_le (show 0≤n by omega);obtain⟨a,rfl⟩:=aN.addr (by omega);refine aC ?_;rw[o.fG,o.iP (by omega) (by omega)];simp only[Int.toNat_natCast];exact b2
theorem aeK(l:List Int)(n:Int):(o.fG l n).2=0∨o.fG l n=(0,8):=by
 unfold o.fG;split
 ·exact .inl rfl
 ·exact .inr rfl
theorem v8(b:Bool)(w:World):bw Tryz.prog F.p4 #[.bool b] w fun v w'=>v = .int .i64 (o.bit b)∧w'=w:=by
 refine bO E.p4 ?_;refine bH ?_;refine aC ?_;refine K.c3 (fun h=>?_) (fun h=>?_)
 all_goals
  subst h;refine aC ?_;exact⟨rfl,trivial⟩
theorem Jp(n:Int)(w:World):bw Tryz.prog F.vB #[.int .i64 n] w fun v w'=>v = .bool (o.within n)∧w'=w:=by
 refine bO E.vB ?_;refine bH ?_
 (repeat' (refine aC ?_;first | (refine K.cond (fun _=>?_) (fun _=>?_)<;>try (exfalso;omega)) | refine K.c3 (fun _=>?_) (fun _=>?_)))<;>try refine aC ?_
 all_goals
  refine⟨?_,bq⟩;congr 1
  first | (rw[Bool.eq_iff_iff];simp[o.within];omega) | (simp[o.within];omega)
theorem JP(a b n:Int)(w:World):bw Tryz.prog F.vA #[.int .i64 a,.int .i64 b,.int .i64 n] w
  fun v w'=>v = .tuple #[.int .i64 (if o.within a&&o.within b&&o.within n then n else 0),.bool (o.within a&&o.within b&&o.within n)]∧w'=w:=by
 refine bO E.vA ?_;refine bH ?_;refine aC ?_;refine K.call (Jp a w) ?_;rintro _ _ ⟨rfl,rfl⟩;refine aC ?_;cases h1:o.within a with
 | false =>
  refine aC ?_;exact⟨by simp,trivial⟩
 | true =>
  refine aC ?_;refine K.call (Jp b _) ?_;rintro _ _ ⟨rfl,rfl⟩;refine aC ?_;cases U:o.within b with
  | false =>
   refine aC ?_;exact⟨by simp,trivial⟩
  | true =>
   refine aC ?_;refine K.call (Jp n _) ?_;rintro _ _ ⟨rfl,rfl⟩;refine aC ?_;cases ai:o.within n with
   | false =>
    refine aC ?_;exact⟨by simp,trivial⟩
   | true =>
    refine aC ?_;exact⟨by simp,trivial⟩
theorem JQ(f:Int→Int→Int)(a b n:Int)(h:o.within a=true→o.within b=true→n=f a b) :
  (if (o.within a&&o.within b&&o.within n)=true then n else 0)=(o.tell f a b).1∧(o.within a&&o.within b&&o.within n)=(o.tell f a b).2:=by
 unfold o.tell;cases h1:o.within a with
 | false=>simp
 | true =>
  cases U:o.within b with
  | false=>simp
  | true =>
   rw[h h1 U];cases ai:o.within (f a b)<;>simp
theorem acA:qk F.AL (o.tell (· + ·)):=by
 intro a b w;refine bO E.AL ?_;refine bH ?_;refine aC ?_;refine K.Fe ?_;refine aC ?_;refine K.call (JP a b _ w) ?_;rintro _ _ ⟨rfl,rfl⟩;obtain⟨h1,U⟩:=JQ (· + ·) a b (IntKind.i64.wrap (a+b)) (fun h1 U=>by simp[o.within] at h1 U;exact IntWalk.i64_in _ (by omega));rw[h1,U];refine aC ?_;exact b2
theorem R1:qk F.xR (o.tell (· - ·)):=by
 intro a b w;refine bO E.xR ?_;refine bH ?_;refine aC ?_;refine K.Fe ?_;refine aC ?_;refine K.call (JP a b _ w) ?_;rintro _ _ ⟨rfl,rfl⟩;obtain⟨h1,U⟩:=JQ (· - ·) a b (IntKind.i64.wrap (a - b)) (fun h1 U=>by simp[o.within] at h1 U;exact IntWalk.i64_in _ (by omega));rw[h1,U];refine aC ?_;exact b2
theorem ac3:qk F.AM (o.tell (· * ·)):=by
 intro a b w;refine bO E.AM ?_;refine bH ?_;refine aC ?_;refine K.Fe ?_;refine aC ?_;refine K.call (JP a b _ w) ?_;rintro _ _ ⟨rfl,rfl⟩;obtain⟨h1,U⟩:=JQ (· * ·) a b (IntKind.i64.wrap (a*b)) (fun h1 U=>by simp[o.within] at h1 U;have:=Re h1 U;exact IntWalk.i64_in _ (by omega));rw[h1,U];refine aC ?_;exact b2
def oE(op a b:Int):Int×Int:=match o.fS op with | some aj=>o.sG aj [a,b] | none=>(0,0)
theorem acE(op a b:Int)(w:World)(ka:11≤op∧op≤19) :
  bw Tryz.prog F.AQ #[.int .i64 op,.int .i64 a,.int .i64 b] w fun v w'=>v = .tuple #[.int .i64 (oE op a b).1,.int .i64 (oE op a b).2]∧Ext w w':=by
 have num:∀f:Int→Int→Int×Bool,(if (f a b).2=true then ((f a b).1,(0:Int)) else (0,10))=(let r:=f a b;if r.2=true then (r.1,0) else (0,10)):=fun _=>rfl;have ay:op=11∨op=12∨op=13∨op=14∨op=15∨op=16∨op=17∨op=18∨op=19:=by omega
 refine bO E.AQ ?_;refine bH ?_;rcases ay with e | e | e | e | e | e | e | e | e
 ·have key:oE op a b=if (o.tell (· + ·) a b).2=true then ((o.tell (· + ·) a b).1,0) else (0,10):=by subst e;rfl
  rw[key];refine aC ?_;refine K.call (acA a b w) ?_;rintro _ ar ⟨rfl,aE⟩;refine aC ?_;refine K.c3 (fun h=>?_) (fun h=>?_)
  all_goals
   refine aC ?_;rw[h];exact b2
 ·have key:oE op a b=if (o.tell (· - ·) a b).2=true then ((o.tell (· - ·) a b).1,0) else (0,10):=by subst e;rfl
  rw[key];refine aC ?_;refine K.call (R1 a b w) ?_;rintro _ ar ⟨rfl,aE⟩;refine aC ?_;refine K.c3 (fun h=>?_) (fun h=>?_)
  all_goals
   refine aC ?_;rw[h];exact b2
 ·have key:oE op a b=if (o.tell (· * ·) a b).2=true then ((o.tell (· * ·) a b).1,0) else (0,10):=by subst e;rfl
  rw[key];refine aC ?_;refine K.call (ac3 a b w) ?_;rintro _ ar ⟨rfl,aE⟩;refine aC ?_;refine K.c3 (fun h=>?_) (fun h=>?_)
  all_goals
   refine aC ?_;rw[h];exact b2
 ·have key:oE op a b=(o.bit (decide (a=b)),0):=by subst e;rfl
  rw[key];refine aC ?_;refine K.call (v8 _ w) ?_;rintro _ _ ⟨rfl,rfl⟩;refine aC ?_;exact b2
 ·have key:oE op a b=(o.bit (!decide (a=b)),0):=by subst e;rfl
  rw[key];refine aC ?_;refine K.call (v8 _ w) ?_;rintro _ _ ⟨rfl,rfl⟩;refine aC ?_;exact b2
 ·have key:oE op a b=(o.bit (decide (a<b)),0):=by subst e;rfl
  rw[key];refine aC ?_;refine K.call (v8 _ w) ?_;rintro _ _ ⟨rfl,rfl⟩;refine aC ?_;exact b2
 ·have key:oE op a b=(o.bit (decide (a≤b)),0):=by subst e;rfl
  rw[key];refine aC ?_;refine K.call (v8 _ w) ?_;rintro _ _ ⟨rfl,rfl⟩;refine aC ?_;exact b2
 ·have key:oE op a b=(o.bit (!decide (a=0) && !decide (b=0)),0):=by subst e;rfl
  rw[key];refine aC ?_;refine K.cond (fun h1=>?_) (fun h1=>?_)
  all_goals
   refine aC ?_;refine K.call (v8 _ w) ?_;rintro _ _ ⟨rfl,rfl⟩;refine aC ?_;refine⟨?_,fc⟩;simp[h1]
 ·have key:oE op a b=(o.bit (!decide (a=0) || !decide (b=0)),0):=by subst e;rfl
  rw[key];refine aC ?_;refine K.cond (fun h1=>?_) (fun h1=>?_)
  all_goals
   refine aC ?_;refine K.call (v8 _ w) ?_;rintro _ _ ⟨rfl,rfl⟩;refine aC ?_;refine⟨?_,fc⟩;simp[h1]
end Go.Proofs.R
end
section
set_option linter.unusedSimpArgs false
namespace Go.Proofs.R
open Go Go.RowKit bn
theorem E9(l:List Int)(n:Int):(decide ((o.fG l n).2=0)=true→o.fG l n=((o.fG l n).1,0))∧(decide ((o.fG l n).2=0)=false→o.fG l n=(0,8)):=by
 rcases aeK l n with h | h
 ·exact⟨fun _=>Prod.ext rfl h,fun bB=>by simp[h] at bB⟩
 ·exact⟨fun bB=>by simp[h] at bB,fun _=>h⟩
theorem adl(x:o.Node)(cs:List Value)(v:o.Env)(w:World)(aD:x.ok)(h:o.na w cs v)(ai:x.op≠3)(t:Int) :
  bw Tryz.prog F.AV #[.agg x.enc.toArray,.agg cs.toArray] w fun u w'=>u = .tuple #[.int .i64 (o.fC x v t).1,.int .i64 (o.fC x v t).2]∧Ext w w':=by
 obtain⟨a0,bR,dF,c1,a2,c2,a3,bN,rfl,qc,dS,dP,dD,gT,et,dY,eg,dK⟩:=h.form;refine bO E.AV ?_;refine bH ?_;refine aC ?_;refine K.new fun ar bz cN aE al=>?_;refine aC ?_;refine K.new fun aW ch en aF aO=>?_;have he:=aE.trans aF;have da:aW.heap[bz]? = some (.cells #[.int .i64 x.op,.int .i64 x.n] T.f):=aF.obj al;clear al;refine aC ?_;apply K.cond<;>intro g1
 ·have hk:o.fC x v t=if o.within x.n then (x.n,0) else (0,10):=by rw[o.fC,if_pos g1]
  (repeat' (refine aC ?_;first | (refine K.cond (fun _=>?_) (fun _=>?_)<;>try (exfalso;omega)) | refine K.c3 (fun _=>?_) (fun _=>?_)))<;>try refine aC ?_
  all_goals
   refine⟨?_,fc⟩;rw[hk];unfold o.within;split<;>first | rfl | (rename_i cR;simp at cR;exfalso;omega)
 refine aC ?_;apply K.cond<;>intro g2
 ·by_cases zK:x.n<0∨(v.vars.length:Int)≤x.n
  ·have hk:o.fC x v t=(0,8):=by rw[o.fC,if_neg g1,if_pos g2,o.ga zK]
   rw[hk]
   (repeat' (refine aC ?_;first | (refine K.cond (fun _=>?_) (fun _=>?_)<;>try (exfalso;omega)) | refine K.c3 (fun _=>?_) (fun _=>?_)))<;>try refine aC ?_
   all_goals exact b2
  obtain⟨i,ad⟩:=Int.eq_ofNat_of_zero_le (show 0≤x.n by omega);have qK:i<v.vars.length:=by omega
  obtain⟨a,rfl⟩:=qc.addr (by omega);obtain⟨cB,jK,ou⟩:=qc.at i qK;have aM:o.nth v.vars x.n=some v.vars[i]:=by rw[ad,o.iP (by omega) (by omega)];simp only[Int.toNat_natCast]
  have hk:o.fC x v t=o.fG v.vars[i] 0:=by rw[o.fC,if_neg g1,if_pos g2,aM]
  rw[hk];rw[ad] at da;refine aC ?_;refine K.ld (he.cell jK) ?_;refine aC ?_;refine K.call (ED _ v.vars[i] 0 aW (ou.ext he)) ?_;rintro _ bh ⟨rfl,av⟩;obtain⟨mW,mX⟩:=E9 v.vars[i] 0;refine aC ?_;refine K.c3 (fun g=>?_) (fun g=>?_)
  ·refine aC ?_;rw[mW g];exact b2
  ·refine aC ?_;rw[mX g];exact b2
 refine aC ?_;apply K.cond<;>intro g4
 ·have hk:o.fC x v t=o.fG v.locals x.n:=by rw[o.fC,if_neg g1,if_neg g2,if_neg ai,if_pos g4]
  rw[hk];refine aC ?_;refine K.call (ED _ v.locals x.n aW (dP.ext he)) ?_;rintro _ bh ⟨rfl,av⟩;obtain⟨mW,mX⟩:=E9 v.locals x.n;refine aC ?_;refine K.c3 (fun g=>?_) (fun g=>?_)
  ·refine aC ?_;rw[mW g];exact b2
  ·refine aC ?_;rw[mX g];exact b2
 refine aC ?_;apply K.cond<;>intro g5
 ·have hk:o.fC x v t=(v.self,0):=by rw[o.fC,if_neg g1,if_neg g2,if_neg ai,if_neg g4,if_neg (by omega),if_pos g5]
  rw[hk];refine aC ?_;exact b2
 refine aC ?_;apply K.cond<;>intro g6
 ·have hk:o.fC x v t=o.fG v.lens x.n:=by rw[o.fC,if_neg g1,if_neg g2,if_neg ai,if_neg g4,if_pos g6]
  rw[hk];refine aC ?_;refine K.call (ED _ v.lens x.n aW (dS.ext he)) ?_;rintro _ bh ⟨rfl,av⟩;obtain⟨mW,mX⟩:=E9 v.lens x.n;refine aC ?_;refine K.c3 (fun g=>?_) (fun g=>?_)
  ·refine aC ?_;rw[mW g];exact b2
  ·refine aC ?_;rw[mX g];exact b2
 refine aC ?_;apply K.cond<;>intro g7;rotate_left
 ·have hk:o.fC x v t=(0,0):=by rw[o.fC,if_neg g1,if_neg g2,if_neg ai,if_neg g4,if_neg g6,if_neg g5,if_neg g7]
  rw[hk];refine aC ?_;exact b2
 have hk:o.fC x v t=if 0≤x.n then (match o.nth v.at_ (x.n.tdiv 16) with | some l=>o.fG l (x.n.tmod 16) | none=>(0,8)) else (0,8):=by
  rw[o.fC,if_neg g1,if_neg g2,if_neg ai,if_neg g4,if_neg g6,if_neg g5,if_pos g7];split
  ·cases o.nth v.at_ (x.n.tdiv 16)<;>rfl
  ·rfl
 refine aC ?_;apply K.cond<;>intro g8
 ·rw[hk,if_neg (by omega)];refine aC ?_;exact b2
 rw[if_pos (by omega)] at hk;obtain⟨i,ad⟩:=Int.eq_ofNat_of_zero_le (show 0≤x.n by omega);obtain⟨_,hZ⟩:=aD.n;rw[ad] at hZ;have aJ:x.n.tdiv 16=((i / 16:Nat):Int):=by rw[ad];rfl
 have YW:x.n.tmod 16=((i % 16:Nat):Int):=by rw[ad];rfl
 refine aC ?_;refine K.quo (by omega) ?_;rw[aJ];refine aC ?_;apply K.cond<;>intro g9
 ·rw[hk,o.ga (.inr (by omega))];refine aC ?_;exact b2
 have aP:i / 16<v.at_.length:=by omega
 obtain⟨a,rfl⟩:=dD.addr (by omega);obtain⟨cB,jK,ou⟩:=dD.at (i / 16) aP;rw[aJ,o.iP (by omega) (by omega)] at hk;simp only[Int.toNat_natCast] at hk;rw[hk];refine aC ?_;refine K.quo (by omega) ?_;rw[aJ];refine aC ?_;refine K.ld (he.cell jK) ?_;refine aC ?_;refine K.rem (by omega) ?_;refine aC ?_;refine K.fj _ (fun w' e=>ED _ v.at_[i / 16] _ w' (ou.ext (he.trans e))) ?_;obtain⟨mW,mX⟩:=E9 v.at_[i / 16] (x.n.tmod 16);refine aC ?_;intro bh av;refine aC ?_;refine K.c3 (fun g=>?_) (fun g=>?_)
 ·refine aC ?_;rw[mW g];exact b2
 ·refine aC ?_;rw[mX g];exact b2
def qb(x:o.Node)(k:Int)(v:o.Env):Int×Int:=match o.fS x.op with | some aj=>o.sG aj [k] | none=>o.fC x v k
theorem ac1(x:o.Node)(k:Int)(cs:List Value)(v:o.Env)(w:World)(h:o.na w cs v)(ka:x.op=3∨x.op=9∨x.op=10) :
  bw Tryz.prog F.AR #[.agg x.enc.toArray,.int .i64 k,.agg cs.toArray] w fun u w'=>u = .tuple #[.int .i64 (qb x k v).1,.int .i64 (qb x k v).2]∧Ext w w':=by
 obtain⟨a0,bR,dF,c1,a2,c2,a3,bN,rfl,qc,dS,dP,dD,gT,et,dY,eg,dK⟩:=h.form;refine bO E.AR ?_;refine bH ?_;refine aC ?_;refine K.new fun ar bz cN aE al=>?_;refine aC ?_;refine K.new fun aW ch en aF aO=>?_;have he:=aE.trans aF;have da:aW.heap[bz]? = some (.cells #[.int .i64 x.op,.int .i64 x.n] T.f):=aF.obj al;clear al;refine aC ?_;apply K.cond<;>intro g9
 ·have hk:qb x k v=(o.bit (decide (k=0)),0):=by rw[qb,g9];rfl
  rw[hk];refine aC ?_;refine K.call (v8 _ aW) ?_;rintro _ _ ⟨rfl,rfl⟩;refine aC ?_;exact b2
 refine aC ?_;apply K.cond<;>intro g10
 ·have hk:qb x k v=if (o.tell (· - ·) 0 k).2=true then ((o.tell (· - ·) 0 k).1,0) else (0,10):=by rw[qb,g10];rfl
  rw[hk];refine aC ?_;refine K.call (R1 0 k aW) ?_;rintro _ bh ⟨rfl,av⟩;refine aC ?_;refine K.c3 (fun g=>?_) (fun g=>?_)
  all_goals
   refine aC ?_;rw[g];exact b2
 have g3:x.op=3:=by omega
 have DL:qb x k v=o.fC x v k:=by rw[qb,show o.fS x.op=none from by rw[g3];rfl]
 have hk:qb x k v=(match o.nth v.vars x.n with | some l=>(match o.nth l (k - 1) with | some y=>(y,0) | none=>(0,10)) | none=>(0,8)):=by
  rw[DL,o.fC,if_neg (by omega),if_neg (by omega),if_pos g3];cases o.nth v.vars x.n with
  | none=>rfl
  | some l=>simp only;cases o.nth l (k - 1)<;>rfl
 clear DL;by_cases zK:x.n<0∨(v.vars.length:Int)≤x.n
 ·rw[o.ga zK] at hk;rw[hk]
  (repeat' (refine aC ?_;first | (refine K.cond (fun _=>?_) (fun _=>?_)<;>try (exfalso;omega)) | refine K.c3 (fun _=>?_) (fun _=>?_)))<;>try refine aC ?_
  all_goals exact b2
 obtain⟨i,ad⟩:=Int.eq_ofNat_of_zero_le (show 0≤x.n by omega);have qK:i<v.vars.length:=by omega
 obtain⟨a,rfl⟩:=qc.addr (by omega);obtain⟨cB,jK,ou⟩:=qc.at i qK;obtain⟨fw,ci,rfl,li⟩:=ou.form;rw[ad,o.iP (by omega) (by omega)] at hk;simp only[Int.toNat_natCast] at hk;rw[ad] at da;have lB:=ou.ext he;generalize v.vars[i]=l at *;by_cases afG:k<1∨(l.length:Int)<k
 ·rw[o.ga (by omega)] at hk;simp only at hk;rw[hk];by_cases afH:k<1
  ·refine aC ?_;exact b2
  ·refine aC ?_;refine K.ld (he.cell jK) ?_;refine aC ?_;exact b2
 obtain⟨j,aP⟩:=Int.eq_ofNat_of_zero_le (show 0≤k - 1 by omega);have YF:j<l.length:=by omega
 rw[o.iP (by omega) (by omega)] at hk;simp only[aP,Int.toNat_natCast] at hk;rw[hk];obtain⟨dr,rfl⟩:=ou.addr (by omega);refine aC ?_;refine K.ld (he.cell jK) ?_;refine aC ?_;refine K.ld (he.cell jK) ?_;refine aC ?_;refine K.du j (by omega) (by omega) ?_;refine aC ?_;exact b2
end Go.Proofs.R
end
section
set_option linter.unusedSimpArgs false
namespace Go.Proofs.R
open Go Go.RowKit bn
theorem Wq{v:o.Env}{x:o.Node}{st:List Int}(h:o.eI x.op=0):o.hC v x st=o.fC x v (st.getLastD 0):=by
 unfold o.hC;rw[(Et h).2.2.2]
theorem Wr{v:o.Env}{x:o.Node}{st:List Int}(h:o.eI x.op=1)(aN:1≤st.length):o.hC v x st=qb x st[st.length - 1] v:=by
 unfold o.hC qb;cases a1:o.fS x.op with
 | none=>simp only;rw[zJ st (by omega)]
 | some aj =>
  have:=(o.Bv a1).1
  simp only;rw[show aj.parts.toNat=1 from by omega,Gu aN]
theorem Ws{v:o.Env}{x:o.Node}{st:List Int}(h:o.eI x.op=2)(aN:2≤st.length):o.hC v x st=oE x.op st[st.length - 2] st[st.length - 1]:=by
 unfold o.hC oE;obtain⟨aj,a1,bg⟩:=Rq (show 9≤x.op∧x.op≤19 by have:=Eu h;omega);rw[a1];simp only;rw[show aj.parts.toNat=2 from by omega,NN aN]
theorem acP(fH:Value)(e:List o.Node)(cs:List Value)(v:o.Env)(w:World)(he:o.gG w fH e)(h:o.na w cs v) :
  bw Tryz.prog F.AP #[fH,.agg cs.toArray] w fun u w'=>u = .tuple #[.int .i64 (o.eval e v).1,.int .i64 (o.eval e v).2]∧Ext w w':=by
 obtain⟨v0,v1,v2,v3,rfl,_⟩:=h.ex;obtain⟨bf,cap,rfl,hlen⟩:=he.form;refine bO E.AP ?_;refine bH ?_;refine aC ?_;refine K.new fun ar cX pZ aE al=>?_;refine aC ?_;apply K.cond<;>intro g1
 ·refine aC ?_;rw[o.eval,o.jV,if_pos (by omega)];exact b2
 refine aC ?_;apply K.cond<;>intro g2
 ·refine aC ?_;rw[o.eval,o.jV,if_neg (by omega),if_pos (by omega)];exact b2
 refine aC ?_;refine K.xc 7 e.length (fun k S w' => ∃u st,S 6=u∧kB ar.heap.size w' u st∧o.eJ (o.hC v) (e.take k) []=(0,st)∧(0<k→1≤st.length)∧st.length≤12∧Ext ar w')
  (by simp -dsimp only[bU,bQ,Nat.reduceAdd,Nat.reduceEqDiff,reduceIte,reduceCtorEq,bZ]) ⟨.slice none 0 0,[],by simp -dsimp only[bU,bQ,Nat.reduceAdd,Nat.reduceEqDiff,reduceIte,reduceCtorEq,bZ],br.nil _ _ _ _ _,by simp[o.eJ],by simp,by simp,Ext.refl _⟩ ?_
 rintro k S aW cn hk b6 ⟨v6,st,bM,gA,gB,zN,oU,aF⟩;have ak:=cn 0 rfl;have ai:=cn 3 rfl;simp only[ca,Nat.reduceAdd,Nat.reduceEqDiff,reduceIte,ie,kJ] at ak ai;clear cn;obtain⟨tT,ry,rfl,cW,ha⟩:=gA.form;have ad:Ints aW _ st:=br.pf (enc:=encI) (sz:=1) (fun _=>rfl) gA;unfold maxLen at ha;refine c0 (And.intro ak (And.intro ai (And.intro bM b6))) ?_;apply K.cond<;>intro g3;rotate_left
 ·have bd:k=e.length:=by omega
  subst bd;rw[List.take_length] at gB;have h1:=zN (by omega);obtain⟨a,rfl⟩:=ad.addr h1;have gO:o.eval e v=if st.length > 1 then (0,5) else (st.headD 0,0):=by
   rw[o.eval,o.jV,if_neg (by omega),if_neg (by omega),gB,if_neg (by simp)]
  rw[gO];clear gO;refine c0 (And.intro ak (And.intro ai (And.intro bM b6))) ?_;apply K.cond<;>intro g4
  ·refine aC ?_;rw[if_pos (by omega)];exact b2
  ·refine c0 (And.intro ak (And.intro ai (And.intro bM b6))) ?_;refine K.du 0 rfl (by omega) ?_;refine aC ?_;rw[if_neg (by omega)]
   have:st.headD 0=st[0]:=by
    cases st with
    | nil=>simp at h1
    | cons z st=>rfl
   rw[this];exact b2
 have bd:k<e.length:=by omega
 obtain⟨a,rfl⟩:=he.addr (by omega);have xE:=(he.at k bd).ok;have iN:=fun ak=>o.Jm (f:=o.hC v) (e:=e) (by omega) bd gB ak;have qQ:=o.tY bd gB;have zL:=aE.trans aF;have jt:=aF.obj al;refine c0 (And.intro ak (And.intro ai (And.intro bM b6))) ?_;refine K.call (SG e[k].op aW) ?_;rintro _ _ ⟨rfl,rfl⟩;generalize aM:o.eI e[k].op=n at *;have qN : -1≤n∧n≤2:=by rw[←aM];unfold o.eI; (repeat' split)<;>omega
 refine c0 (And.intro ak (And.intro ai (And.intro bM b6))) ?_;apply K.cond<;>intro g4
 ·have aw:o.stepG (o.hC v) e[k] st=(3,st):=by unfold o.stepG;rw[aM,if_pos g4]
  rw[aw] at iN;refine aC ?_;rw[o.eval,iN (by simp)];exact b2
 refine c0 (And.intro ak (And.intro ai (And.intro bM b6))) ?_;apply K.cond<;>intro g5
 ·have aw:o.stepG (o.hC v) e[k] st=(4,st):=by unfold o.stepG;rw[aM,if_neg g4,if_pos g5]
  rw[aw] at iN;refine aC ?_;rw[o.eval,iN (by simp)];exact b2
 obtain⟨p,rfl⟩:=Int.eq_ofNat_of_zero_le (show 0≤n by omega);have ef:o.stepG (o.hC v) e[k] st=if (o.hC v e[k] st).2≠0 then ((o.hC v e[k] st).2,st) else if (st.take (st.length - p)++[(o.hC v e[k] st).1]).length > 12 then (12,st) else (0,st.take (st.length - p)++[(o.hC v e[k] st).1]):=by
  unfold o.stepG;rw[aM,if_neg g4,if_neg g5];simp only[Int.toNat_natCast]
 have ht:(st.take (st.length - p)++[(o.hC v e[k] st).1]).length=st.length - p+1:=by simp[List.length_take]
 rw[ht] at ef;have fin:p=0∨p=1∨p=2:=by omega
 rcases fin with vl | vl | vl
 ·have aI:=Wq (v:=v) (st:=st) (x:=e[k]) (by omega);obtain⟨fx,z2,z3,z4⟩:=Et (x:=e[k].op) (by omega);refine c0 (And.intro ak (And.intro ai (And.intro bM b6))) ?_;refine K.fO (c:=[_,_,_,_,_]) jt (Ext.refl _) rfl ?_;refine c0 (And.intro ak (And.intro ai (And.intro bM b6))) ?_;refine K.fj _ (fun w' e'=>adl e[k] _ v w' xE (h.ext (zL.trans e')) z3 (st.getLastD 0)) ?_;rw[←aI];refine c0 (And.intro ak (And.intro ai (And.intro bM b6))) ?_;intro bh av;refine c0 (And.intro ak (And.intro ai (And.intro bM b6))) ?_;apply K.cond<;>intro g6;rotate_left
  ·rw[if_pos g6] at ef;refine aC ?_;rw[o.eval,iN (by rw[ef];exact g6),ef];exact b2
  rw[if_neg (by simpa using g6)] at ef;have gm:=gA.ext av;refine c0 (And.intro ak (And.intro ai (And.intro bM b6))) ?_;refine K.j3 (cs:=[]) (by simp[List.range,List.range.loop,ep]) fun bj eu fo aH b0=>?_;have z12:=aF.size;have z23:=av.size;have yB:=aH.size;have l0:kB ar.heap.size bj (.slice (some ⟨eu,0,none⟩) 0 0) []:=br.empty (by omega) b0;have gz:=gm.ext aH;have ee:kB ar.heap.size bj (.slice _ (st.length - p) _) (st.take (st.length - p)):=br.head (enc:=encI) (sz:=1) (xs:=st) (fun _=>rfl) gz (st.length - p) (Nat.sub_le _ _);have cb:(st.take (st.length - p)).length=st.length - p:=by simp[List.length_take]
  refine c0 (And.intro ak (And.intro ai (And.intro bM b6))) ?_;refine K.q5 (st.length - p) (by simp -dsimp only[bU,bQ,Nat.reduceAdd,Nat.reduceEqDiff,reduceIte,reduceCtorEq,bZ,bM];first | rfl | (congr 1;omega)) (by omega) ?_;refine aC ?_;refine K.wJ (xs:=[]) (ys:=st.take (st.length - p)) l0 ee (fun _=>rfl) oT (by rw[cb];simp only[List.length_nil];omega) (by rw[cb];simp only[List.length_nil,maxLen];omega) (by omega) fun v5 bF lA hG=>?_;have lx:Ext bh bF:=aH.grown hG fun q aJ=>by simp[Value.ownBlock] at aJ;omega
  rw[List.nil_append] at lA;have z35:=lx.size;refine aC ?_;refine K.j3 (cs:=[(o.hC v e[k] st).1].flatMap encI) (by simp[List.range,List.range.loop,ep,lay,eS,ca,Value.cells,encI]) fun bV ia gi bo cW=>?_;have ue:=bo.size;have dH:=lA.ext bo;refine aC ?_;refine K.qs (xs:=st.take (st.length - p)) (ys:=[(o.hC v e[k] st).1]) dH (fun _=>rfl) (gM cW) rfl oT (by rw[cb];simp only[List.length_cons,List.length_nil];omega) (by rw[cb];simp only[List.length_cons,List.length_nil,maxLen];omega) (by omega) fun yr cc dk iM=>?_;have bY:Ext ar cc:=Ext.grown (((aF.trans av).trans lx).trans bo) iM fun q aJ=>(dH.lt q aJ).1;obtain⟨Bt,n1,rfl,_⟩:=dk.form;rw[ht] at dk ⊢;by_cases g7:12<st.length - p+1
  ·rw[if_pos (by omega)] at ef
   first
    | (exfalso;omega)
    | (refine aC ?_
       rw[o.eval,iN (by rw[ef];simp),ef];exact⟨bq,aE.trans bY⟩)
  rw[if_neg (by omega)] at ef;refine c0 b6 ?_;refine⟨bd,bq,_,_,rfl,dk,by rw[qQ,ef],fun _=>by rw[ht];omega,by rw[ht];omega,bY⟩
 ·have aI:=Wr (v:=v) (st:=st) (x:=e[k]) (by omega) (by omega);obtain⟨ll,rfl⟩:=ad.addr (by omega);refine c0 (And.intro ak (And.intro ai (And.intro bM b6))) ?_;refine K.du (st.length - 1) (by omega) (by omega) ?_;refine c0 (And.intro ak (And.intro ai (And.intro bM b6))) ?_;refine K.fO (c:=[_,_,_,_,_]) jt (Ext.refl _) rfl ?_;refine c0 (And.intro ak (And.intro ai (And.intro bM b6))) ?_;refine K.fj _ (fun w' e'=>ac1 e[k] _ _ v w' (h.ext (zL.trans e')) (Rk (by omega))) ?_;rw[←aI];refine c0 (And.intro ak (And.intro ai (And.intro bM b6))) ?_;intro bh av;refine c0 (And.intro ak (And.intro ai (And.intro bM b6))) ?_;apply K.cond<;>intro g6;rotate_left
  ·rw[if_pos g6] at ef;refine aC ?_;rw[o.eval,iN (by rw[ef];exact g6),ef];exact b2
  rw[if_neg (by simpa using g6)] at ef;have gm:=gA.ext av;refine c0 (And.intro ak (And.intro ai (And.intro bM b6))) ?_;refine K.j3 (cs:=[]) (by simp[List.range,List.range.loop,ep]) fun bj eu fo aH b0=>?_;have z12:=aF.size;have z23:=av.size;have yB:=aH.size;have l0:kB ar.heap.size bj (.slice (some ⟨eu,0,none⟩) 0 0) []:=br.empty (by omega) b0;have gz:=gm.ext aH;have ee:kB ar.heap.size bj (.slice _ (st.length - p) _) (st.take (st.length - p)):=br.head (enc:=encI) (sz:=1) (xs:=st) (fun _=>rfl) gz (st.length - p) (Nat.sub_le _ _);have cb:(st.take (st.length - p)).length=st.length - p:=by simp[List.length_take]
  refine c0 (And.intro ak (And.intro ai (And.intro bM b6))) ?_;refine K.q5 (st.length - p) (by simp -dsimp only[bU,bQ,Nat.reduceAdd,Nat.reduceEqDiff,reduceIte,reduceCtorEq,bZ,bM];first | rfl | (congr 1;omega)) (by omega) ?_;refine aC ?_;refine K.wJ (xs:=[]) (ys:=st.take (st.length - p)) l0 ee (fun _=>rfl) oT (by rw[cb];simp only[List.length_nil];omega) (by rw[cb];simp only[List.length_nil,maxLen];omega) (by omega) fun v5 bF lA hG=>?_;have lx:Ext bh bF:=aH.grown hG fun q aJ=>by simp[Value.ownBlock] at aJ;omega
  rw[List.nil_append] at lA;have z35:=lx.size;refine aC ?_;refine K.j3 (cs:=[(o.hC v e[k] st).1].flatMap encI) (by simp[List.range,List.range.loop,ep,lay,eS,ca,Value.cells,encI]) fun bV ia gi bo cW=>?_;have ue:=bo.size;have dH:=lA.ext bo;refine aC ?_;refine K.qs (xs:=st.take (st.length - p)) (ys:=[(o.hC v e[k] st).1]) dH (fun _=>rfl) (gM cW) rfl oT (by rw[cb];simp only[List.length_cons,List.length_nil];omega) (by rw[cb];simp only[List.length_cons,List.length_nil,maxLen];omega) (by omega) fun yr cc dk iM=>?_;have bY:Ext ar cc:=Ext.grown (((aF.trans av).trans lx).trans bo) iM fun q aJ=>(dH.lt q aJ).1;obtain⟨Bt,n1,rfl,_⟩:=dk.form;rw[ht] at dk ⊢;by_cases g7:12<st.length - p+1
  ·rw[if_pos (by omega)] at ef
   first
    | (exfalso;omega)
    | (refine aC ?_
       rw[o.eval,iN (by rw[ef];simp),ef];exact⟨bq,aE.trans bY⟩)
  rw[if_neg (by omega)] at ef;refine c0 b6 ?_;refine⟨bd,bq,_,_,rfl,dk,by rw[qQ,ef],fun _=>by rw[ht];omega,by rw[ht];omega,bY⟩
 ·have aI:=Ws (v:=v) (st:=st) (x:=e[k]) (by omega) (by omega);obtain⟨ll,rfl⟩:=ad.addr (by omega);refine c0 (And.intro ak (And.intro ai (And.intro bM b6))) ?_;refine K.du (st.length - 2) (by omega) (by omega) ?_;refine c0 (And.intro ak (And.intro ai (And.intro bM b6))) ?_;refine K.du (st.length - 1) (by omega) (by omega) ?_;refine c0 (And.intro ak (And.intro ai (And.intro bM b6))) ?_;refine K.fj _ (fun w' e'=>acE e[k].op _ _ w' (Eu (by omega))) ?_;rw[←aI];refine c0 (And.intro ak (And.intro ai (And.intro bM b6))) ?_;intro bh av;refine c0 (And.intro ak (And.intro ai (And.intro bM b6))) ?_;apply K.cond<;>intro g6;rotate_left
  ·rw[if_pos g6] at ef;refine aC ?_;rw[o.eval,iN (by rw[ef];exact g6),ef];exact b2
  rw[if_neg (by simpa using g6)] at ef;have gm:=gA.ext av;refine c0 (And.intro ak (And.intro ai (And.intro bM b6))) ?_;refine K.j3 (cs:=[]) (by simp[List.range,List.range.loop,ep]) fun bj eu fo aH b0=>?_;have z12:=aF.size;have z23:=av.size;have yB:=aH.size;have l0:kB ar.heap.size bj (.slice (some ⟨eu,0,none⟩) 0 0) []:=br.empty (by omega) b0;have gz:=gm.ext aH;have ee:kB ar.heap.size bj (.slice _ (st.length - p) _) (st.take (st.length - p)):=br.head (enc:=encI) (sz:=1) (xs:=st) (fun _=>rfl) gz (st.length - p) (Nat.sub_le _ _);have cb:(st.take (st.length - p)).length=st.length - p:=by simp[List.length_take]
  refine c0 (And.intro ak (And.intro ai (And.intro bM b6))) ?_;refine K.q5 (st.length - p) (by simp -dsimp only[bU,bQ,Nat.reduceAdd,Nat.reduceEqDiff,reduceIte,reduceCtorEq,bZ,bM];first | rfl | (congr 1;omega)) (by omega) ?_;refine aC ?_;refine K.wJ (xs:=[]) (ys:=st.take (st.length - p)) l0 ee (fun _=>rfl) oT (by rw[cb];simp only[List.length_nil];omega) (by rw[cb];simp only[List.length_nil,maxLen];omega) (by omega) fun v5 bF lA hG=>?_;have lx:Ext bh bF:=aH.grown hG fun q aJ=>by simp[Value.ownBlock] at aJ;omega
  rw[List.nil_append] at lA;have z35:=lx.size;refine aC ?_;refine K.j3 (cs:=[(o.hC v e[k] st).1].flatMap encI) (by simp[List.range,List.range.loop,ep,lay,eS,ca,Value.cells,encI]) fun bV ia gi bo cW=>?_;have ue:=bo.size;have dH:=lA.ext bo;refine aC ?_;refine K.qs (xs:=st.take (st.length - p)) (ys:=[(o.hC v e[k] st).1]) dH (fun _=>rfl) (gM cW) rfl oT (by rw[cb];simp only[List.length_cons,List.length_nil];omega) (by rw[cb];simp only[List.length_cons,List.length_nil,maxLen];omega) (by omega) fun yr cc dk iM=>?_;have bY:Ext ar cc:=Ext.grown (((aF.trans av).trans lx).trans bo) iM fun q aJ=>(dH.lt q aJ).1;obtain⟨Bt,n1,rfl,_⟩:=dk.form;rw[ht] at dk ⊢;by_cases g7:12<st.length - p+1
  ·rw[if_pos (by omega)] at ef
   first
    | (exfalso;omega)
    | (refine aC ?_
       rw[o.eval,iN (by rw[ef];simp),ef];exact⟨bq,aE.trans bY⟩)
  rw[if_neg (by omega)] at ef;refine c0 b6 ?_;refine⟨bd,bq,_,_,rfl,dk,by rw[qQ,ef],fun _=>by rw[ht];omega,by rw[ht];omega,bY⟩
end Go.Proofs.R
end
section
namespace o
open Go
theorem WI{m:Model}(bP:gF m){s:List Int}(aI:Fits m s):∀x∈s,-9223372036854775808≤x∧x≤9223372036854775807:=fun x aD=>by
 obtain⟨i,ad,rfl⟩:=List.mem_iff_getElem.1 aD;have bB:i<(b4 m).length:=by have:=aI.len;unfold eA at this;omega
 have h1:=aI.cell i ad bB;have U:=UQ bP _ (List.getElem_mem bB);obtain⟨bz,ch,cE⟩:=U;omega
structure KU(v:Env):Prop where
 vars:∀l∈v.vars,∀x∈l,df x
 lens:∀x∈v.lens,df x
 locals:∀x∈v.locals,df x
 at_:∀l∈v.at_,∀x∈l,df x
 self:df v.self
end o
namespace Go.Proofs.R
open Go Go.RowKit bn
theorem It{w:World}{v:Value}{l:List Int}(h:gu w v l)(fz:∀x∈l,o.df x):lO w v l:=by
 obtain⟨bf,cap,e,h1,U,ai,aL⟩:=h.ex;exact⟨bf,cap,e,h1,U,ai,fun a bD i ad=>⟨aL a bD i ad,fz _ (List.getElem_mem ad)⟩⟩
theorem RZ{w:World}{v:Value}{l:List (List Int)}(h:oM w v l)(fz:∀r∈l,∀x∈r,o.df x):qn w v l:=by
 obtain⟨bf,cap,e,h1,U,ai,aL⟩:=h.ex;refine⟨bf,cap,e,h1,U,ai,fun a bD i ad=>?_⟩;obtain⟨u,hu,aM⟩:=aL a bD i ad;exact⟨u,hu,It aM (fz _ (List.getElem_mem ad))⟩
theorem N3{w:World}{cs:List Value}{x:o.Env}(h:re w cs x)(a1:o.KU x):o.na w cs x:=by
 obtain⟨v0,v1,v2,v3,rfl,ak,h1,U,ai⟩:=h.ex;exact⟨v0,v1,v2,v3,rfl,RZ ak a1.vars,It h1 a1.lens,It U a1.locals,RZ ai a1.at_,a1.self⟩
end Go.Proofs.R
end
section
namespace bn
open Go Go.RowKit
def Tn(_:World)(cs:List Value)(x:Nat):Prop:=cs=qz x
instance agS:Rel (Flat qz) Tn 1 where
 out h:=⟨_,h,rfl⟩
 nw h k:=by cases k;exact h
 len h:=by cases h;rfl
 one h:=by cases h;exact VR _
 ext _ h:=h
end bn
end
section
namespace bn
open Go Go.RowKit
section
variable{P:Program}{ax:Value→Prop}{ty:TypeId}{cz cD:Operand}
theorem K.Jw{n:Nat}{k:IntKind}{t}(aM:n<64)(hk:ax (.int .u64 ((2 ^ n:Nat):Int))):eW P .shl ty cz cD (.int .u64 1) (.int k (n:Int)) ax t:=by
 refine K.bin (v:=.int .u64 ((2 ^ n:Nat):Int)) (fun w=>?_) hk;have U:(2:Nat) ^ n<2 ^ 64:=Nat.pow_lt_pow_right (by decide) aM;have ai:IntKind.u64.wrap ((2:Int) ^ n)=((2 ^ n:Nat):Int):=by
  rw[show(2:Int) ^ n=((2 ^ n:Nat):Int) from by simp];generalize (2:Nat) ^ n=y at U;exact IntWalk.u64_in _ (by omega)
 have aL:¬(n:Int)<0:=by omega
 have bt:min n 64=n:=by omega
 simp[eqGuard,binOp,Op.shift,IntKind.bits,aL,bt,ai]
theorem K.Rr{x y:Nat}{t}(aD:x<18446744073709551616)(cS:y<18446744073709551616)(hk:ax (.int .u64 ((x ||| y:Nat):Int))):eW P .or ty cz cD (.int .u64 (x:Int)) (.int .u64 (y:Int)) ax t:=by
 refine K.bin (v:=.int .u64 ((x ||| y:Nat):Int)) (fun w=>?_) hk;have h:=bits_or_u64_nat x y aD cS;rw[←h];simp[eqGuard,binOp,Op.intBits,bits]
theorem K.T0{x y:Nat}{t}(aD:x<18446744073709551616)(cS:y<18446744073709551616)(hk:ax (.int .u64 ((x &&& y:Nat):Int))):eW P .and ty cz cD (.int .u64 (x:Int)) (.int .u64 (y:Int)) ax t:=by
 refine K.bin (v:=.int .u64 ((x &&& y:Nat):Int)) (fun w=>?_) hk;have h:=bits_and_u64_nat x y aD cS;rw[←h];simp[eqGuard,binOp,Op.intBits,bits]
theorem K.adF{x n:Nat}{k:IntKind}{t}(aM:n<64)(hk:ax (.int .u64 ((x / 2 ^ n:Nat):Int))):eW P .shr ty cz cD (.int .u64 (x:Int)) (.int k (n:Int)) ax t:=by
 refine K.bin (v:=.int .u64 ((x / 2 ^ n:Nat):Int)) (fun w=>?_) hk;have ai:Int.fdiv (x:Int) ((2:Int) ^ n)=((x / 2 ^ n:Nat):Int):=by
  rw[show(2:Int) ^ n=((2 ^ n:Nat):Int) from by simp,Int.fdiv_eq_ediv_of_nonneg _ (Int.natCast_nonneg _),←Int.natCast_ediv]
 have aL:¬(n:Int)<0:=by omega
 have bt:min n 64=n:=by omega
 simp[eqGuard,binOp,Op.shift,IntKind.bits,aL,bt,ai]
end
end bn
namespace o
open Go
theorem SJ{m:Model}{s:List Int}{k:Nat}(h:k≤8):kk m s k<256:=Nat.lt_of_lt_of_le (JO m s k) (by
 have:=Nat.pow_le_pow_right (n:=2) (by decide) h
 exact this)
theorem Rx{k:Nat}(h:k<8):2 ^ k<256:=by
 have:=Nat.pow_lt_pow_right (a:=2) (by decide) h
 exact this
theorem SL{m:Model}{s:List Int}{k:Nat}(h:k<m.props.length)(aG:(eval m.props[k].expr (db m s (-1))).2=0∧(eval m.props[k].expr (db m s (-1))).1≠0):kk m s (k+1)=kk m s k ||| 2 ^ k:=by
 rw[SK h,if_pos];unfold sB;exact decide_eq_true aG
theorem E1{m:Model}{s:List Int}{k:Nat}(h:k<m.props.length)(aG:¬((eval m.props[k].expr (db m s (-1))).2=0∧(eval m.props[k].expr (db m s (-1))).1≠0)):kk m s (k+1)=kk m s k:=by
 rw[SK h,if_neg];unfold sB;simpa using aG
theorem abi{α:Type}(l:List α):nth l (-1)=none:=by unfold nth;rw[if_neg (by omega)]
theorem N4{m:Model}(bP:gF m){s:List Int}(aI:Fits m s):KU (db m s (-1)):=by
 have fz:=WI bP aI;have hp:=Ir bP;have e:sy m s (-1)=([],0):=by unfold sy;rw[abi]
 refine⟨fun l aN x aD=>?_,fun x aD=>?_,fun x aD=>?_,fun l aN x aD=>?_,?_⟩
 ·simp only[db,List.mem_map] at aN;obtain⟨k,_,rfl⟩:=aN;exact fz x (List.mem_of_mem_drop (List.mem_of_mem_take aD))
 ·simp only[db,List.mem_map] at aD;obtain⟨k,_,rfl⟩:=aD;rw[List.getElem!_eq_getElem?_getD];cases hk:s[gx m k]? with
  | none=>simp[df]
  | some y=>exact fz y (List.mem_of_getElem? hk)
 ·simp only[db,e] at aD;cases aD
 ·simp only[db,List.mem_map] at aN;obtain⟨k,_,rfl⟩:=aN;unfold ho at aD;obtain⟨d,_,rfl⟩:=List.mem_map.1 aD
  have:=FX m s k d (insts m).length
  unfold df;omega
 ·simp only[db,e];unfold df;omega
end o
namespace Go.Proofs.R
open Go Go.RowKit bn
theorem sb(cs:List Value)(m:o.Model)(v:Value)(s:List Int)(w:World)(h:o.eh w cs m)(aX:m.cM)(a1:gf w)(aw:gu w v s) :
  bw Tryz.prog F.c #[.agg cs.toArray,v] w fun u w'=>u = .tuple #[.int .u64 ((o.fE m s).1:Nat),.int .i64 (o.fE m s).2]∧Ext w w':=by
 have gg:=h;obtain⟨cG,bR,cu,c1,cA,c2,cw,bN,cP,bX,rfl,ak,h1,U,ai,aL,et,dY,eg,dK,ed⟩:=h.form;refine bO E.c ?_;refine bH ?_;refine ao ?_;intro ar ch en aE aO;refine ao ?_;refine K.call (El _ m ar (gg.ext aE) aX (a1.ext aE)) ?_;rintro _ aW ⟨rfl,aF⟩;replace aO:=aF.obj aO;have aZ:=aE.trans aF;refine ao ?_;refine K.kI (v:=.int .i64 (o.check m).cY) rfl ?_;refine ao ?_;apply K.cond<;>intro g1;rotate_left
 ·refine ao ?_;exact⟨by rw[o.AJ g1]<;>rfl,aZ⟩
 refine ao ?_;refine K.call (ad2 _ m v s aW (gg.ext aZ) aX (a1.ext aZ) (aw.ext Flat.ext aZ)) ?_;rintro _ bh ⟨⟨t,rfl,aG⟩,av⟩;replace aO:=av.obj aO;have bJ:=aZ.trans av;cases t with
 | false =>
  have HN:¬o.Fits m s:=fun aI=>by have:=aG.2 ⟨g1,aI⟩;cases this
  refine ao ?_;exact⟨by rw[o.tK g1 HN]<;>rfl,bJ⟩
 | true =>
  have jr:=aG.1 rfl;refine ao ?_;refine K.call (V0 _ v m s (-1) bh (gg.ext bJ) aX (a1.ext bJ) (aw.ext Flat.ext bJ)) ?_;rintro _ bj ⟨⟨es,rfl,gO⟩,aH⟩;have Xn:o.oa m s (-1)=o.db m s (-1):=by unfold o.oa;rw[if_pos ⟨jr,by omega,by omega⟩]
  rw[Xn] at gO;have l0:=gO.here;have GW:=N3 l0 (o.N4 (o.o6 jr.1) jr.2);obtain⟨JT,SY,B4,aev,rfl,fN,da,cZ,fr⟩:=l0.ex;obtain⟨_,_,rfl,_⟩:=fN.form;obtain⟨_,_,rfl,_⟩:=da.form;obtain⟨_,_,rfl,_⟩:=cZ.form;obtain⟨_,_,rfl,_⟩:=fr.form;clear fN da cZ fr;have b5:=bJ.trans aH;replace aO:=aH.obj aO;have oV:=o.o6 jr.1;have pV:=o.BA jr.1;refine ao ?_;intro bF ia gi a8 cW;have cf:=b5.trans a8;replace aO:=a8.obj aO;have od:=GW.ext a8;refine ao ?_;refine K.cV 26 m.props.length [2,6,24,25] (fun u:Nat=>[(7,.int .u64 (u:Nat))]) 0 (fun k u W=>u=o.kk m s k∧Ext bF W) bp bp ⟨rfl,Ext.refl _⟩ ?_;rintro k u S bV hk ⟨rfl,bo⟩;have OW:=bo.obj cW;refine ao ?_;apply K.cond<;>intro g2
  ·have cp:k<m.props.length:=by omega
   obtain⟨a4,rfl⟩:=aL.addr (by omega);obtain⟨lC,fH,dR,fi⟩:=aL.at k cp;obtain⟨x7,ce,rfl,_⟩:=fi.form;unfold o.h7.enc at dR;have HR:=dR.ext (cf.trans bo);refine ao ?_;intro wn iY kv hX hs;refine ao ?_;intro cc ec eY;have bY:Ext bV cc:=ec.ext hX kv;replace OW:=bY.obj OW;have eM:=(cf.trans bo).trans bY;refine ao ?_;refine K.call (V8 _ m.props[k].expr _ (o.db m s (-1)) cc (fi.ext eM) (od.ext (bo.trans bY))) ?_;rintro _ dq ⟨rfl,cj⟩;refine ao ?_;apply K.cond<;>intro g3
   ·refine ao ?_;apply K.cond<;>intro g4
    ·refine ao ?_;refine⟨cp,bq,_,⟨rfl,trivial⟩,(o.E1 cp (fun cR=>cR.2 g4)).symm,(bo.trans bY).trans cj⟩
    ·refine ao ?_;refine K.Jw (by omega) ?_;refine ao ?_;refine K.Rr (by have:=o.SJ (m:=m) (s:=s) (k:=k) (by omega);omega) (by have:=o.Rx (k:=k) (by omega);omega) ?_;refine ao ?_;refine⟨cp,bq,_,⟨rfl,trivial⟩,(o.SL cp ⟨g3,g4⟩).symm,(bo.trans bY).trans cj⟩
   ·refine ao ?_;refine⟨cp,bq,_,⟨rfl,trivial⟩,(o.E1 cp (fun cR=>g3 cR.1)).symm,(bo.trans bY).trans cj⟩
  ·have jM:k=m.props.length:=by omega
   refine ao ?_;exact⟨by rw[o.sa jr.1 jr.2,jM,o.JN]<;>rfl,cf.trans bo⟩
end Go.Proofs.R
end
section
namespace bn
open Go Go.RowKit
def pO(n:Nat):List Value:=[.int .u64 (n:Int)]
theorem VU(n:Nat):∀u∈pO n,u.oneCell'=true:=by simp[pO,Value.oneCell']
end bn
namespace Go.Proofs.R
open Go Go.RowKit bn
theorem Ta(cs:List Value)(m:o.Model)(v:Value)(bT:List (List Int))(w:World)(h:o.eh w cs m)(aX:m.cM)(a1:gf w)(aw:oM w v bT)(aN:bT.length≤1000) :
  bw Tryz.prog F.hA #[.agg cs.toArray,v] w fun u w'=>br pO T.l 1 w.heap.size w' u (bT.map fun s=>(o.fE m s).1)∧Ext w w':=by
 have gg:=h;obtain⟨cG,bR,cu,c1,cA,c2,cw,bN,cP,bX,rfl,_⟩:=h.form;obtain⟨e4,gN,rfl,fA⟩:=aw.form;refine bO E.hA ?_;refine bH ?_;refine ao ?_;intro ar ch en aE aO;refine ao ?_;refine K.cV 12 bT.length [1,2,10,11] (fun u:Value=>[(5,u)]) (.slice none 0 0) (fun k u W=>br pO T.l 1 ar.heap.size W u ((bT.take k).map fun s=>(o.fE m s).1)∧Ext ar W) bp bp ⟨br.nil _ _ _ _ _,Ext.refl _⟩ ?_;rintro k u S aW hk ⟨hu,aF⟩;have qF:=aF.obj aO;have aZ:=aE.trans aF;refine ao ?_;apply K.cond<;>intro g1
 ·have cp:k<bT.length:=by omega
  obtain⟨a,rfl⟩:=aw.addr (by omega);obtain⟨us,xA,qO⟩:=aw.at k cp;have Zy:=aZ.cell xA;obtain⟨Rp,co,rfl,_⟩:=qO.form;obtain⟨qZ,kt,rfl,D1,_⟩:=hu.form;refine ao ?_;refine K.ld Zy ?_;refine ao ?_;refine K.call (sb _ m _ bT[k] aW (gg.ext aZ) aX (a1.ext aZ) (qO.ext Flat.ext aZ)) ?_;rintro _ bh ⟨rfl,av⟩;have PU:=hu.ext av;replace qF:=av.obj qF;have eG:=aF.trans av;have hlen:(List.map (fun s=>(o.fE m s).1) (bT.take k)).length=k:=by simp;omega
  refine ao ?_;intro bj afq afU aH XL;refine ao ?_;refine K.kq (y:=(o.fE m bT[k]).1) (PU.ext aH) XL rfl (fun _=>rfl) VU (by omega) (by unfold maxLen;omega) (by have:=aH.size;have:=eG.size;omega) fun bf n c bF ee hG=>?_;have a8:=br.jo (PU.ext aH) (eG.trans aH) hG (Nat.le_refl _);refine ao ?_;refine⟨cp,bq,_,⟨rfl,trivial⟩,?_,a8⟩;rw[List.take_succ_eq_append_getElem cp,List.map_append];exact ee
 ·have jM:k=bT.length:=by omega
  rw[jM,List.take_length] at hu;refine ao ?_;exact⟨br.low aE.size hu,aZ⟩
end Go.Proofs.R
end