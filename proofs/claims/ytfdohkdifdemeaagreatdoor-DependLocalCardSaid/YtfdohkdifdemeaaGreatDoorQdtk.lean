/- Texts joined: ProcI ProcJ ProcK RefP ExprT ExprG ExprH ExprI ExprJ RefA RefB RefC. -/
import Derived.Test.YtfdohkdifdemeaaGreatDoorQdtc
import Derived.Test.YtfdohkdifdemeaaGreatDoorQdtd
import Derived.Test.YtfdohkdifdemeaaGreatDoorQdtg
import Derived.Test.YtfdohkdifdemeaaGreatDoorQdth
import Derived.Test.YtfdohkdifdemeaaGreatDoorQdti
import Derived.Test.YtfdohkdifdemeaaGreatDoorQdtj
set_option linter.all false
set_option maxRecDepth 8000
set_option maxHeartbeats 16000000
section
namespace o
theorem Vr{s:Scope}{l:List Var}{k:Nat}(h:k<l.length):oQ s (l.drop k) k=if l[k].over≠0 then ((k:Int),9) else if s.vars.any (fun x=>decide (x.name=l[k].name)) then ((k:Int),7) else oQ s (l.drop (k+1)) (k+1):=by
 rw[List.drop_eq_getElem_cons h];rfl
theorem Rk{own:Scope}{cW:Int}{all l:List dL}{k:Nat}(h:k<l.length):kC own cW all (l.drop k) k=if (iJ l[k] cW own).2≠0 then (2+(k:Int),(iJ l[k] cW own).1,(iJ l[k] cW own).2)
  else if (all.take k).any (fun x=>decide (x.name=l[k].name)) then (2+(k:Int),0,7) else kC own cW all (l.drop (k+1)) (k+1):=by
 rw[List.drop_eq_getElem_cons h];rfl
end o
namespace Go.Proofs.R
open Go Go.RowKit bt
theorem ajU(p:o.dt)(cr cC:Option Addr)(mQ bJ bW:Nat)(cs:List Value)(s:o.Scope)(w:World)(aZ:gH w)(aH:o.hE p.name)(h:o.fm w cs s) :
  bw Tryz.prog F.BX #[.agg (p.enc (.slice cr mQ bJ) (.slice cC p.cE.length bW)).toArray,.agg cs.toArray] w fun v w'=>v = .int .i64 (o.whole p s)∧Ext w w':=by
 obtain⟨a0,bV,dG,c1,a2,c2,a3,d3,a4,d4,rfl,ao,h1,U,ah,aJ,eH,dB,dH,ee,ei⟩:=h.form;refine bP E.BX ?_;refine bM ?_;refine aa ?_;intro aq bE c8 aC ar;refine aa ?_;intro aU cp dT aA aK;have c0:∀{w'},Ext aU w'→Ext w w':=fun e=>(aC.trans aA).trans e;have ar:=aA.obj ar;refine aa ?_;refine K.call (HD p.name aU (aZ.ext (c0 (Ext.refl _))) aH) ?_;rintro _ aY ⟨rfl,ax⟩;have ar:=ax.obj ar;have aK:=ax.obj aK;rw[o.whole];refine aa ?_;refine K.dO (fun g1=>?_) (fun g1=>?_);rotate_left
 ·refine aa ?_;exact⟨by rw[if_pos g1],c0 ax⟩
 rw[if_neg (by simp[g1])];refine aa ?_;apply K.cond<;>intro g2
 ·refine aa ?_;exact⟨by rw[if_pos (.inl g2)],c0 ax⟩
 refine aa ?_;apply K.cond<;>intro g3
 ·refine aa ?_;exact⟨by rw[if_pos (.inr (by omega))],c0 ax⟩
 rw[if_neg (by omega)];refine aa ?_;apply K.cond<;>intro g4
 ·refine aa ?_;exact⟨by rw[if_pos (.inl g4)],c0 ax⟩
 refine aa ?_;apply K.cond<;>intro g5
 ·refine aa ?_;exact⟨by rw[if_pos (.inr (by omega))],c0 ax⟩
 rw[if_neg (by omega)];refine aa ?_;apply K.cond<;>intro g6
 ·refine aa ?_;exact⟨by rw[if_pos (by omega)],c0 ax⟩
 refine aa ?_;exact⟨by rw[if_neg (by omega)],c0 ax⟩
theorem afP(x v:o.Var)(b:Nat)(w:World)(aw:w.heap[b]? = some (.cells v.enc.toArray T.i)) :
  bw Tryz.prog F.dY #[.agg x.enc.toArray,.pointer (some ⟨b,0,none⟩)] w fun u w'=>u = .bool (decide (x.name=v.name))∧Ext w w':=by
 refine bP E.dY ?_;refine bM ?_;refine aa ?_;intro aq bE c8 aC ar;refine aa ?_;exact dv
theorem ZV(x c:o.dL)(cj cq cr cC:Option Addr)(ka jw mQ rv c1 c2 bJ bW:Nat)(b:Nat)(w:World)(aw:w.heap[b]? = some (.cells (c.enc (.slice cr mQ bJ) (.slice cC rv bW)).toArray T.j)) :
  bw Tryz.prog F.bE #[.agg (x.enc (.slice cj ka c1) (.slice cq jw c2)).toArray,.pointer (some ⟨b,0,none⟩)] w fun u w'=>u = .bool (decide (x.name=c.name))∧Ext w w':=by
 refine bP E.bE ?_;refine bM ?_;refine aa ?_;intro aq bE c8 aC ar;refine aa ?_;exact dv
theorem afQ(p:o.dt)(cr cC:Option Addr)(bJ rv bW:Nat)(cs:List Value)(s:o.Scope)(w:World)(aZ:gH w)(aO:o.hh w (.slice cr p.vars.length bJ) p.vars)(h:o.fm w cs s) :
  bw Tryz.prog F.BY #[.agg (p.enc (.slice cr p.vars.length bJ) (.slice cC rv bW)).toArray,.agg cs.toArray] w fun v w'=>v = .tuple #[.int .i64 (o.kt p s).1,.int .i64 (o.kt p s).2]∧Ext w w':=by
 obtain⟨a0,bV,dG,c1,a2,c2,a3,d3,a4,d4,rfl,ao,h1,U,ah,aJ,eH,dB,dH,ee,ei⟩:=h.form;have iA:p.vars.length≤9223372036854775807:=by have:=(bG.len aO).2;unfold maxLen at this;omega
 refine bP E.BY ?_;refine bM ?_;refine aa ?_;intro aq bE c8 aC ar;refine aa ?_;intro aU cp dT aA aK;have c0:∀{w'},Ext aU w'→Ext w w':=fun e=>(aC.trans aA).trans e;have ar:=aA.obj ar;refine aa ?_;refine K.call (Xy _ _ p.vars s.scalars 4 aU (aZ.ext (c0 (Ext.refl _))) (aO.ext (c0 (Ext.refl _))) (ao.ext (c0 (Ext.refl _)))) ?_;rintro _ aY ⟨rfl,ax⟩;have ar:=ax.obj ar;have aK:=ax.obj aK;rw[o.kt];refine aa ?_;apply K.cond<;>intro g1;rotate_left
 ·refine aa ?_;exact⟨by rw[if_pos g1],c0 ax⟩
 rw[if_neg (by simpa using g1)];have eT:∀{w'},Ext aY w'→Ext w w':=fun e=>c0 (ax.trans e);refine aa ?_;refine K.cR 25 p.vars.length [3,23,24] (fun _=>[]) () (fun k _ w'=>Ext aY w'∧o.oQ s p.vars 0=o.oQ s (p.vars.drop k) k) bp bp ⟨Ext.refl _,by simp⟩ ?_;rintro k _ S bo hk ⟨aF,bs⟩;refine aa ?_;apply K.cond<;>intro g2
 ·have br:k<p.vars.length:=by omega
  obtain⟨a,rfl⟩:=aO.addr (by omega);replace aO:=aO.ext (eT (Ext.refl _));rw[o.Vr br] at bs;refine aa ?_;intro A3 b9 lX lZ nS;refine aa ?_;intro bD eU b3;have aM:=eU.ext lZ lX;refine aa ?_;apply K.cond<;>intro g3;rotate_left
  ·refine aa ?_;exact⟨by rw[bs,if_pos g3],eT (aF.trans aM)⟩
  rw[if_neg (by simpa using g3)] at bs;refine aa ?_;refine K.call (Rt l3 E.ek E.ba _ s.vars bD (h1.ext (eT (aF.trans aM))) F.dY (by kernel_rfl) [] [_] (fun x=>decide (x.name=p.vars[k].name)) ?_) ?_
  ·rintro i af jc w' e ⟨rfl,_⟩;exact afP _ _ b9 w' (e.obj b3)
  rintro _ bQ ⟨rfl,aN⟩;refine aa ?_;refine K.dO (fun g4=>?_) (fun g4=>?_)
  ·refine aa ?_;exact⟨by rw[bs,if_pos g4],eT ((aF.trans aM).trans aN)⟩
  ·refine aa ?_;exact⟨br,bf,(),trivial,(aF.trans aM).trans aN,by rw[bs,if_neg (by simp[g4])]⟩
 ·refine aa ?_;exact⟨by rw[bs,List.drop_eq_nil_of_le (by omega)];rfl,eT aF⟩
theorem ag5(p:o.dt)(Ep cs:List Value)(s:o.Scope)(w:World)(aZ:gH w)(aW:o.uW w Ep p)(h:o.fm w cs s)(aV:s.cG)(nr:p.cG) :
  bw Tryz.prog F.BS #[.agg Ep.toArray,.agg cs.toArray] w fun v w'=>v = .tuple #[.int .i64 (o.gY p s).1,.int .i64 (o.gY p s).2.1,.int .i64 (o.gY p s).2.2]∧Ext w w':=by
 obtain⟨a0,bV,dG,c1,a2,c2,a3,d3,a4,d4,rfl,ao,h1,U,ah,aJ,eH,dB,dH,ee,ei⟩:=h.form;obtain⟨aH,n3,pC,rfl,aO,nT⟩:=aW;obtain⟨cr,bJ,rfl,iA⟩:=aO.form;obtain⟨cC,bW,rfl,lc⟩:=nT.form;have np:p.cE.length≤140737488351232:=by have:=nr.cE;unfold o.dD at this;omega
 refine bP E.BS ?_;refine bM ?_;refine aa ?_;intro aq bE c8 aC ar;refine aa ?_;intro aU cp dT aA aK;have c0:∀{w'},Ext aU w'→Ext w w':=fun e=>(aC.trans aA).trans e;replace ar:=aA.obj ar;refine aa ?_;refine K.call (ajU p _ _ _ _ _ _ s aU (aZ.ext (c0 (Ext.refl _))) aH (h.ext (c0 (Ext.refl _)))) ?_;rintro _ aY ⟨rfl,ax⟩;replace ar:=ax.obj ar;replace aK:=ax.obj aK;have eT:∀{w'},Ext aY w'→Ext w w':=fun e=>c0 (ax.trans e);rw[o.gY];refine aa ?_;apply K.cond<;>intro g1;rotate_left
 ·refine aa ?_;exact⟨by rw[if_pos g1],eT (Ext.refl _)⟩
 rw[if_neg (by simpa using g1)];refine aa ?_;refine K.call (afQ p _ _ _ _ _ _ s aY (aZ.ext (eT (Ext.refl _))) (aO.ext (eT (Ext.refl _))) (h.ext (eT (Ext.refl _)))) ?_;rintro _ bo ⟨rfl,aF⟩;replace ar:=aF.obj ar;replace aK:=aF.obj aK;have eb:∀{w'},Ext bo w'→Ext w w':=fun e=>eT (aF.trans e);refine aa ?_;apply K.cond<;>intro g2;rotate_left
 ·refine aa ?_;exact⟨by rw[if_pos g2],eb (Ext.refl _)⟩
 rw[if_neg (by simpa using g2)];refine aa ?_;refine K.call (UB p _ _ _ _ _ _ _ _ _ _ _ _ _ _ _ _ _ _ _ _ _ _ bo) ?_;rintro _ bD ⟨rfl,aM⟩;replace ar:=aM.obj ar;have hg:∀{w'},Ext bD w'→Ext w w':=fun e=>eb (aM.trans e);refine aa ?_;intro bQ FO Gy aN b5;replace ar:=aN.obj ar;have kP:∀{w'},Ext bQ w'→Ext w w':=fun e=>hg (aN.trans e);have e5:∀w',Ext w w'→o.fm w' [.slice a0 s.scalars.length bV,.slice dG s.vars.length c1,.slice a2 s.a7.length c2,.slice a3 s.procs.length d3,.slice cr p.vars.length bJ,.int .i64 p.over] (o.inner p s):=fun w' e =>
  ⟨(aV.inner nr).pI.1,_,_,_,_,_,rfl,ao.ext e,h1.ext e,U.ext e,ah.ext e,aO.ext e,(aV.inner nr).pI.2⟩
 refine aa ?_;refine K.cR 37 p.cE.length [2,10,35,36] (fun _=>[]) () (fun k _ w'=>Ext bQ w'∧o.kC (o.inner p s) p.cW p.cE p.cE 0=o.kC (o.inner p s) p.cW p.cE (p.cE.drop k) k) bp bp ⟨Ext.refl _,by simp⟩ ?_;rintro k _ S cd hk ⟨bC,bs⟩;replace ar:=bC.obj ar;replace b5:=bC.obj b5;refine aa ?_;apply K.cond<;>intro g3
 ·have br:k<p.cE.length:=by omega
  obtain⟨a,rfl⟩:=nT.addr (by omega);obtain⟨aG,fV,va,fS,vG,tW⟩:=nT.at k br;obtain⟨hq,gl,rfl,afI⟩:=vG.form;obtain⟨bm,gJ,rfl,ns⟩:=tW.form;rw[o.Rk br] at bs;replace fS:=fS.ext (kP (Ext.refl _));refine aa ?_;intro A3 BF sb lZ nS;refine aa ?_;intro c9 iz c5;have bU:=iz.ext lZ sb;replace ar:=bU.obj ar;replace b5:=bU.obj b5;have mX:∀{w'},Ext c9 w'→Ext w w':=fun e=>kP ((bC.trans bU).trans e);clear nS lZ;refine aa ?_;refine K.call (ZW p.cE[k] _ _ p _ _ _ (o.inner p s) c9 (aZ.ext (mX (Ext.refl _))) aG (vG.ext (mX (Ext.refl _))) (tW.ext (mX (Ext.refl _))) (aO.ext (mX (Ext.refl _))) (nT.ext (mX (Ext.refl _))) (e5 _ (mX (Ext.refl _)))) ?_;rintro _ dF ⟨rfl,cL⟩;replace ar:=cL.obj ar;replace c5:=cL.obj c5;have gp:∀{w'},Ext dF w'→Ext w w':=fun e=>mX (cL.trans e);refine aa ?_;apply K.cond<;>intro g4;rotate_left
  ·refine aa ?_;exact⟨by rw[bs,if_pos g4],gp (Ext.refl _)⟩
  rw[if_neg (by simpa using g4)] at bs;have tC:=(bG.len nT).2.1;refine aa ?_;refine K.yi (k:=.i64) k (by rfl) (by omega) ?_;refine aa ?_;refine K.call (Rt l3 E.tr E.b2 _ (p.cE.take k) dF ((nT.head k (by omega)).ext o.wH.ext (gp (Ext.refl _))) F.bE (by kernel_rfl) [] [_] (fun x=>decide (x.name=p.cE[k].name)) ?_) ?_
  ·rintro i af jc w' e ⟨_,am7,mV,rfl,aeN,LP⟩;obtain⟨_,_,rfl,_⟩:=aeN.form;obtain⟨_,_,rfl,_⟩:=LP.form;exact ZV _ _ _ _ _ _ _ _ _ _ _ _ _ _ BF w' (e.obj c5)
  rintro _ fe ⟨rfl,dj⟩;refine aa ?_;refine K.dO (fun g5=>?_) (fun g5=>?_)
  ·refine aa ?_;exact⟨by rw[bs,if_pos g5],gp dj⟩
  ·refine aa ?_;exact⟨br,bf,(),trivial,((bC.trans bU).trans cL).trans dj,by rw[bs,if_neg (by simp[g5])]⟩
 ·refine aa ?_;exact⟨by rw[bs,List.drop_eq_nil_of_le (by omega)];rfl,kP bC⟩
end Go.Proofs.R
end
section
namespace bt
open Go Go.RowKit
theorem bG.BH{α:Type}{R:World→Addr→α→Prop}{C:World→List Value→α→Prop}{sz:Nat}[Rel R C sz]{w:World}{b n:Nat}{e:TypeId}{cells:List Value}{xs:List α}(fg:List (o0 sz))(aB:w.heap[b]? = some (.cells cells.toArray e))(ac7:cells=fg.flatMap ti)
  (a1:fg.length=xs.length)(aH:n=xs.length)(hm:xs.length≤maxLen)(aw:∀i (h1:i<fg.length) (U:i<xs.length),C w fg[i].1 xs[i]):bG sz R w (.slice (some ⟨b,0,none⟩) n n) xs:=by
 subst ac7;exact bG.Mr a1 (bG.aQ (enc:=ti) zm aB (by omega) (by omega) fun _ _ _ h=>h) aw
end bt
namespace o
open Go
theorem k7{n:Int}(h : -1000≤n∧n≤1000):eM n:=by unfold eM;omega
theorem A0(a b:Int)(s:Scope):(kx a b s).2=((gE a s).2&&(gE b s).2)∧((kx a b s).2=true→(kx a b s).1=(if a=0 then 0 else 1+a)):=by
 unfold kx gE;constructor
 ·(repeat' split)<;>first | rfl | (exfalso;omega)
 ·intro h
  (repeat' split)<;>first | rfl | (exfalso;omega) | simp_all
theorem Rz{l:List Var}{n:Int}{s:Scope}(h:(fw l n s).2.2=false):declared l n s=none:=by
 unfold declared;unfold fw at h;cases aH:nth l n with
 | none=>rfl
 | some v =>
  rw[aH] at h;simp only at h ⊢;rw[if_neg];rw[(A0 _ _ _).1,h];simp
theorem RB{l:List Var}{n:Int}{s:Scope}{x:Var}(h:(fw l n s).2.2=true)(av:nth l n=some x):declared l n s=some (x,if x.scalar=0 then 0 else 1+x.scalar)∧0≤x.scalar∧x.scalar≤s.scalars.length∧0≤x.over∧x.over≤s.scalars.length:=by
 unfold fw at h;rw[av] at h;simp only at h;have aL:(kx x.scalar x.over s).2=true:=by rw[(A0 _ _ _).1];exact h
 refine⟨?_,?_⟩
 ·unfold declared;rw[av];simp only;rw[if_pos aL,(A0 _ _ _).2 aL]
 ·unfold kx at aL;split at aL
  ·cases aL
  ·omega
theorem ZK{n:Int}{s:Scope}(h:¬(ju n s).2=0):channel n s=none:=by
 unfold channel;unfold ju at h;cases aH:nth s.a7 n with
 | none=>rfl
 | some c =>
  rw[aH] at h;simp only at h ⊢;rw[if_neg];intro aL;rw[(A0 _ _ _).1] at aL;simp only[Bool.and_eq_true] at aL;rw[if_pos aL.1] at h;exact h rfl
theorem ZM{n:Int}{s:Scope}{c:dK}(h:(ju n s).2=0)(av:nth s.a7 n=some c):channel n s=some (if c.scalar=0 then 0 else 1+c.scalar)∧0≤c.scalar∧c.scalar≤s.scalars.length:=by
 unfold ju at h;rw[av] at h;simp only at h;have h1:(gE c.scalar s).2=true:=by
  cases hk:(gE c.scalar s).2 with
  | true=>rfl
  | false=>rw[hk] at h;simp at h
 have aL:(kx c.scalar 0 s).2=true:=by rw[(A0 _ _ _).1,h1];simp[gE]
 refine⟨?_,?_⟩
 ·unfold channel;rw[av];simp only;rw[if_pos aL,(A0 _ _ _).2 aL]
 ·unfold kx at aL;split at aL
  ·cases aL
  ·omega
def ks(l:List Var)(n:Int)(s:Scope):Int×Int:=match declared l n s with | none=>(0,8) | some (v,k)=>if v.over≠0 then (0,9) else (k,0)
def xV(a:Act)(s:Scope):Int:=match declared s.vars a.to s with | none=>8 | some (v,k)=>if v.over=0 then 9 else if asked a.index (1+v.over) s≠0 then asked a.index (1+v.over) s else asked a.value k s
def ku(a:Act)(s:Scope)(comm:Bool):Int :=
 if a.kind<1∨5<a.kind then 3
 else if a.kind=2 then xV a s
 else if a.kind=1∨a.kind=3 then (if (ks (if a.kind=3 then s.locals else s.vars) a.to s).2≠0 then (ks (if a.kind=3 then s.locals else s.vars) a.to s).2 else asked a.value (ks (if a.kind=3 then s.locals else s.vars) a.to s).1 s)
 else if comm=true then 7
 else match channel a.to s with
  | none=>8
  | some k=>if a.kind=4 then asked a.value k s else if (ks s.locals a.loc s).2≠0 then (ks s.locals a.loc s).2 else if (ks s.locals a.loc s).1≠k then 9 else 0
theorem ahz(a:Act)(s:Scope)(comm:Bool):ku a s comm=if hs a&&comm then 7 else jF a s:=by
 by_cases ao:a.kind<1∨5<a.kind
 ·have aL:hs a=false:=by unfold hs;rw[decide_eq_false_iff_not];omega
  unfold ku jF;rw[if_pos ao,aL,if_neg (by omega:¬(a.kind=1∨a.kind=2∨a.kind=3)),if_neg (by omega:¬(a.kind=4∨a.kind=5))];simp
 by_cases U:a.kind=2
 ·have aL:hs a=false:=by unfold hs;rw[decide_eq_false_iff_not];omega
  unfold ku jF;rw[if_neg ao,if_pos U,aL,if_pos (by omega:a.kind=1∨a.kind=2∨a.kind=3)];simp only[Bool.false_and,Bool.false_eq_true,if_false];rw[if_neg (by omega:¬a.kind=3)];unfold xV;cases bx:declared s.vars a.to s with
  | none=>rfl
  | some q =>
   obtain⟨v,k⟩:=q;simp only[U,true_and];by_cases aO:v.over=0
   ·simp[aO]
   ·simp[aO]
 by_cases h1:a.kind=1∨a.kind=3
 ·have aL:hs a=false:=by unfold hs;rw[decide_eq_false_iff_not];omega
  unfold ku jF;rw[if_neg ao,if_neg U,if_pos h1,aL,if_pos (by omega:a.kind=1∨a.kind=2∨a.kind=3)];simp only[Bool.false_and,Bool.false_eq_true,if_false];unfold ks;cases bx:declared (if a.kind=3 then s.locals else s.vars) a.to s with
  | none=>simp
  | some q =>
   obtain⟨v,k⟩:=q;simp only[U,false_and,if_false];by_cases aO:v.over=0
   ·simp[aO]
   ·simp[aO]
 ·have abW:a.kind=4∨a.kind=5:=by omega
  have aL:hs a=true:=by unfold hs;rw[decide_eq_true_eq];omega
  unfold ku jF;rw[if_neg ao,if_neg U,if_neg h1,aL,if_neg (by omega:¬(a.kind=1∨a.kind=2∨a.kind=3)),if_pos abW];simp only[Bool.true_and];cases comm with
  | true=>simp
  | false =>
   simp only[Bool.false_eq_true,if_false];cases aw:channel a.to s with
   | none=>rfl
   | some k =>
    simp only;by_cases aJ:a.kind=4
    ·rw[if_pos aJ,if_neg (by omega:¬a.kind=5)]
    ·rw[if_neg aJ,if_pos (by omega:a.kind=5)];unfold ks Ez;cases bx:declared s.locals a.loc s with
     | none=>simp
     | some q =>
      obtain⟨v,k'⟩:=q;simp only;by_cases aO:v.over=0
      ·simp[aO]
      ·simp[aO]
end o
end
section
set_option linter.unusedSimpArgs false
namespace Go.Proofs.R
open Go Go.RowKit bt
theorem ajf(op:Int)(w:World):bw Tryz.prog F.DP #[.int .i64 op] w fun v w'=>v = .int .i64 (o.fH op)∧w'=w:=by
 have key:∀n:Int,(if op=3 then (1:Int) else if 1≤op∧op≤8 then 0 else if op=9∨op=10 then 1 else if 11≤op∧op≤19 then 2 else -1)=n→o.fH op=n:=fun _ h=>h;refine bP E.DP ?_;refine bM ?_
 (repeat' (refine bn ?_;first | (refine K.cond (fun _=>?_) (fun _=>?_)<;>try (exfalso;omega)) | refine K.dO (fun _=>?_) (fun _=>?_)))<;>try refine bn ?_
 all_goals
  refine⟨?_,bf⟩;congr 1;refine(key _ ?_).symm
  (repeat' split)<;>first | rfl | (exfalso;omega)
theorem VH{x:Int}(h:o.fH x=0):1≤x∧x≤8∧x≠3∧o.hP x=none:=by
 have h1:1≤x∧x≤8∧x≠3:=by unfold o.fH at h; (repeat' split at h)<;>omega
 exact⟨h1.1,h1.2.1,h1.2.2,o.Mu (by simp[o.vJ];omega)⟩
theorem agn{x:Int}(h:o.fH x=1):x=3∨x=9∨x=10:=by unfold o.fH at h; (repeat' split at h)<;>omega
theorem VI{x:Int}(h:o.fH x=2):11≤x∧x≤19:=by unfold o.fH at h; (repeat' split at h)<;>omega
theorem agE{x:Int}(h:9≤x∧x≤19):∃ak,o.hP x=some ak∧ak.parts=o.fH x:=by
 cases aZ:o.hP x with
 | some ak=>exact⟨ak,rfl,(o.HJ aZ).1⟩
 | none =>
  exfalso;unfold o.hP at aZ
  (repeat' split at aZ)
  all_goals first | (cases aZ;done) | omega
theorem RI{st:List Int}(h:1≤st.length):st.drop (st.length - 1)=[st[st.length - 1]]:=by
 rw[List.drop_eq_getElem_cons (by omega),List.drop_eq_nil_of_le (by omega)]
theorem aak{st:List Int}(h:2≤st.length):st.drop (st.length - 2)=[st[st.length - 2],st[st.length - 1]]:=by
 rw[List.drop_eq_getElem_cons (by omega)];have e:st.length - 2+1=st.length - 1:=by omega
 congr 1;rw[e];exact RI (by omega)
theorem zn:∀y,∀u∈encI y,u.oneCell'=true:=fun y u h=>by simp[encI] at h;subst h;rfl
end Go.Proofs.R
end
section
set_option linter.unusedSimpArgs false
namespace Go.Proofs.R
open Go Go.RowKit bt
theorem M6(n:Int)(cs:List Value)(s:o.Scope)(w:World)(h:o.fm w cs s) :
  bw Tryz.prog F.x2 #[.int .i64 n,.agg cs.toArray] w fun v w'=>v = .bool (o.gE n s).2∧Ext w w':=by
 obtain⟨a0,bV,dG,c1,a2,c2,a3,bJ,a4,bW,rfl,ao,h1,U,ah,aJ,eH,dB,dH,ee,ei⟩:=h.form;refine bP E.x2 ?_;refine bM ?_;refine bn ?_;refine K.new fun aq b aB aC ar=>?_
 (repeat' (refine bn ?_;first | (refine K.cond (fun _=>?_) (fun _=>?_)<;>try (exfalso;omega)) | refine K.dO (fun _=>?_) (fun _=>?_)))<;>try refine bn ?_
 all_goals
  refine⟨?_,fK⟩;congr 1;unfold o.gE
  (repeat' split)<;>first | rfl | (exfalso;omega) | (simp;omega)
def kindOf(n:Int):Int:=if n=0 then 0 else 1+n
theorem Hs(n:Int)(w:World)(h:0≤n∧n≤4611686018427387904):bw Tryz.prog F.rm #[.int .i64 n] w fun v w'=>v = .int .i64 (kindOf n)∧w'=w:=by
 refine bP E.rm ?_;refine bM ?_
 (repeat' (refine bn ?_;first | (refine K.cond (fun _=>?_) (fun _=>?_)<;>try (exfalso;omega)) | refine K.dO (fun _=>?_) (fun _=>?_)))<;>try refine bn ?_
 all_goals
  refine⟨?_,bf⟩;congr 1;unfold kindOf;split<;>first | rfl | (exfalso;omega)
theorem U5{n:Int}{s:o.Scope}(h:(o.gE n s).2=true):0≤n∧n≤s.scalars.length∧(o.gE n s).1=kindOf n:=by
 unfold o.gE kindOf at *
 (repeat' split at h) <;> (repeat' split)<;>first | (cases h;done) | (refine⟨by omega,by omega,?_⟩;first | rfl | omega) | (exfalso;omega)
theorem EE(v:Value)(l:List o.Var)(n:Int)(cs:List Value)(s:o.Scope)(w:World)(a1:o.hh w v l)(h:o.fm w cs s) :
  bw Tryz.prog F.vM #[v,.int .i64 n,.agg cs.toArray] w fun v w' =>
   (∃x:o.Var,v = .tuple #[.agg x.enc.toArray,.bool (o.fw l n s).2.2]∧((o.fw l n s).2.2=true→o.nth l n=some x))∧Ext w w':=by
 obtain⟨a0,bV,dG,c1,a2,c2,a3,bJ,a4,bW,rfl,_⟩:=h.form;obtain⟨bm,cap,rfl,hlen⟩:=a1.form;refine bP E.vM ?_;refine bM ?_;refine bn ?_;refine K.new fun aq b aB aC ar=>?_;refine bn ?_;refine K.new fun aU cp dT aA aK=>?_;have he:=aC.trans aA;have eZ:=aA.obj ar;refine bn ?_;apply K.cond<;>intro g1
 ·have hk:(o.fw l n s).2.2=false:=by rw[o.fw,o.kK (.inl g1)]
  refine bn ?_;intro aY ax;refine bn ?_;refine K.cP (cs:=(⟨⟨#[]⟩,0,0,0,0,0⟩:o.Var).enc) (by simp[e4,o.Var.enc]) ?_;refine bn ?_;refine K.hT (cs:=(⟨⟨#[]⟩,0,0,0,0,0⟩:o.Var).enc.toArray) (ax.obj aK) rfl rfl (by simp[o.Var.enc,Value.oneCell']) fun bo eu bH=>?_;refine bn ?_;refine K.gX (c:=o.Var.enc _) bH (Ext.refl _) rfl ?_;refine bn ?_;exact⟨⟨_,by rw[hk],by rw[hk];intro h;cases h⟩,eu.ext (he.trans ax) (by have:=aC.size;omega)⟩
 refine bn ?_;apply K.cond<;>intro g2
 ·have hk:(o.fw l n s).2.2=false:=by rw[o.fw,o.kK (.inr (by omega))]
  refine bn ?_;intro aY ax;refine bn ?_;refine K.cP (cs:=(⟨⟨#[]⟩,0,0,0,0,0⟩:o.Var).enc) (by simp[e4,o.Var.enc]) ?_;refine bn ?_;refine K.hT (cs:=(⟨⟨#[]⟩,0,0,0,0,0⟩:o.Var).enc.toArray) (ax.obj aK) rfl rfl (by simp[o.Var.enc,Value.oneCell']) fun bo eu bH=>?_;refine bn ?_;refine K.gX (c:=o.Var.enc _) bH (Ext.refl _) rfl ?_;refine bn ?_;exact⟨⟨_,by rw[hk],by rw[hk];intro h;cases h⟩,eu.ext (he.trans ax) (by have:=aC.size;omega)⟩
 obtain⟨i,rfl⟩:=Int.eq_ofNat_of_zero_le (show 0≤n by omega);have af:i<l.length:=by omega
 have aH:o.nth l (i:Int)=some l[i]:=by rw[o.lf (by omega) (by omega)];simp only[Int.toNat_natCast]
 obtain⟨a,rfl⟩:=a1.addr (by omega);refine bn ?_;refine K.gX (c:=[_,_,_,_,_,_]) eZ (Ext.refl _) rfl ?_;refine bn ?_;refine K.gm _ (fun w' e=>M6 _ _ s w' (h.ext (he.trans e))) ?_;refine bn ?_;refine K.dO (fun g3=>?_) (fun g3=>?_);rotate_left
 ·have hk:(o.fw l i s).2.2=false:=by rw[o.fw,aH];simp only[g3,Bool.false_and]
  refine bn ?_;intro aY ax;refine bn ?_;refine K.cP (cs:=(⟨⟨#[]⟩,0,0,0,0,0⟩:o.Var).enc) (by simp[e4,o.Var.enc]) ?_;refine bn ?_;refine K.hT (cs:=(⟨⟨#[]⟩,0,0,0,0,0⟩:o.Var).enc.toArray) (ax.obj aK) rfl rfl (by simp[o.Var.enc,Value.oneCell']) fun bo eu bH=>?_;refine bn ?_;refine K.gX (c:=o.Var.enc _) bH (Ext.refl _) rfl ?_;refine bn ?_;exact⟨⟨_,by rw[hk],by rw[hk];intro h;cases h⟩,eu.ext (he.trans ax) (by have:=aC.size;omega)⟩
 refine bn ?_;refine K.gX (c:=[_,_,_,_,_,_]) eZ (Ext.refl _) rfl ?_;refine bn ?_;refine K.gm _ (fun w' e=>M6 _ _ s w' (h.ext (he.trans e))) ?_;refine bn ?_;cases g4:(o.gE l[i].over s).2 with
 | false =>
  have hk:(o.fw l i s).2.2=false:=by rw[o.fw,aH];simp only[g4,Bool.and_false]
  refine bn ?_;intro aY ax;refine bn ?_;refine K.cP (cs:=(⟨⟨#[]⟩,0,0,0,0,0⟩:o.Var).enc) (by simp[e4,o.Var.enc]) ?_;refine bn ?_;refine K.hT (cs:=(⟨⟨#[]⟩,0,0,0,0,0⟩:o.Var).enc.toArray) (ax.obj aK) rfl rfl (by simp[o.Var.enc,Value.oneCell']) fun bo eu bH=>?_;refine bn ?_;refine K.gX (c:=o.Var.enc _) bH (Ext.refl _) rfl ?_;refine bn ?_;exact⟨⟨_,by rw[hk],by rw[hk];intro h;cases h⟩,eu.ext (he.trans ax) (by have:=aC.size;omega)⟩
 | true =>
  have hk:(o.fw l i s).2.2=true:=by rw[o.fw,aH];simp only[g3,g4,Bool.and_true]
  refine bn ?_;intro aY ax;refine bn ?_;refine K.hT (cs:=l[i].enc.toArray) (ax.obj aK) rfl rfl (by simp[o.Var.enc,Value.oneCell']) fun bo eu bH=>?_;refine bn ?_;refine K.gX (c:=o.Var.enc _) bH (Ext.refl _) rfl ?_;refine bn ?_;exact⟨⟨_,by rw[hk],fun _=>aH⟩,eu.ext (he.trans ax) (by have:=aC.size;omega)⟩
theorem We(n:Int)(cs:List Value)(s:o.Scope)(w:World)(h:o.fm w cs s) :
  bw Tryz.prog F.Al #[.int .i64 n,.agg cs.toArray] w fun v w' =>
   (∃x:o.dK,v = .tuple #[.agg x.enc.toArray,.bool (decide ((o.ju n s).2=0))]∧((o.ju n s).2=0→o.nth s.a7 n=some x))∧Ext w w':=by
 obtain⟨a0,bV,dG,c1,a2,c2,a3,bJ,a4,bW,rfl,ao,h1,U,ah,aJ,eH,dB,dH,ee,ei⟩:=h.form;refine bP E.Al ?_;refine bM ?_;refine bn ?_;refine K.new fun aq b aB aC ar=>?_;refine bn ?_;refine K.new fun aU cp dT aA aK=>?_;have he:=aC.trans aA;have eZ:=aA.obj ar;refine bn ?_;apply K.cond<;>intro g1
 ·have hk:(o.ju n s).2=8:=by rw[o.ju,o.kK (.inl g1)]
  refine bn ?_;intro aY ax;refine bn ?_;refine K.cP (cs:=(⟨⟨#[]⟩,0,0,0,0,false⟩:o.dK).enc) (by simp[e4,o.dK.enc]) ?_;refine bn ?_;refine K.hT (cs:=(⟨⟨#[]⟩,0,0,0,0,false⟩:o.dK).enc.toArray) (ax.obj aK) rfl rfl (by simp[o.dK.enc,Value.oneCell']) fun bo eu bH=>?_;refine bn ?_;refine K.gX (c:=o.dK.enc _) bH (Ext.refl _) rfl ?_;refine bn ?_;exact⟨⟨_,by rw[hk];rfl,by rw[hk];intro h;cases h⟩,eu.ext (he.trans ax) (by have:=aC.size;omega)⟩
 refine bn ?_;apply K.cond<;>intro g2
 ·have hk:(o.ju n s).2=8:=by rw[o.ju,o.kK (.inr (by omega))]
  refine bn ?_;intro aY ax;refine bn ?_;refine K.cP (cs:=(⟨⟨#[]⟩,0,0,0,0,false⟩:o.dK).enc) (by simp[e4,o.dK.enc]) ?_;refine bn ?_;refine K.hT (cs:=(⟨⟨#[]⟩,0,0,0,0,false⟩:o.dK).enc.toArray) (ax.obj aK) rfl rfl (by simp[o.dK.enc,Value.oneCell']) fun bo eu bH=>?_;refine bn ?_;refine K.gX (c:=o.dK.enc _) bH (Ext.refl _) rfl ?_;refine bn ?_;exact⟨⟨_,by rw[hk];rfl,by rw[hk];intro h;cases h⟩,eu.ext (he.trans ax) (by have:=aC.size;omega)⟩
 obtain⟨i,rfl⟩:=Int.eq_ofNat_of_zero_le (show 0≤n by omega);have af:i<s.a7.length:=by omega
 have aH:o.nth s.a7 (i:Int)=some s.a7[i]:=by rw[o.lf (by omega) (by omega)];simp only[Int.toNat_natCast]
 obtain⟨a,rfl⟩:=U.addr (by omega);refine bn ?_;refine K.gX (c:=[_,_,_,_,_,_]) eZ (Ext.refl _) rfl ?_;refine bn ?_;refine K.gm _ (fun w' e=>M6 _ _ s w' (h.ext (he.trans e))) ?_;refine bn ?_;cases g4:(o.gE s.a7[i].scalar s).2 with
 | false =>
  have hk:(o.ju i s).2=8:=by rw[o.ju,aH];simp only[g4,Bool.false_eq_true,if_false]
  refine bn ?_;intro aY ax;refine bn ?_;refine K.cP (cs:=(⟨⟨#[]⟩,0,0,0,0,false⟩:o.dK).enc) (by simp[e4,o.dK.enc]) ?_;refine bn ?_;refine K.hT (cs:=(⟨⟨#[]⟩,0,0,0,0,false⟩:o.dK).enc.toArray) (ax.obj aK) rfl rfl (by simp[o.dK.enc,Value.oneCell']) fun bo eu bH=>?_;refine bn ?_;refine K.gX (c:=o.dK.enc _) bH (Ext.refl _) rfl ?_;refine bn ?_;exact⟨⟨_,by rw[hk];rfl,by rw[hk];intro h;cases h⟩,eu.ext (he.trans ax) (by have:=aC.size;omega)⟩
 | true =>
  have hk:(o.ju i s).2=0:=by rw[o.ju,aH];simp only[g4,if_true]
  refine bn ?_;intro aY ax;refine bn ?_;refine K.hT (cs:=s.a7[i].enc.toArray) (ax.obj aK) rfl rfl (by simp[o.dK.enc,Value.oneCell']) fun bo eu bH=>?_;refine bn ?_;refine K.gX (c:=o.dK.enc _) bH (Ext.refl _) rfl ?_;refine bn ?_;exact⟨⟨_,by rw[hk];rfl,fun _=>aH⟩,eu.ext (he.trans ax) (by have:=aC.size;omega)⟩
end Go.Proofs.R
end
section
set_option linter.unusedSimpArgs false
namespace Go.Proofs.R
open Go Go.RowKit bt
theorem L4{l:List o.Var}{n:Int}{s:o.Scope}{x:o.Var}(h:(o.fw l n s).2.2=true)(av:o.nth l n=some x) :
  (o.fw l n s).1=kindOf x.scalar∧(o.fw l n s).2.1=kindOf x.over∧0≤x.scalar∧x.scalar≤s.scalars.length∧0≤x.over∧x.over≤s.scalars.length:=by
 unfold o.fw at h ⊢;rw[av] at h ⊢;simp only[Bool.and_eq_true] at h ⊢;obtain⟨dG,a2,a3⟩:=U5 h.1;obtain⟨bE,cp,ch⟩:=U5 h.2;exact⟨a3,ch,dG,a2,bE,cp⟩
theorem ah4(x:o.Node)(cs:List Value)(s:o.Scope)(w:World)(av:x.ok)(h:o.fm w cs s)(l4:1≤x.op∧x.op≤8)(ah:x.op≠3)(t:Int) :
  bw Tryz.prog F.DQ #[.agg x.enc.toArray,.agg cs.toArray] w fun v w'=>v = .tuple #[.int .i64 (o.ie x s t).1,.int .i64 (o.ie x s t).2]∧Ext w w':=by
 obtain⟨a0,bV,dG,c1,a2,c2,a3,bJ,a4,bW,rfl,Eu,dQ,ef,ev,hR,eH,dB,dH,ee,ei⟩:=h.form;refine bP E.DQ ?_;refine bM ?_;refine bn ?_;refine K.new fun aq bE c8 aC ar=>?_;refine bn ?_;refine K.new fun aU cp dT aA aK=>?_;have he:=aC.trans aA;have dc:aU.heap[bE]? = some (.cells #[.int .i64 x.op,.int .i64 x.n] T.f):=aA.obj ar;clear ar;refine bn ?_;apply K.cond<;>intro g1
 ·have hk:o.ie x s t=if o.within x.n then (0,0) else (0,10):=by rw[o.ie,if_pos g1]
  (repeat' (refine bn ?_;first | (refine K.cond (fun _=>?_) (fun _=>?_)<;>try (exfalso;omega)) | refine K.dO (fun _=>?_) (fun _=>?_)))<;>try refine bn ?_
  all_goals
   refine⟨?_,fK⟩;rw[hk];unfold o.within;split<;>first | rfl | (rename_i ea;simp at ea;exfalso;omega)
 by_cases aO:x.op=2∨x.op=4
 ·have hk:o.ie x s t=(let q:=o.fw (if x.op=4 then s.locals else s.vars) x.n s;if q.2.2=false then (0,8) else if (x.op=3∧(q.2.1=0∨t≠q.2.1))∨(x.op≠3∧q.2.1≠0) then (0,9) else (q.1,0)):=by
   rw[o.ie,if_neg g1,if_pos (by omega)]
  by_cases g4:x.op=4
  ·rw[if_pos g4] at hk;rw[hk];refine bn ?_;refine K.gX (c:=[_,_,_,_,_,_]) aK (Ext.refl _) rfl ?_;refine bn ?_;refine K.call (EE _ s.locals x.n _ s aU (hR.ext he) (h.ext he)) ?_;rintro _ aY ⟨⟨y,rfl,bS⟩,ax⟩;have dA:(o.fw s.locals x.n s).2.2=true→_:=fun g=>L4 g (bS g);clear bS hk;generalize o.fw s.locals x.n s=q at dA ⊢;obtain⟨vV,yf,MM⟩:=q;refine bn ?_;refine K.sF (vs:=y.enc) (fun _=>by simp -dsimp only[c6,cA,Nat.reduceAdd,Nat.reduceEqDiff,reduceIte,reduceCtorEq,de]) rfl rfl (by simp[o.Var.enc,Value.oneCell']) fun bo db gw aF bH=>?_;have ic:bo.heap[db]? = some (.cells #[.string y.name,.int .i64 y.scalar,.int .i64 y.over,.int .i64 y.bA,.int .i64 y.af,.int .i64 y.init] T.i):=bH;clear bH;refine bn ?_;refine K.dO (fun g5=>?_) (fun g5=>?_);rotate_left
   ·refine bn ?_;simp only[g5,if_true];exact dv
   obtain⟨fC,z2,z3,z4,z5,uN⟩:=dA g5;have vB:kindOf y.over=0↔y.over=0:=by unfold kindOf;split<;>omega
   have yx:vV=kindOf y.scalar:=fC;have yy:yf=kindOf y.over:=z2;refine bn ?_;apply K.cond<;>intro g6
   ·refine bn ?_;refine K.call (Hs y.scalar bo (by omega)) ?_;rintro _ _ ⟨rfl,rfl⟩;refine bn ?_;simp only[g5,Bool.true_eq_false,if_false,yx,yy];rw[if_neg (by rw[ne_eq,vB];omega)];exact dv
   ·refine bn ?_;simp only[g5,Bool.true_eq_false,if_false,yx,yy];rw[if_pos (.inr ⟨ah,by rw[ne_eq,vB];exact g6⟩)];exact dv
  ·rw[if_neg g4] at hk;rw[hk];refine bn ?_;refine K.gX (c:=[_,_,_,_,_,_]) aK (Ext.refl _) rfl ?_;refine bn ?_;refine K.call (EE _ s.vars x.n _ s aU (dQ.ext he) (h.ext he)) ?_;rintro _ aY ⟨⟨y,rfl,bS⟩,ax⟩;have dA:(o.fw s.vars x.n s).2.2=true→_:=fun g=>L4 g (bS g);clear bS hk;generalize o.fw s.vars x.n s=q at dA ⊢;obtain⟨vV,yf,MM⟩:=q;refine bn ?_;refine K.sF (vs:=y.enc) (fun _=>by simp -dsimp only[c6,cA,Nat.reduceAdd,Nat.reduceEqDiff,reduceIte,reduceCtorEq,de]) rfl rfl (by simp[o.Var.enc,Value.oneCell']) fun bo db gw aF bH=>?_;have ic:bo.heap[db]? = some (.cells #[.string y.name,.int .i64 y.scalar,.int .i64 y.over,.int .i64 y.bA,.int .i64 y.af,.int .i64 y.init] T.i):=bH;clear bH;refine bn ?_;refine K.dO (fun g5=>?_) (fun g5=>?_);rotate_left
   ·refine bn ?_;simp only[g5,if_true];exact dv
   obtain⟨fC,z2,z3,z4,z5,uN⟩:=dA g5;have vB:kindOf y.over=0↔y.over=0:=by unfold kindOf;split<;>omega
   have yx:vV=kindOf y.scalar:=fC;have yy:yf=kindOf y.over:=z2;refine bn ?_;apply K.cond<;>intro g6
   ·refine bn ?_;refine K.call (Hs y.scalar bo (by omega)) ?_;rintro _ _ ⟨rfl,rfl⟩;refine bn ?_;simp only[g5,Bool.true_eq_false,if_false,yx,yy];rw[if_neg (by rw[ne_eq,vB];omega)];exact dv
   ·refine bn ?_;simp only[g5,Bool.true_eq_false,if_false,yx,yy];rw[if_pos (.inr ⟨ah,by rw[ne_eq,vB];exact g6⟩)];exact dv
 have hk:o.ie x s t=o.la x s:=by rw[o.ie,if_neg g1,if_neg (by omega)]
 rw[hk];clear hk;refine bn ?_;apply K.cond<;>intro g5
 ·(repeat' (refine bn ?_;first | (refine K.cond (fun _=>?_) (fun _=>?_)<;>try (exfalso;omega)) | refine K.dO (fun _=>?_) (fun _=>?_)))<;>try refine bn ?_
  all_goals
   refine⟨?_,fK⟩;rw[o.la,if_pos g5];split<;>first | rfl | (exfalso;omega)
 refine bn ?_;apply K.cond<;>intro g6
 ·have hk:o.la x s=o.ju x.n s:=by rw[o.la,if_neg g5,if_pos g6]
  rw[hk];have xE:(o.ju x.n s).1=0∧((o.ju x.n s).2=0∨(o.ju x.n s).2=8):=by
   unfold o.ju; (repeat' split)<;>simp
  refine bn ?_;refine K.gX (c:=[_,_,_,_,_,_]) aK (Ext.refl _) rfl ?_;refine bn ?_;refine K.call (We x.n _ s aU (h.ext he)) ?_;rintro _ aY ⟨⟨y,rfl,bS⟩,ax⟩;generalize o.ju x.n s=q at *;obtain⟨dQ,ef⟩:=q;obtain⟨rfl,aR⟩:=xE;refine bn ?_;refine K.sF (vs:=y.enc) (fun _=>by simp -dsimp only[c6,cA,Nat.reduceAdd,Nat.reduceEqDiff,reduceIte,reduceCtorEq,de]) rfl rfl (by simp[o.dK.enc,Value.oneCell']) fun bo db gw aF bH=>?_;refine bn ?_;apply K.cond<;>intro g7
  ·refine bn ?_;have g8:ef=0:=g7;rw[g8];exact dv
  ·refine bn ?_
   have:ef=8:=aR.resolve_left g7
   rw[this];exact dv
 refine bn ?_;apply K.cond<;>intro g7
 ·have hk:o.la x s=o.Ah x.n s:=by rw[o.la,if_neg g5,if_neg g6,if_pos g7]
  rw[hk,o.Ah];refine bn ?_;apply K.cond<;>intro g1
  ·refine bn ?_;intro aY ax;refine bn ?_;rw[if_neg (by omega)];exact dv
  rw[if_pos (by omega)];obtain⟨i,af⟩:=Int.eq_ofNat_of_zero_le (show 0≤x.n by omega);obtain⟨_,kq⟩:=av.n;rw[af] at kq;have aR:x.n.tdiv 16=((i / 16:Nat):Int):=by rw[af];rfl
  have hm:x.n.tmod 16=((i % 16:Nat):Int):=by rw[af];rfl
  refine bn ?_;refine K.quo (by omega) ?_;rw[aR];refine bn ?_;apply K.cond<;>intro g2
  ·refine bn ?_;intro aY ax;refine bn ?_;rw[o.kK (.inr (by omega))];exact dv
  have aI:i / 16<s.procs.length:=by omega
  rw[o.lf (by omega) (by omega)];simp only[Int.toNat_natCast];refine bn ?_;refine K.rem (by omega) ?_;refine bn ?_;refine K.quo (by omega) ?_;rw[aR];obtain⟨a,rfl⟩:=ev.addr (by omega);obtain⟨_,cx,eg,CR,_⟩:=ev.at (i / 16) aI;have KF:w.cell? ((a.add (i / 16*5)).add 2)=some (.int .i64 s.procs[i / 16].cW):=CR 2 _ rfl;refine bn ?_;refine K.ld ((aC.trans aA).cell KF) ?_;refine bn ?_;rw[hm];intro aY ax;refine bn ?_;apply K.cond<;>intro g3
  all_goals
   refine bn ?_;refine⟨?_,fK⟩
   first | rw[if_pos (by omega)] | rw[if_neg (by omega)]
 (repeat' (refine bn ?_;first | (refine K.cond (fun _=>?_) (fun _=>?_)<;>try (exfalso;omega)) | refine K.dO (fun _=>?_) (fun _=>?_)))<;>try refine bn ?_
 all_goals
  refine⟨?_,fK⟩;rw[o.la,if_neg g5,if_neg g6,if_neg g7,if_pos (by omega)];split<;>first | rfl | (exfalso;omega)
end Go.Proofs.R
end
section
set_option linter.unusedSimpArgs false
namespace Go.Proofs.R
open Go Go.RowKit bt
theorem Vb(ak:o.o3)(k:Int):o.mM ak [k]=if ak.iV = -1∨k=ak.iV then (ak.makes,0) else (0,9):=by
 simp[o.mM]
theorem afo(ak:o.o3)(a b:Int):o.mM ak [a,b]=if (ak.iV = -1∨a=ak.iV)∧a=b then (ak.makes,0) else (0,9):=by
 simp only[o.mM,List.all_cons,List.all_nil,List.headD_cons,Bool.and_true,decide_true];by_cases h:a=b
 ·subst h;simp
 ·have bK:¬b=a:=fun e=>h e.symm;simp[h,bK]
def sG(x:o.Node)(k:Int)(s:o.Scope):Int×Int:=match o.hP x.op with | some ak=>o.mM ak [k] | none=>o.ie x s k
theorem aia(x:o.Node)(k:Int)(cs:List Value)(s:o.Scope)(w:World)(h:o.fm w cs s)(l4:x.op=3∨x.op=9∨x.op=10) :
  bw Tryz.prog F.DR #[.agg x.enc.toArray,.int .i64 k,.agg cs.toArray] w fun v w'=>v = .tuple #[.int .i64 (sG x k s).1,.int .i64 (sG x k s).2]∧Ext w w':=by
 obtain⟨a0,bV,dG,c1,a2,c2,a3,bJ,a4,bW,rfl,Eu,dQ,ef,ev,hR,eH,dB,dH,ee,ei⟩:=h.form;refine bP E.DR ?_;refine bM ?_;refine bn ?_;refine K.new fun aq bE c8 aC ar=>?_;refine bn ?_;refine K.new fun aU cp dT aA aK=>?_;have he:=aC.trans aA;have dc:aU.heap[bE]? = some (.cells #[.int .i64 x.op,.int .i64 x.n] T.f):=aA.obj ar;clear ar;refine bn ?_;apply K.cond<;>intro g1
 ·have aZ:o.hP x.op=none:=by rw[g1];rfl
  have hk:sG x k s=(let q:=o.fw s.vars x.n s;if q.2.2=false then (0,8) else if (x.op=3∧(q.2.1=0∨k≠q.2.1))∨(x.op≠3∧q.2.1≠0) then (0,9) else (q.1,0)):=by
   rw[sG,aZ];simp only;rw[o.ie,if_neg (by omega),if_pos (by omega)];simp only[show ¬x.op=4 from by omega,if_false]
  rw[hk];refine bn ?_;refine K.gX (c:=[_,_,_,_,_,_]) aK (Ext.refl _) rfl ?_;refine bn ?_;refine K.call (EE _ s.vars x.n _ s aU (dQ.ext he) (h.ext he)) ?_;rintro _ aY ⟨⟨y,rfl,bS⟩,ax⟩;have dA:(o.fw s.vars x.n s).2.2=true→_:=fun g=>L4 g (bS g);clear bS hk;generalize o.fw s.vars x.n s=q at dA ⊢;obtain⟨vV,yf,MM⟩:=q;refine bn ?_;refine K.sF (vs:=y.enc) (fun _=>by simp -dsimp only[c6,cA,Nat.reduceAdd,Nat.reduceEqDiff,reduceIte,reduceCtorEq,de]) rfl rfl (by simp[o.Var.enc,Value.oneCell']) fun bo db gw aF bH=>?_;have ic:bo.heap[db]? = some (.cells #[.string y.name,.int .i64 y.scalar,.int .i64 y.over,.int .i64 y.bA,.int .i64 y.af,.int .i64 y.init] T.i):=bH;clear bH;refine bn ?_;refine K.dO (fun g5=>?_) (fun g5=>?_);rotate_left
  ·refine bn ?_;simp only[g5,if_true];exact dv
  obtain⟨fC,z2,z3,z4,z5,uN⟩:=dA g5;have yx:vV=kindOf y.scalar:=fC;have yy:yf=kindOf y.over:=z2;have vB:yf=if y.over=0 then 0 else 1+y.over:=yy
  refine bn ?_;apply K.cond<;>intro g6
  ·refine bn ?_;simp only[g5,Bool.true_eq_false,if_false];rw[if_pos (.inl ⟨g1,.inl (by rw[vB,if_pos g6])⟩)];exact dv
  rw[if_neg g6] at vB;refine bn ?_;apply K.cond<;>intro g7;rotate_left
  ·refine bn ?_;simp only[g5,Bool.true_eq_false,if_false];rw[if_pos (.inl ⟨g1,.inr (by omega)⟩)];exact dv
  refine bn ?_;refine K.call (Hs y.scalar bo (by omega)) ?_;rintro _ _ ⟨rfl,rfl⟩;refine bn ?_;simp only[g5,Bool.true_eq_false,if_false,yx];rw[if_neg (by omega)];exact dv
 have hi:x.op=9→sG x k s=if k=1 then (1,0) else (0,9):=by
  intro e;rw[sG,e];show o.mM _ [k]=_;rw[Vb];simp
 have jM:x.op=10→sG x k s=if k=0 then (0,0) else (0,9):=by
  intro e;rw[sG,e];show o.mM _ [k]=_;rw[Vb];simp
 (repeat' (refine bn ?_;first | (refine K.cond (fun _=>?_) (fun _=>?_)<;>try (exfalso;omega)) | refine K.dO (fun _=>?_) (fun _=>?_)))<;>try refine bn ?_
 all_goals
  refine⟨?_,fK⟩;rcases l4 with e | e | e
  ·exact absurd e g1
  ·rw[hi e];split<;>first | rfl | (exfalso;omega)
  ·rw[jM e];split<;>first | rfl | (exfalso;omega)
def EX(op a b:Int):Int×Int:=match o.hP op with | some ak=>o.mM ak [a,b] | none=>(0,9)
theorem aii(op a b:Int)(w:World)(l4:11≤op∧op≤19) :
  bw Tryz.prog F.DS #[.int .i64 op,.int .i64 a,.int .i64 b] w fun v w'=>v = .tuple #[.int .i64 (EX op a b).1,.int .i64 (EX op a b).2]∧w'=w:=by
 have key:EX op a b=if a≠b then (0,9) else if op=14∨op=15 then (1,0) else if op=18∨op=19 then (if a=1 then (1,0) else (0,9)) else if op=16∨op=17 then (if a=0 then (1,0) else (0,9)) else (if a=0 then (0,0) else (0,9)):=by
  have aw:op=11∨op=12∨op=13∨op=14∨op=15∨op=16∨op=17∨op=18∨op=19:=by omega
  rcases aw with e | e | e | e | e | e | e | e | e<;>subst e <;> (show o.mM _ [a,b]=_)<;>rw[afo]<;>by_cases CD:a=b<;>simp[CD,o.yh]
 refine bP E.DS ?_;refine bM ?_
 (repeat' (refine bn ?_;first | (refine K.cond (fun _=>?_) (fun _=>?_)<;>try (exfalso;omega)) | refine K.dO (fun _=>?_) (fun _=>?_)))<;>try refine bn ?_
 all_goals
  refine⟨?_,bf⟩;rw[key]
  (repeat' split)<;>first | rfl | (exfalso;omega)
end Go.Proofs.R
end
section
set_option linter.unusedSimpArgs false
namespace Go.Proofs.R
open Go Go.RowKit bt
theorem abe{s:o.Scope}{x:o.Node}{st:List Int}(h:o.fH x.op=0):o.eY s x st=o.ie x s (st.getLastD 0):=by
 unfold o.eY;rw[(VH h).2.2.2]
theorem abf{s:o.Scope}{x:o.Node}{st:List Int}(h:o.fH x.op=1)(a1:1≤st.length):o.eY s x st=sG x st[st.length - 1] s:=by
 unfold o.eY sG;cases aZ:o.hP x.op with
 | none=>simp only;rw[SA st (by omega)]
 | some ak =>
  have:=(o.HJ aZ).1
  simp only;rw[show ak.parts.toNat=1 from by omega,RI a1]
theorem abg{s:o.Scope}{x:o.Node}{st:List Int}(h:o.fH x.op=2)(a1:2≤st.length):o.eY s x st=EX x.op st[st.length - 2] st[st.length - 1]:=by
 unfold o.eY EX;obtain⟨ak,aZ,aW⟩:=agE (show 9≤x.op∧x.op≤19 by have:=VI h;omega);rw[aZ];simp only;rw[show ak.parts.toNat=2 from by omega,aak a1]
theorem Wj(hV:Value)(e:List o.Node)(cs:List Value)(s:o.Scope)(w:World)(he:o.fY w hV e)(h:o.fm w cs s) :
  bw Tryz.prog F.Am #[hV,.agg cs.toArray] w fun v w'=>v = .tuple #[.int .i64 (o.kind e s).1,.int .i64 (o.kind e s).2]∧Ext w w':=by
 obtain⟨v0,v1,v2,v3,v4,rfl,_⟩:=h.ex;obtain⟨bm,cap,rfl,hlen⟩:=he.form;refine bP E.Am ?_;refine bM ?_;refine bn ?_;refine K.new fun aq dr xL aC ar=>?_;refine bn ?_;apply K.cond<;>intro g1
 ·refine bn ?_;rw[o.kind,o.nt,if_pos (by omega)];exact dv
 refine bn ?_;apply K.cond<;>intro g2
 ·refine bn ?_;rw[o.kind,o.nt,if_neg (by omega),if_pos (by omega)];exact dv
 refine bn ?_;refine K.Cs 7 e.length (fun k S w' => ∃v st,S 6=v∧qC aq.heap.size w' v st∧o.fP (o.eY s) (e.take k) []=(0,st)∧(0<k→1≤st.length)∧st.length≤12∧Ext aq w')
  (by simp -dsimp only[c6,cA,Nat.reduceAdd,Nat.reduceEqDiff,reduceIte,reduceCtorEq,de]) ⟨.slice none 0 0,[],by simp -dsimp only[c6,cA,Nat.reduceAdd,Nat.reduceEqDiff,reduceIte,reduceCtorEq,de],bg.nil _ _ _ _ _,by simp[o.fP],by simp,by simp,Ext.refl _⟩ ?_
 rintro k S aU cm hk cO ⟨v6,st,bY,gM,iy,JX,qZ,aA⟩;have ao:=cm 0 rfl;have ah:=cm 3 rfl;simp only[b6,Nat.reduceAdd,Nat.reduceEqDiff,reduceIte,jr,my] at ao ah;clear cm;obtain⟨yd,u2,rfl,b5,p9⟩:=gM.form;have af:Ints aU _ st:=bg.od (enc:=encI) (sz:=1) (fun _=>rfl) gM;unfold maxLen at p9;refine eG (And.intro ao (And.intro ah (And.intro bY cO))) ?_;apply K.cond<;>intro g3;rotate_left
 ·have br:k=e.length:=by omega
  subst br;rw[List.take_length] at iy;have h1:=JX (by omega);obtain⟨a,rfl⟩:=af.addr h1;have ga:o.kind e s=if st.length > 1 then (0,5) else (st.headD 0,0):=by
   rw[o.kind,o.nt,if_neg (by omega),if_neg (by omega),iy,if_neg (by simp)]
  rw[ga];clear ga;refine eG (And.intro ao (And.intro ah (And.intro bY cO))) ?_;apply K.cond<;>intro g4
  ·refine bn ?_;rw[if_pos (by omega)];exact dv
  ·refine eG (And.intro ao (And.intro ah (And.intro bY cO))) ?_;refine K.dx 0 rfl (by omega) ?_;refine bn ?_;rw[if_neg (by omega)]
   have:st.headD 0=st[0]:=by
    cases st with
    | nil=>simp at h1
    | cons z st=>rfl
   rw[this];exact dv
 have br:k<e.length:=by omega
 obtain⟨a,rfl⟩:=he.addr (by omega);have mK:=(he.at k br).ok;have jS:=fun ao=>o.Wy (f:=o.eY s) (e:=e) (by omega) br iy ao;have z1:=o.EC br iy;have SD:=aC.trans aA;have eZ:=aA.obj ar;refine eG (And.intro ao (And.intro ah (And.intro bY cO))) ?_;refine K.call (ajf e[k].op aU) ?_;rintro _ _ ⟨rfl,rfl⟩;generalize aH:o.fH e[k].op=n at *;have js : -1≤n∧n≤2:=by rw[←aH];unfold o.fH; (repeat' split)<;>omega
 refine eG (And.intro ao (And.intro ah (And.intro bY cO))) ?_;apply K.cond<;>intro g4
 ·have aG:o.stepG (o.eY s) e[k] st=(3,st):=by unfold o.stepG;rw[aH,if_pos g4]
  rw[aG] at jS;refine bn ?_;rw[o.kind,jS (by simp)];exact dv
 refine eG (And.intro ao (And.intro ah (And.intro bY cO))) ?_;apply K.cond<;>intro g5
 ·have aG:o.stepG (o.eY s) e[k] st=(4,st):=by unfold o.stepG;rw[aH,if_neg g4,if_pos g5]
  rw[aG] at jS;refine bn ?_;rw[o.kind,jS (by simp)];exact dv
 obtain⟨p,rfl⟩:=Int.eq_ofNat_of_zero_le (show 0≤n by omega);have hz:o.stepG (o.eY s) e[k] st=if (o.eY s e[k] st).2≠0 then ((o.eY s e[k] st).2,st) else if (st.take (st.length - p)++[(o.eY s e[k] st).1]).length > 12 then (12,st) else (0,st.take (st.length - p)++[(o.eY s e[k] st).1]):=by
  unfold o.stepG;rw[aH,if_neg g4,if_neg g5];simp only[Int.toNat_natCast]
 have k3:(st.take (st.length - p)++[(o.eY s e[k] st).1]).length=st.length - p+1:=by simp[List.length_take]
 rw[k3] at hz;have fin:p=0∨p=1∨p=2:=by omega
 rcases fin with G9 | G9 | G9
 ·have aT:=abe (s:=s) (st:=st) (x:=e[k]) (by omega);obtain⟨fC,z2,z3,z4⟩:=VH (x:=e[k].op) (by omega);refine eG (And.intro ao (And.intro ah (And.intro bY cO))) ?_;refine K.gX (c:=[_,_,_,_,_,_]) eZ (Ext.refl _) rfl ?_;refine eG (And.intro ao (And.intro ah (And.intro bY cO))) ?_;refine K.gm _ (fun w' e'=>ah4 e[k] _ s w' mK (h.ext (SD.trans e')) ⟨fC,z2⟩ z3 (st.getLastD 0)) ?_;rw[←aT];refine eG (And.intro ao (And.intro ah (And.intro bY cO))) ?_;intro aY ax;refine eG (And.intro ao (And.intro ah (And.intro bY cO))) ?_;apply K.cond<;>intro g6;rotate_left
  ·rw[if_pos g6] at hz;refine bn ?_;rw[o.kind,jS (by rw[hz];exact g6),hz];exact dv
  rw[if_neg (by simpa using g6)] at hz;have gT:=gM.ext ax;refine eG (And.intro ao (And.intro ah (And.intro bY cO))) ?_;refine K.oy (cs:=[]) (by simp[List.range,List.range.loop,e4]) fun bo db gw aF bH=>?_;have z12:=aA.size;have z23:=ax.size;have NQ:=aF.size;have Cv:qC aq.heap.size bo (.slice (some ⟨db,0,none⟩) 0 0) []:=bg.empty (by omega) bH;have fu:=gT.ext aF;have eF:qC aq.heap.size bo (.slice _ (st.length - p) _) (st.take (st.length - p)):=bg.head (enc:=encI) (sz:=1) (xs:=st) (fun _=>rfl) fu (st.length - p) (Nat.sub_le _ _);have cB:(st.take (st.length - p)).length=st.length - p:=by simp[List.length_take]
  refine eG (And.intro ao (And.intro ah (And.intro bY cO))) ?_;refine K.yi (st.length - p) (by refine cb bY ?_;first | rfl | (congr 1;omega)) (by omega) ?_;refine bn ?_;refine K.yZ (xs:=[]) (ys:=st.take (st.length - p)) Cv eF (fun _=>rfl) zn (by rw[cB];simp only[List.length_nil];omega) (by rw[cB];simp only[List.length_nil,maxLen];omega) (by omega) fun v5 bD vE l1=>?_;have vv:Ext aY bD:=aF.grown l1 fun q aR=>by simp[Value.ownBlock] at aR;omega
  rw[List.nil_append] at vE;have z35:=vv.size;refine bn ?_;refine K.oy (cs:=[(o.eY s e[k] st).1].flatMap encI) (by simp[List.range,List.range.loop,e4,lay,fD,b6,Value.cells,encI]) fun bQ dY eK aN b5=>?_;have NR:=aN.size;have et:=vE.ext aN;refine bn ?_;refine K.yX (xs:=st.take (st.length - p)) (ys:=[(o.eY s e[k] st).1]) et (fun _=>rfl) (h4 b5) rfl zn (by rw[cB];simp only[List.length_cons,List.length_nil];omega) (by rw[cB];simp only[List.length_cons,List.length_nil,maxLen];omega) (by omega) fun NA cd eR ix=>?_;have bC:Ext aq cd:=Ext.grown (((aA.trans ax).trans vv).trans aN) ix fun q aR=>(et.lt q aR).1;obtain⟨VO,rT,rfl,_⟩:=eR.form;rw[k3] at eR ⊢;by_cases g7:12<st.length - p+1
  ·rw[if_pos (by omega)] at hz
   first
    | (exfalso;omega)
    | (refine bn ?_
       rw[o.kind,jS (by rw[hz];simp),hz];exact⟨bf,aC.trans bC⟩)
  rw[if_neg (by omega)] at hz;refine eG cO ?_;refine⟨br,bf,_,_,rfl,eR,by rw[z1,hz],fun _=>by rw[k3];omega,by rw[k3];omega,bC⟩
 ·have aT:=abf (s:=s) (st:=st) (x:=e[k]) (by omega) (by omega);obtain⟨nc,rfl⟩:=af.addr (by omega);refine eG (And.intro ao (And.intro ah (And.intro bY cO))) ?_;refine K.dx (st.length - 1) (by omega) (by omega) ?_;refine eG (And.intro ao (And.intro ah (And.intro bY cO))) ?_;refine K.gX (c:=[_,_,_,_,_,_]) eZ (Ext.refl _) rfl ?_;refine eG (And.intro ao (And.intro ah (And.intro bY cO))) ?_;refine K.gm _ (fun w' e'=>aia e[k] _ _ s w' (h.ext (SD.trans e')) (agn (by omega))) ?_;rw[←aT];refine eG (And.intro ao (And.intro ah (And.intro bY cO))) ?_;intro aY ax;refine eG (And.intro ao (And.intro ah (And.intro bY cO))) ?_;apply K.cond<;>intro g6;rotate_left
  ·rw[if_pos g6] at hz;refine bn ?_;rw[o.kind,jS (by rw[hz];exact g6),hz];exact dv
  rw[if_neg (by simpa using g6)] at hz;have gT:=gM.ext ax;refine eG (And.intro ao (And.intro ah (And.intro bY cO))) ?_;refine K.oy (cs:=[]) (by simp[List.range,List.range.loop,e4]) fun bo db gw aF bH=>?_;have z12:=aA.size;have z23:=ax.size;have NQ:=aF.size;have Cv:qC aq.heap.size bo (.slice (some ⟨db,0,none⟩) 0 0) []:=bg.empty (by omega) bH;have fu:=gT.ext aF;have eF:qC aq.heap.size bo (.slice _ (st.length - p) _) (st.take (st.length - p)):=bg.head (enc:=encI) (sz:=1) (xs:=st) (fun _=>rfl) fu (st.length - p) (Nat.sub_le _ _);have cB:(st.take (st.length - p)).length=st.length - p:=by simp[List.length_take]
  refine eG (And.intro ao (And.intro ah (And.intro bY cO))) ?_;refine K.yi (st.length - p) (by refine cb bY ?_;first | rfl | (congr 1;omega)) (by omega) ?_;refine bn ?_;refine K.yZ (xs:=[]) (ys:=st.take (st.length - p)) Cv eF (fun _=>rfl) zn (by rw[cB];simp only[List.length_nil];omega) (by rw[cB];simp only[List.length_nil,maxLen];omega) (by omega) fun v5 bD vE l1=>?_;have vv:Ext aY bD:=aF.grown l1 fun q aR=>by simp[Value.ownBlock] at aR;omega
  rw[List.nil_append] at vE;have z35:=vv.size;refine bn ?_;refine K.oy (cs:=[(o.eY s e[k] st).1].flatMap encI) (by simp[List.range,List.range.loop,e4,lay,fD,b6,Value.cells,encI]) fun bQ dY eK aN b5=>?_;have NR:=aN.size;have et:=vE.ext aN;refine bn ?_;refine K.yX (xs:=st.take (st.length - p)) (ys:=[(o.eY s e[k] st).1]) et (fun _=>rfl) (h4 b5) rfl zn (by rw[cB];simp only[List.length_cons,List.length_nil];omega) (by rw[cB];simp only[List.length_cons,List.length_nil,maxLen];omega) (by omega) fun NA cd eR ix=>?_;have bC:Ext aq cd:=Ext.grown (((aA.trans ax).trans vv).trans aN) ix fun q aR=>(et.lt q aR).1;obtain⟨VO,rT,rfl,_⟩:=eR.form;rw[k3] at eR ⊢;by_cases g7:12<st.length - p+1
  ·rw[if_pos (by omega)] at hz
   first
    | (exfalso;omega)
    | (refine bn ?_
       rw[o.kind,jS (by rw[hz];simp),hz];exact⟨bf,aC.trans bC⟩)
  rw[if_neg (by omega)] at hz;refine eG cO ?_;refine⟨br,bf,_,_,rfl,eR,by rw[z1,hz],fun _=>by rw[k3];omega,by rw[k3];omega,bC⟩
 ·have aT:=abg (s:=s) (st:=st) (x:=e[k]) (by omega) (by omega);obtain⟨nc,rfl⟩:=af.addr (by omega);refine eG (And.intro ao (And.intro ah (And.intro bY cO))) ?_;refine K.dx (st.length - 2) (by omega) (by omega) ?_;refine eG (And.intro ao (And.intro ah (And.intro bY cO))) ?_;refine K.dx (st.length - 1) (by omega) (by omega) ?_;refine eG (And.intro ao (And.intro ah (And.intro bY cO))) ?_;refine K.gm _ (fun w' e'=>(aii e[k].op _ _ w' (VI (by omega))).mono fun v b1 h=>⟨h.1,h.2 ▸ Ext.refl _⟩) ?_;rw[←aT];refine eG (And.intro ao (And.intro ah (And.intro bY cO))) ?_;intro aY ax;refine eG (And.intro ao (And.intro ah (And.intro bY cO))) ?_;apply K.cond<;>intro g6;rotate_left
  ·rw[if_pos g6] at hz;refine bn ?_;rw[o.kind,jS (by rw[hz];exact g6),hz];exact dv
  rw[if_neg (by simpa using g6)] at hz;have gT:=gM.ext ax;refine eG (And.intro ao (And.intro ah (And.intro bY cO))) ?_;refine K.oy (cs:=[]) (by simp[List.range,List.range.loop,e4]) fun bo db gw aF bH=>?_;have z12:=aA.size;have z23:=ax.size;have NQ:=aF.size;have Cv:qC aq.heap.size bo (.slice (some ⟨db,0,none⟩) 0 0) []:=bg.empty (by omega) bH;have fu:=gT.ext aF;have eF:qC aq.heap.size bo (.slice _ (st.length - p) _) (st.take (st.length - p)):=bg.head (enc:=encI) (sz:=1) (xs:=st) (fun _=>rfl) fu (st.length - p) (Nat.sub_le _ _);have cB:(st.take (st.length - p)).length=st.length - p:=by simp[List.length_take]
  refine eG (And.intro ao (And.intro ah (And.intro bY cO))) ?_;refine K.yi (st.length - p) (by refine cb bY ?_;first | rfl | (congr 1;omega)) (by omega) ?_;refine bn ?_;refine K.yZ (xs:=[]) (ys:=st.take (st.length - p)) Cv eF (fun _=>rfl) zn (by rw[cB];simp only[List.length_nil];omega) (by rw[cB];simp only[List.length_nil,maxLen];omega) (by omega) fun v5 bD vE l1=>?_;have vv:Ext aY bD:=aF.grown l1 fun q aR=>by simp[Value.ownBlock] at aR;omega
  rw[List.nil_append] at vE;have z35:=vv.size;refine bn ?_;refine K.oy (cs:=[(o.eY s e[k] st).1].flatMap encI) (by simp[List.range,List.range.loop,e4,lay,fD,b6,Value.cells,encI]) fun bQ dY eK aN b5=>?_;have NR:=aN.size;have et:=vE.ext aN;refine bn ?_;refine K.yX (xs:=st.take (st.length - p)) (ys:=[(o.eY s e[k] st).1]) et (fun _=>rfl) (h4 b5) rfl zn (by rw[cB];simp only[List.length_cons,List.length_nil];omega) (by rw[cB];simp only[List.length_cons,List.length_nil,maxLen];omega) (by omega) fun NA cd eR ix=>?_;have bC:Ext aq cd:=Ext.grown (((aA.trans ax).trans vv).trans aN) ix fun q aR=>(et.lt q aR).1;obtain⟨VO,rT,rfl,_⟩:=eR.form;rw[k3] at eR ⊢;by_cases g7:12<st.length - p+1
  ·rw[if_pos (by omega)] at hz
   first
    | (exfalso;omega)
    | (refine bn ?_
       rw[o.kind,jS (by rw[hz];simp),hz];exact⟨bf,aC.trans bC⟩)
  rw[if_neg (by omega)] at hz;refine eG cO ?_;refine⟨br,bf,_,_,rfl,eR,by rw[z1,hz],fun _=>by rw[k3];omega,by rw[k3];omega,bC⟩
theorem AP(hV:Value)(e:List o.Node)(k:Int)(cs:List Value)(s:o.Scope)(w:World)(aH:o.fY w hV e)(h:o.fm w cs s) :
  bw Tryz.prog F.ug #[hV,.int .i64 k,.agg cs.toArray] w fun v w'=>v = .int .i64 (o.asked e k s)∧Ext w w':=by
 obtain⟨a0,bV,dG,c1,a2,c2,a3,bJ,a4,bW,rfl,_⟩:=h.form;obtain⟨bm,cap,rfl,_⟩:=aH.form;refine bP E.ug ?_;refine bM ?_;refine aa ?_;intro aq bE c8 aC ar;refine aa ?_;refine K.call (Wj _ e _ s aq (aH.ext aC) (h.ext aC)) ?_;rintro _ aU ⟨rfl,aA⟩;rw[o.asked];refine aa ?_;apply K.cond<;>intro g1;rotate_left
 ·refine aa ?_;exact⟨by rw[if_pos g1],aC.trans aA⟩
 rw[if_neg (by simpa using g1)];refine aa ?_;apply K.cond<;>intro g2;rotate_left
 ·refine aa ?_;exact⟨by rw[if_pos g2],aC.trans aA⟩
 ·refine aa ?_;exact⟨by rw[if_neg (by simpa using g2)],aC.trans aA⟩
theorem Ht(n:Int)(w:World)(h:0≤n∧n≤4611686018427387904):bw Tryz.prog F.rm #[.int .i64 n] w fun v w'=>v = .int .i64 (if n=0 then 0 else 1+n)∧w'=w:=Hs n w h
theorem My(v:Value)(l:List o.Var)(n:Int)(cs:List Value)(s:o.Scope)(w:World)(a1:o.hh w v l)(h:o.fm w cs s) :
  bw Tryz.prog F.Ap #[v,.int .i64 n,.agg cs.toArray] w fun v w'=>v = .tuple #[.int .i64 (o.ks l n s).1,.int .i64 (o.ks l n s).2]∧Ext w w':=by
 obtain⟨a0,bV,dG,c1,a2,c2,a3,bJ,a4,bW,rfl,_,_,_,_,_,eH,dB,dH,ee,ei⟩:=h.form;obtain⟨bm,cap,rfl,_⟩:=a1.form;refine bP E.Ap ?_;refine bM ?_;refine aa ?_;intro aq bE c8 aC ar;refine aa ?_;refine K.call (EE _ l n _ s aq (a1.ext aC) (h.ext aC)) ?_;rintro u aU ⟨⟨x,hu,av⟩,aA⟩;cases hk:(o.fw l n s).2.2 with
 | false =>
  rw[hk] at hu;subst hu;refine aa ?_;intro aY ch fE ax bB;refine aa ?_;exact⟨by rw[o.ks,o.Rz hk],(aC.trans aA).trans ax⟩
 | true =>
  rw[hk] at hu;subst hu;obtain⟨bx,gb,hQ,iT,kL⟩:=o.RB hk (av hk);have gU:o.ks l n s=if x.over≠0 then (0,9) else ((if x.scalar=0 then 0 else 1+x.scalar),0):=by unfold o.ks;rw[bx]
  refine aa ?_;intro aY ch fE ax bB;refine aa ?_;apply K.cond<;>intro g1
  ·rw[if_neg (by simpa using g1)] at gU;refine aa ?_;refine K.call (Ht _ aY ⟨gb,by omega⟩) ?_;rintro _ _ ⟨rfl,rfl⟩;refine aa ?_;exact⟨by rw[gU],(aC.trans aA).trans ax⟩
  ·rw[if_pos g1] at gU;refine aa ?_;exact⟨by rw[gU],(aC.trans aA).trans ax⟩
theorem ae6(a:o.Act)(cw cx:Value)(cs:List Value)(s:o.Scope)(w:World)(af:o.fY w cw a.index)(aO:o.fY w cx a.value)(h:o.fm w cs s) :
  bw Tryz.prog F.DY #[.agg (a.enc cw cx).toArray,.agg cs.toArray] w fun v w'=>v = .int .i64 (o.xV a s)∧Ext w w':=by
 obtain⟨a0,bV,dG,c1,a2,c2,a3,bJ,a4,bW,rfl,_,Ly,_,_,_,eH,dB,dH,ee,ei⟩:=h.form;obtain⟨_,_,rfl,_⟩:=af.form;obtain⟨_,_,rfl,_⟩:=aO.form;refine bP E.DY ?_;refine bM ?_;refine aa ?_;intro aq bE c8 aC ar;refine aa ?_;intro aU cp dT aA aK;replace ar:=aA.obj ar;have c0:∀{w'},Ext aU w'→Ext w w':=fun e=>(aC.trans aA).trans e;refine aa ?_;refine K.call (EE _ s.vars a.to _ s aU (Ly.ext (c0 (Ext.refl _))) (h.ext (c0 (Ext.refl _)))) ?_;rintro u aY ⟨⟨x,hu,av⟩,ax⟩;replace ar:=ax.obj ar;replace aK:=ax.obj aK;cases hk:(o.fw s.vars a.to s).2.2 with
 | false =>
  rw[hk] at hu;subst hu;refine aa ?_;intro bo db gw aF bH;refine aa ?_;exact⟨by rw[o.xV,o.Rz hk],c0 (ax.trans aF)⟩
 | true =>
  rw[hk] at hu;subst hu;obtain⟨bx,gb,hQ,iT,kL⟩:=o.RB hk (av hk);have gU:o.xV a s=if x.over=0 then 9 else if o.asked a.index (1+x.over) s≠0 then o.asked a.index (1+x.over) s else o.asked a.value (if x.scalar=0 then 0 else 1+x.scalar) s:=by unfold o.xV;rw[bx]
  refine aa ?_;intro bo db gw aF bH;replace ar:=aF.obj ar;replace aK:=aF.obj aK;have eb:∀{w'},Ext bo w'→Ext w w':=fun e=>c0 ((ax.trans aF).trans e);refine aa ?_;apply K.cond<;>intro g1
  ·rw[if_pos g1] at gU;refine aa ?_;exact⟨by rw[gU],eb (Ext.refl _)⟩
  rw[if_neg g1] at gU;refine aa ?_;refine K.call (AP _ a.index (1+x.over) _ s bo (af.ext (eb (Ext.refl _))) (h.ext (eb (Ext.refl _)))) ?_;rintro _ bD ⟨rfl,aM⟩;replace ar:=aM.obj ar;replace aK:=aM.obj aK;replace bH:=aM.obj bH;have hg:∀{w'},Ext bD w'→Ext w w':=fun e=>eb (aM.trans e);refine aa ?_;apply K.cond<;>intro g2;rotate_left
  ·rw[if_pos g2] at gU;refine aa ?_;exact⟨by rw[gU],hg (Ext.refl _)⟩
  rw[if_neg (by simpa using g2)] at gU;refine aa ?_;refine K.gm (.int .i64 (if x.scalar=0 then 0 else 1+x.scalar)) (fun w' e=>(Ht _ w' ⟨gb,by omega⟩).mono fun v b1 ea=>⟨ea.1,by rw[ea.2];exact Ext.refl _⟩) ?_;refine aa ?_;refine K.gm (.int .i64 (o.xV a s)) (fun w' e=>by rw[gU];exact AP _ a.value _ _ s w' (aO.ext (hg e)) (h.ext (hg e))) ?_;refine aa ?_;intro bQ aN;refine aa ?_;exact⟨bf,hg aN⟩
theorem Wd(a:o.Act)(comm:Bool)(cw cx:Value)(cs:List Value)(s:o.Scope)(w:World)(af:o.fY w cw a.index)(aO:o.fY w cx a.value)(h:o.fm w cs s) :
  bw Tryz.prog F.DX #[.agg (a.enc cw cx).toArray,.agg cs.toArray,.bool comm] w fun v w'=>v = .int .i64 (o.ku a s comm)∧Ext w w':=by
 obtain⟨a0,bV,dG,c1,a2,c2,a3,bJ,a4,bW,rfl,_,Ly,_,_,j7,eH,dB,dH,ee,ei⟩:=h.form;obtain⟨_,_,rfl,_⟩:=af.form;obtain⟨_,_,rfl,_⟩:=aO.form;refine bP E.DX ?_;refine bM ?_;refine aa ?_;intro aq bE c8 aC ar;refine aa ?_;intro aU cp dT aA aK;replace ar:=aA.obj ar;have c0:∀{w'},Ext aU w'→Ext w w':=fun e=>(aC.trans aA).trans e;refine aa ?_;apply K.cond<;>intro g1
 ·refine aa ?_;exact⟨by rw[o.ku,if_pos (.inl g1)],c0 (Ext.refl _)⟩
 refine aa ?_;apply K.cond<;>intro g2
 ·refine aa ?_;exact⟨by rw[o.ku,if_pos (.inr g2)],c0 (Ext.refl _)⟩
 have qZ:¬(a.kind<1∨5<a.kind):=by omega
 refine aa ?_;apply K.cond<;>intro g3
 ·refine aa ?_;refine K.call (ae6 a _ _ _ s aU (af.ext (c0 (Ext.refl _))) (aO.ext (c0 (Ext.refl _))) (h.ext (c0 (Ext.refl _)))) ?_;rintro _ aY ⟨rfl,ax⟩;refine aa ?_;exact⟨by rw[o.ku,if_neg qZ,if_pos g3],c0 ax⟩
 refine aa ?_;apply K.cond<;>intro g4
 ·have bd:o.ku a s comm=if (o.ks s.vars a.to s).2≠0 then (o.ks s.vars a.to s).2 else o.asked a.value (o.ks s.vars a.to s).1 s:=by
   rw[o.ku,if_neg qZ,if_neg g3,if_pos (.inl g4)];simp only[if_neg (by omega:¬a.kind=3)]
  refine aa ?_;refine K.call (My _ s.vars a.to _ s aU (Ly.ext (c0 (Ext.refl _))) (h.ext (c0 (Ext.refl _)))) ?_;rintro _ aY ⟨rfl,ax⟩;replace ar:=ax.obj ar;replace aK:=ax.obj aK;refine aa ?_;apply K.cond<;>intro g5;rotate_left
  ·rw[if_pos g5] at bd;refine aa ?_;exact⟨by rw[bd],c0 ax⟩
  rw[if_neg (by simpa using g5)] at bd;refine aa ?_;refine K.call (AP _ a.value _ _ s aY (aO.ext (c0 ax)) (h.ext (c0 ax))) ?_;rintro _ bo ⟨rfl,aF⟩;refine aa ?_;exact⟨by rw[bd],c0 (ax.trans aF)⟩
 refine aa ?_;apply K.cond<;>intro g5
 ·have bd:o.ku a s comm=if (o.ks s.locals a.to s).2≠0 then (o.ks s.locals a.to s).2 else o.asked a.value (o.ks s.locals a.to s).1 s:=by
   rw[o.ku,if_neg qZ,if_neg g3,if_pos (.inr g5)];simp only[if_pos g5]
  refine aa ?_;refine K.call (My _ s.locals a.to _ s aU (j7.ext (c0 (Ext.refl _))) (h.ext (c0 (Ext.refl _)))) ?_;rintro _ aY ⟨rfl,ax⟩;replace ar:=ax.obj ar;replace aK:=ax.obj aK;refine aa ?_;apply K.cond<;>intro g5;rotate_left
  ·rw[if_pos g5] at bd;refine aa ?_;exact⟨by rw[bd],c0 ax⟩
  rw[if_neg (by simpa using g5)] at bd;refine aa ?_;refine K.call (AP _ a.value _ _ s aY (aO.ext (c0 ax)) (h.ext (c0 ax))) ?_;rintro _ bo ⟨rfl,aF⟩;refine aa ?_;exact⟨by rw[bd],c0 (ax.trans aF)⟩
 have xg:¬(a.kind=1∨a.kind=3):=by omega
 refine aa ?_;refine K.dO (fun g6=>?_) (fun g6=>?_)
 ·refine aa ?_;exact⟨by rw[o.ku,if_neg qZ,if_neg g3,if_neg xg,if_pos g6],c0 (Ext.refl _)⟩
 refine aa ?_;refine K.call (We a.to _ s aU (h.ext (c0 (Ext.refl _)))) ?_;rintro u aY ⟨⟨x,hu,av⟩,ax⟩;replace ar:=ax.obj ar;replace aK:=ax.obj aK;by_cases hk:(o.ju a.to s).2=0;rotate_left
 ·rw[decide_eq_false hk] at hu;subst hu;refine aa ?_;intro bo db gw aF bH;refine aa ?_;exact⟨by rw[o.ku,if_neg qZ,if_neg g3,if_neg xg,if_neg (by simp[g6]),o.ZK hk],c0 (ax.trans aF)⟩
 rw[decide_eq_true hk] at hu;subst hu;obtain⟨bx,gb,hQ⟩:=o.ZM hk (av hk);have bd:o.ku a s comm=if a.kind=4 then o.asked a.value (if x.scalar=0 then 0 else 1+x.scalar) s else if (o.ks s.locals a.loc s).2≠0 then (o.ks s.locals a.loc s).2 else if (o.ks s.locals a.loc s).1≠(if x.scalar=0 then 0 else 1+x.scalar) then 9 else 0:=by
  rw[o.ku,if_neg qZ,if_neg g3,if_neg xg,if_neg (by simp[g6]),bx]
 refine aa ?_;intro bo db gw aF bH;replace ar:=aF.obj ar;replace aK:=aF.obj aK;have eb:∀{w'},Ext bo w'→Ext w w':=fun e=>c0 ((ax.trans aF).trans e);refine aa ?_;apply K.cond<;>intro g7
 ·rw[if_pos g7] at bd;refine aa ?_;refine K.gm (.int .i64 (if x.scalar=0 then 0 else 1+x.scalar)) (fun w' e=>(Ht _ w' ⟨gb,by omega⟩).mono fun v b1 ea=>⟨ea.1,by rw[ea.2];exact Ext.refl _⟩) ?_;refine aa ?_;refine K.gm (.int .i64 (o.ku a s comm)) (fun w' e=>by rw[bd];exact AP _ a.value _ _ s w' (aO.ext (eb e)) (h.ext (eb e))) ?_;refine aa ?_;intro bQ aN;refine aa ?_;exact⟨bf,eb aN⟩
 rw[if_neg g7] at bd;refine aa ?_;refine K.call (My _ s.locals a.loc _ s bo (j7.ext (eb (Ext.refl _))) (h.ext (eb (Ext.refl _)))) ?_;rintro _ bD ⟨rfl,aM⟩;replace bH:=aM.obj bH;refine aa ?_;apply K.cond<;>intro g8;rotate_left
 ·rw[if_pos g8] at bd;refine aa ?_;exact⟨by rw[bd],eb aM⟩
 rw[if_neg (by simpa using g8)] at bd;refine aa ?_;refine K.call (Ht _ bD ⟨gb,by omega⟩) ?_;rintro _ _ ⟨rfl,rfl⟩;refine aa ?_;apply K.cond<;>intro g9
 ·rw[if_neg (by simpa using g9)] at bd;refine aa ?_;exact⟨by rw[bd],eb aM⟩
 ·rw[if_pos g9] at bd;refine aa ?_;exact⟨by rw[bd],eb aM⟩
end Go.Proofs.R
end
section
namespace o
theorem QU{s:Scope}{a:Act}{k:Nat}{b:Bool}{Z:Int×Int}:(if hs a&&b then ((2+(k:Int)),(7:Int)) else if jF a s≠0 then (2+(k:Int),jF a s) else Z)=if ku a s b≠0 then (2+(k:Int),ku a s b) else Z:=by
 rw[ahz];by_cases h:(hs a&&b)=true
 ·simp[h]
 ·simp[h]
end o
namespace Go.Proofs.R
open Go Go.RowKit bt
theorem ahC(c:o.dL)(fV va:Value)(p:o.dt)(n3 pC:Value)(cs:List Value)(s:o.Scope)(w:World)(aH:o.hE c.name)(aV:o.fY w fV c.guard)(bu:o.oi w va c.cn)
  (aO:o.hh w n3 p.vars)(aw:o.om w pC p.cE)(h:o.fm w cs s) :
  bw Tryz.prog F.DW #[.agg (c.enc fV va).toArray,.agg (p.enc n3 pC).toArray,.agg cs.toArray] w fun v w' =>
   v = .tuple #[.int .i64 (o.iJ c p.cW s).1,.int .i64 (o.iJ c p.cW s).2]∧Ext w w':=by
 obtain⟨a0,bV,dG,c1,a2,c2,a3,bJ,a4,bW,rfl,_⟩:=h.form;obtain⟨bm,cap,rfl,hlen⟩:=bu.form;obtain⟨hq,Zn,rfl,adX⟩:=aV.form;obtain⟨_,_,rfl,_⟩:=aO.form;obtain⟨_,_,rfl,_⟩:=aw.form;refine bP E.DW ?_;refine bM ?_;refine aa ?_;intro aq bE c8 aC ar;refine aa ?_;intro aU cp dT aA aK;refine aa ?_;intro aY ch fE ax bB;replace ar:=(aA.trans ax).obj ar;replace aK:=ax.obj aK;have eT:∀{w'},Ext aY w'→Ext w w':=fun e=>((aC.trans aA).trans ax).trans e;refine aa ?_;refine K.call (AR c.name aY aH) ?_;rintro u bo ⟨hu,aF⟩;replace ar:=aF.obj ar;replace aK:=aF.obj aK;replace bB:=aF.obj bB;have eb:∀{w'},Ext bo w'→Ext w w':=fun e=>eT (aF.trans e);have bx:∀n,o.head c p.cW=n→n≠0→o.iJ c p.cW s=(0,n):=fun n e ao=>by unfold o.iJ;rw[e,if_pos ao]
 cases fp:o.isName c.name with
 | false =>
  rw[fp] at hu;subst hu;refine aa ?_;exact⟨by rw[bx 6 (by unfold o.head;rw[if_pos fp]) (by decide)],eb (Ext.refl _)⟩
 | true =>
  rw[fp] at hu;subst hu;have pv:¬o.isName c.name=false:=by rw[fp];simp
  refine aa ?_;apply K.cond<;>intro g1
  ·refine aa ?_;exact⟨by rw[bx 10 (by unfold o.head;rw[if_neg pv,if_pos (by omega)]) (by decide)],eb (Ext.refl _)⟩
  refine aa ?_;apply K.cond<;>intro g2
  ·refine aa ?_;exact⟨by rw[bx 10 (by unfold o.head;rw[if_neg pv,if_pos (by omega)]) (by decide)],eb (Ext.refl _)⟩
  refine aa ?_;apply K.cond<;>intro g3
  ·refine aa ?_;exact⟨by rw[bx 10 (by unfold o.head;rw[if_neg pv,if_pos (by omega)]) (by decide)],eb (Ext.refl _)⟩
  refine aa ?_;apply K.cond<;>intro g4
  ·refine aa ?_;exact⟨by rw[bx 10 (by unfold o.head;rw[if_neg pv,if_pos (by omega)]) (by decide)],eb (Ext.refl _)⟩
  have jR:¬(c.from_<0∨p.cW≤c.from_∨c.to<0∨p.cW≤c.to):=by omega
  refine aa ?_;apply K.cond<;>intro g5
  ·refine aa ?_;exact⟨by rw[bx 11 (by unfold o.head;rw[if_neg pv,if_neg jR,if_pos (by omega)]) (by decide)],eb (Ext.refl _)⟩
  have sm:o.iJ c p.cW s=if c.guard.length > 0∧o.asked c.guard 1 s≠0 then (1,o.asked c.guard 1 s) else o.jZ s c.cn 0 false:=by
   unfold o.iJ;rw[if_neg];unfold o.head;rw[if_neg pv,if_neg jR,if_neg (by omega)];simp
  clear bx;refine aa ?_;apply K.cond<;>intro g6
  ·refine aa ?_;refine K.call (AP _ c.guard 1 _ s bo (aV.ext (eb (Ext.refl _))) (h.ext (eb (Ext.refl _)))) ?_;rintro _ bD ⟨rfl,aM⟩;replace ar:=aM.obj ar;replace bB:=aM.obj bB;have hg:∀{w'},Ext bD w'→Ext w w':=fun e=>eb (aM.trans e);refine aa ?_;apply K.cond<;>intro g7;rotate_left
   ·rw[if_pos ⟨by omega,g7⟩] at sm;refine aa ?_;exact⟨by rw[sm],hg (Ext.refl _)⟩
   have bd:o.iJ c p.cW s=o.jZ s c.cn 0 false:=by rw[sm,if_neg (fun ea=>ea.2 (by simpa using g7))]
   refine aa ?_;refine K.cR 10 c.cn.length [3,4,5] (fun b=>[(9,.bool b)]) false (fun k b w'=>Ext bD w'∧o.jZ s c.cn 0 false=o.jZ s (c.cn.drop k) k b) bp bp ⟨Ext.refl _,by simp⟩ ?_;rintro k b S bQ hk ⟨aN,bs⟩;replace ar:=aN.obj ar;replace bB:=aN.obj bB;refine aa ?_;apply K.cond<;>intro g1
   ·have br:k<c.cn.length:=by omega
    obtain⟨a,rfl⟩:=bu.addr (by omega);obtain⟨cw,cx,iw,fq,rk⟩:=bu.at k br;obtain⟨_,_,rfl,_⟩:=fq.form;obtain⟨_,_,rfl,_⟩:=rk.form;rw[o.IY br,o.QU] at bs;replace iw:=iw.ext (hg (Ext.refl _));refine aa ?_;refine K.gm (.int .i64 (o.ku c.cn[k] s b)) (fun w' e=>Wd c.cn[k] b _ _ _ s w' (fq.ext (hg (aN.trans e))) (rk.ext (hg (aN.trans e))) (h.ext (hg (aN.trans e)))) ?_;refine aa ?_;intro cd bC;replace ar:=bC.obj ar;replace bB:=bC.obj bB;refine aa ?_;apply K.cond<;>intro g2;rotate_left
    ·rw[if_pos g2] at bs;refine aa ?_;exact⟨by rw[bd,bs],hg (aN.trans bC)⟩
    rw[if_neg (by simpa using g2)] at bs;refine aa ?_;refine K.dO (fun g3=>?_) (fun g3=>?_)
    ·subst g3;refine aa ?_;exact⟨br,bf,true,bp,aN.trans bC,by simpa using bs⟩
    subst g3;refine aa ?_;apply K.cond<;>intro g4
    ·have aL:o.hs c.cn[k]=true:=by unfold o.hs;rw[decide_eq_true_eq];omega
     refine aa ?_;exact⟨br,bf,true,bp,aN.trans bC,by simpa[aL] using bs⟩
    have aL:o.hs c.cn[k]=decide (c.cn[k].kind=5):=by unfold o.hs;rw[Bool.eq_iff_iff,decide_eq_true_eq,decide_eq_true_eq];omega
    rw[Bool.false_or,aL] at bs;refine aa ?_;exact⟨br,bf,decide (c.cn[k].kind=5),bp,aN.trans bC,bs⟩
   ·rw[List.drop_eq_nil_of_le (by omega)] at bs;refine aa ?_;exact⟨by rw[bd,bs];rfl,hg aN⟩
  ·have bd:o.iJ c p.cW s=o.jZ s c.cn 0 false:=by rw[sm,if_neg (fun ea=>g6 (by omega))]
   refine aa ?_;refine K.cR 10 c.cn.length [3,4,5] (fun b=>[(9,.bool b)]) false (fun k b w'=>Ext bo w'∧o.jZ s c.cn 0 false=o.jZ s (c.cn.drop k) k b) bp bp ⟨Ext.refl _,by simp⟩ ?_;rintro k b S bQ hk ⟨aN,bs⟩;replace ar:=aN.obj ar;replace bB:=aN.obj bB;refine aa ?_;apply K.cond<;>intro g1
   ·have br:k<c.cn.length:=by omega
    obtain⟨a,rfl⟩:=bu.addr (by omega);obtain⟨cw,cx,iw,fq,rk⟩:=bu.at k br;obtain⟨_,_,rfl,_⟩:=fq.form;obtain⟨_,_,rfl,_⟩:=rk.form;rw[o.IY br,o.QU] at bs;replace iw:=iw.ext (eb (Ext.refl _));refine aa ?_;refine K.gm (.int .i64 (o.ku c.cn[k] s b)) (fun w' e=>Wd c.cn[k] b _ _ _ s w' (fq.ext (eb (aN.trans e))) (rk.ext (eb (aN.trans e))) (h.ext (eb (aN.trans e)))) ?_;refine aa ?_;intro cd bC;replace ar:=bC.obj ar;replace bB:=bC.obj bB;refine aa ?_;apply K.cond<;>intro g2;rotate_left
    ·rw[if_pos g2] at bs;refine aa ?_;exact⟨by rw[bd,bs],eb (aN.trans bC)⟩
    rw[if_neg (by simpa using g2)] at bs;refine aa ?_;refine K.dO (fun g3=>?_) (fun g3=>?_)
    ·subst g3;refine aa ?_;exact⟨br,bf,true,bp,aN.trans bC,by simpa using bs⟩
    subst g3;refine aa ?_;apply K.cond<;>intro g4
    ·have aL:o.hs c.cn[k]=true:=by unfold o.hs;rw[decide_eq_true_eq];omega
     refine aa ?_;exact⟨br,bf,true,bp,aN.trans bC,by simpa[aL] using bs⟩
    have aL:o.hs c.cn[k]=decide (c.cn[k].kind=5):=by unfold o.hs;rw[Bool.eq_iff_iff,decide_eq_true_eq,decide_eq_true_eq];omega
    rw[Bool.false_or,aL] at bs;refine aa ?_;exact⟨br,bf,decide (c.cn[k].kind=5),bp,aN.trans bC,bs⟩
   ·rw[List.drop_eq_nil_of_le (by omega)] at bs;refine aa ?_;exact⟨by rw[bd,bs];rfl,eb aN⟩
theorem aif(p:o.dt)(Ep cs:List Value)(s:o.Scope)(w:World)(aW:o.uW w Ep p)(h:o.fm w cs s)(aV:s.cG)(nr:p.cG) :
  bw Tryz.prog F.DZ #[.agg Ep.toArray,.agg cs.toArray] w fun v w'=>v = .tuple #[.int .i64 (o.gY p s).1,.int .i64 (o.gY p s).2.1,.int .i64 (o.gY p s).2.2]∧Ext w w':=by
 obtain⟨a0,bV,dG,c1,a2,c2,a3,d3,a4,d4,rfl,ao,h1,U,ah,aJ,eH,dB,dH,ee,ei⟩:=h.form;obtain⟨aH,n3,pC,rfl,aO,nT⟩:=aW;obtain⟨cr,bJ,rfl,iA⟩:=aO.form;obtain⟨cC,bW,rfl,lc⟩:=nT.form;refine bP E.DZ ?_;refine bM ?_;refine aa ?_;intro aq bE c8 aC ar;refine aa ?_;intro aU cp dT aA aK;replace ar:=aA.obj ar;have c0:∀{w'},Ext aU w'→Ext w w':=fun e=>(aC.trans aA).trans e;refine aa ?_;refine K.call (AR p.name aU aH) ?_;rintro u aY ⟨hu,ax⟩;replace ar:=ax.obj ar;replace aK:=ax.obj aK;have eT:∀{w'},Ext aY w'→Ext w w':=fun e=>c0 (ax.trans e);have bx:∀n,o.whole p s=n→n≠0→o.gY p s=(0,0,n):=fun n e ao=>by unfold o.gY;rw[e,if_pos ao]
 cases fp:o.isName p.name with
 | false =>
  rw[fp] at hu;subst hu;refine aa ?_;exact⟨by rw[bx 6 (by unfold o.whole;rw[if_pos fp]) (by decide)],eT (Ext.refl _)⟩
 | true =>
  rw[fp] at hu;subst hu;have pv:¬o.isName p.name=false:=by rw[fp];simp
  refine aa ?_;apply K.cond<;>intro g1
  ·refine aa ?_;exact⟨by rw[bx 8 (by unfold o.whole;rw[if_neg pv,if_pos (.inl g1)]) (by decide)],eT (Ext.refl _)⟩
  refine aa ?_;apply K.cond<;>intro g2
  ·refine aa ?_;exact⟨by rw[bx 8 (by unfold o.whole;rw[if_neg pv,if_pos (.inr (by omega))]) (by decide)],eT (Ext.refl _)⟩
  have ka:¬(p.over<0∨(s.scalars.length:Int)<p.over):=by omega
  refine aa ?_;apply K.cond<;>intro g3
  ·refine aa ?_;exact⟨by rw[bx 10 (by unfold o.whole;rw[if_neg pv,if_neg ka,if_pos (.inl g3)]) (by decide)],eT (Ext.refl _)⟩
  refine aa ?_;apply K.cond<;>intro g4
  ·refine aa ?_;exact⟨by rw[bx 10 (by unfold o.whole;rw[if_neg pv,if_neg ka,if_pos (.inr (by omega))]) (by decide)],eT (Ext.refl _)⟩
  have jw:¬(p.cW<1∨12<p.cW):=by omega
  refine aa ?_;apply K.cond<;>intro g5
  ·refine aa ?_;exact⟨by rw[bx 11 (by unfold o.whole;rw[if_neg pv,if_neg ka,if_neg jw,if_pos (by omega)]) (by decide)],eT (Ext.refl _)⟩
  have bd:o.gY p s=if (o.kt p s).2≠0 then (1,(o.kt p s).1,(o.kt p s).2) else o.kC (o.inner p s) p.cW p.cE p.cE 0:=by
   unfold o.gY;rw[if_neg];unfold o.whole;rw[if_neg pv,if_neg ka,if_neg jw,if_neg (by omega)];simp
  clear bx;refine aa ?_;refine K.call (Wl _ _ p.vars s.scalars 4 aY (aO.ext (eT (Ext.refl _))) (ao.ext (eT (Ext.refl _)))) ?_;rintro _ bo ⟨rfl,aF⟩;replace ar:=aF.obj ar;replace aK:=aF.obj aK;have eb:∀{w'},Ext bo w'→Ext w w':=fun e=>eT (aF.trans e);refine aa ?_;apply K.cond<;>intro g6;rotate_left
  ·have a1:o.kt p s=o.vars p.vars s.scalars 4:=by unfold o.kt;rw[if_pos g6]
   rw[a1,if_pos g6] at bd;refine aa ?_;exact⟨by rw[bd],eb (Ext.refl _)⟩
  have a1:o.kt p s=o.oQ s p.vars 0:=by unfold o.kt;rw[if_neg (by simpa using g6)]
  rw[a1] at bd;refine aa ?_;refine K.cR 9 p.vars.length [2,3] (fun _:Unit=>[]) () (fun k _ w'=>Ext bo w'∧o.oQ s p.vars 0=o.oQ s (p.vars.drop k) k) bp bp ⟨Ext.refl _,by simp⟩ ?_;rintro k _ S bD hk ⟨aM,bs⟩;replace ar:=aM.obj ar;replace aK:=aM.obj aK;refine aa ?_;apply K.cond<;>intro g7
  ·have br:k<p.vars.length:=by omega
   obtain⟨a,rfl⟩:=aO.addr (by omega);have ew:=((aO.at k br).cells).ext (eb aM);rw[o.Vr br] at bs;refine aa ?_;apply K.cond<;>intro g8;rotate_left
   ·rw[if_pos g8] at bs;refine aa ?_;exact⟨by rw[bd,bs];rfl,eb aM⟩
   rw[if_neg (by simpa using g8)] at bs;refine aa ?_;refine K.cR 10 s.vars.length [2,3,9] (fun _:Unit=>[]) () (fun j _ w'=>Ext bD w'∧∀t (aL:t<s.vars.length),t<j→¬s.vars[t].name=p.vars[k].name) bp bp ⟨Ext.refl _,fun _ _ h=>absurd h (Nat.not_lt_zero _)⟩ ?_;rintro j _ a8 bQ aI ⟨aN,pj⟩;replace ar:=aN.obj ar;replace aK:=aN.obj aK;have kP:∀{w'},Ext bQ w'→Ext w w':=fun e=>eb ((aM.trans aN).trans e);refine aa ?_;apply K.cond<;>intro g9
   ·have eQ:j<s.vars.length:=by omega
    obtain⟨cX,rfl⟩:=h1.addr (by omega);have iN:=((h1.at j eQ).cells).ext (kP (Ext.refl _));replace ew:=ew.ext aN;refine aa ?_;intro cd bC;replace ar:=bC.obj ar;replace aK:=bC.obj aK;refine aa ?_;apply K.cond<;>intro g10
    ·have xn:s.vars.any (fun x=>decide (x.name=p.vars[k].name))=true:=List.any_eq_true.2 ⟨s.vars[j],List.getElem_mem _,by simpa using g10⟩;rw[if_pos xn] at bs;refine aa ?_;exact⟨by rw[bd,bs];rfl,kP bC⟩
    ·refine aa ?_;exact⟨eQ,bf,(),trivial,aN.trans bC,fun t aL h=>by
      by_cases e:t=j
      ·subst e;exact g10
      ·exact pj t aL (by omega)⟩
   ·have xn:¬s.vars.any (fun x=>decide (x.name=p.vars[k].name))=true:=by
     intro ea;obtain⟨x,av,kq⟩:=List.any_eq_true.1 ea;obtain⟨t,aL,rfl⟩:=List.mem_iff_getElem.1 av;exact pj t aL (by omega) (by simpa using kq)
    rw[if_neg xn] at bs;refine aa ?_;exact⟨br,bf,(),trivial,aM.trans aN,bs⟩
  rw[List.drop_eq_nil_of_le (by omega)] at bs;replace bd:o.gY p s=o.kC (o.inner p s) p.cW p.cE p.cE 0:=by rw[bd,bs];rfl
  clear bs a1;have e5:∀w',Ext w w'→o.fm w' [.slice a0 s.scalars.length bV,.slice dG s.vars.length c1,.slice a2 s.a7.length c2,.slice a3 s.procs.length d3,.slice cr p.vars.length bJ,.int .i64 p.over] (o.inner p s):=fun w' e =>
   ⟨(aV.inner nr).pI.1,_,_,_,_,_,rfl,ao.ext e,h1.ext e,U.ext e,ah.ext e,aO.ext e,(aV.inner nr).pI.2⟩
  refine aa ?_;intro bQ ch fE aN bB;replace ar:=aN.obj ar;replace aK:=aN.obj aK;have kP:∀{w'},Ext bQ w'→Ext w w':=fun e=>eb ((aM.trans aN).trans e);refine aa ?_;refine K.cR 12 p.cE.length [2,3,11] (fun _:Unit=>[]) () (fun k _ w'=>Ext bQ w'∧o.kC (o.inner p s) p.cW p.cE p.cE 0=o.kC (o.inner p s) p.cW p.cE (p.cE.drop k) k) bp bp ⟨Ext.refl _,by simp⟩ ?_;rintro k _ S cd hk ⟨bC,bs⟩;replace ar:=bC.obj ar;replace aK:=bC.obj aK;replace bB:=bC.obj bB;have jh:∀{w'},Ext cd w'→Ext w w':=fun e=>kP (bC.trans e);refine aa ?_;apply K.cond<;>intro g7
  ·have br:k<p.cE.length:=by omega
   obtain⟨a,rfl⟩:=nT.addr (by omega);obtain⟨aG,fV,va,fS,vG,tW⟩:=nT.at k br;obtain⟨hq,gl,rfl,afI⟩:=vG.form;obtain⟨bm,gJ,rfl,ns⟩:=tW.form;rw[o.Rk br] at bs;replace fS:=fS.ext (jh (Ext.refl _));refine aa ?_;refine K.gm (.tuple #[.int .i64 (o.iJ p.cE[k] p.cW (o.inner p s)).1,.int .i64 (o.iJ p.cE[k] p.cW (o.inner p s)).2]) (fun w' e=>ahC p.cE[k] _ _ p _ _ _ (o.inner p s) w' aG (vG.ext (jh e)) (tW.ext (jh e)) (aO.ext (jh e)) (nT.ext (jh e)) (e5 _ (jh e))) ?_;refine aa ?_;intro c9 bU;replace ar:=bU.obj ar;replace aK:=bU.obj aK;replace bB:=bU.obj bB;replace fS:=fS.ext bU;have mX:∀{w'},Ext c9 w'→Ext w w':=fun e=>jh (bU.trans e);refine aa ?_;apply K.cond<;>intro g8;rotate_left
   ·rw[if_pos g8] at bs;refine aa ?_;exact⟨by rw[bd,bs],mX (Ext.refl _)⟩
   rw[if_neg (by simpa using g8)] at bs;refine aa ?_;refine K.cR 15 k [2,3,11,12] (fun _:Unit=>[]) () (fun j _ w'=>Ext c9 w'∧∀t (aL:t<p.cE.length),t<j→¬p.cE[t].name=p.cE[k].name) bp bp ⟨Ext.refl _,fun _ _ h=>absurd h (Nat.not_lt_zero _)⟩ ?_;rintro j _ a8 dF aI ⟨cL,pj⟩;replace ar:=cL.obj ar;replace aK:=cL.obj aK;replace bB:=cL.obj bB;have gp:∀{w'},Ext dF w'→Ext w w':=fun e=>mX (cL.trans e);refine aa ?_;apply K.cond<;>intro g9
   ·have eQ:j<p.cE.length:=by omega
    obtain⟨_,amV,Ih,Tm,_,_⟩:=nT.at j eQ;replace Tm:=Tm.ext (gp (Ext.refl _));replace fS:=fS.ext cL;refine aa ?_;intro fe dj;replace ar:=dj.obj ar;replace aK:=dj.obj aK;replace bB:=dj.obj bB;refine aa ?_;apply K.cond<;>intro g10
    ·have xn:(p.cE.take k).any (fun x=>decide (x.name=p.cE[k].name))=true:=List.any_eq_true.2 ⟨p.cE[j],by rw[List.mem_iff_getElem];exact⟨j,by simp;omega,by simp⟩,by simpa using g10⟩;rw[if_pos xn] at bs;refine aa ?_;exact⟨by rw[bd,bs],gp dj⟩
    ·refine aa ?_;exact⟨by omega,bf,(),trivial,cL.trans dj,fun t aL h=>by
      by_cases e:t=j
      ·subst e;exact g10
      ·exact pj t aL (by omega)⟩
   ·have xn:¬(p.cE.take k).any (fun x=>decide (x.name=p.cE[k].name))=true:=by
     intro ea;obtain⟨x,av,kq⟩:=List.any_eq_true.1 ea;obtain⟨t,aL,rfl⟩:=List.mem_iff_getElem.1 av;have aeD:t<k∧t<p.cE.length:=by simp at aL;omega
     exact pj t aeD.2 (by omega) (by simpa using kq)
    rw[if_neg xn] at bs;refine aa ?_;exact⟨br,bf,(),trivial,(bC.trans bU).trans cL,bs⟩
  ·rw[List.drop_eq_nil_of_le (by omega)] at bs;refine aa ?_;exact⟨by rw[bd,bs];rfl,jh (Ext.refl _)⟩
end Go.Proofs.R
end