/- Texts joined: LiteR CodeR ProcE LibR ProcF ProcG ProcH ExprD ExprE ExprF CmdA CmdB CmdQ. -/
import Derived.Test.YtempnjgiohpopaaGreatDoorQlbd
import Derived.Test.YtempnjgiohpopaaGreatDoorQlbe
import Derived.Test.YtempnjgiohpopaaGreatDoorQlbg
import Derived.Test.YtempnjgiohpopaaGreatDoorQlbh
import Derived.Test.YtempnjgiohpopaaGreatDoorQlbi
import Derived.RangeFuncLeaves
import Derived.RangeFuncWrites
set_option linter.all false
set_option maxRecDepth 100000
set_option maxHeartbeats 4000000
section
namespace bn
open Go Go.RowKit
inductive qm where
 | vS (g:Operand) (p:Nat) (a b:eR)
 | vU (x:qm) (y:eR)
 | q4 (x:eR) (y:qm)
 | aR (id:Nat) (x:qm)
def kH(P:Program)(n:Nat):Code→Option qm
 | .rangeFunc g cX a b=>match cX.toList,comp P n a,comp P n b with
  | [p],some nx,some hv=>if p<n then some (.vS g p nx hv) else none
  | _,_,_=>none
 | .seq x y=>match comp P n x with
  | some vH=>(kH P n y).map (.q4 vH)
  | none=>match kH P n x,comp P n y with
   | some rx,some vI=>some (.vU rx vI)
   | _,_=>none
 | .block id x=>(kH P n x).map (.aR id)
 | _=>none
structure yX where
 n:Nat
 res:List lf
 code:qm
def zm(P:Program)(f:FuncId):Option yX :=
 match P.funcs[f]? with
 | some fn=>match fn.body with
  | some c=>match kH P fn.ntmps c,s8 P fn.results.toList with
   | some lc,some r=>some ⟨fn.ntmps,r,lc⟩
   | _,_=>none
  | none=>none
 | none=>none
structure Cp(iu:World→World→Prop)(B:Nat):Prop where
 trans:∀{a b c:World},iu a b→iu b c→iu a c
 put:∀(W:World) (l:Nat) (aj o':Obj),B≤l→W.heap[l]? = some aj→aj.isCells=false→iu W (W.putObj l o')
def uo(jf:Nat)(dw:List TypeId)(W dV:World):Prop:=Below jf W dV∧∀(k:Nat) (c:Array Value) (t:TypeId) (f:Nat×Nat),W.heap[k]? = some (.cells c t f)→t∈dw→dV.heap[k]? = W.heap[k]?
theorem uo.ok{jf B:Nat}(dw:List TypeId)(h:jf≤B):Cp (uo jf dw) B where
 trans h k:=⟨h.1.trans k.1,fun i c t f ad aG=>by rw[←h.2 i c t f ad aG];exact k.2 i c t f ((h.2 i c t f ad aG).trans ad) aG⟩
 put W l aj o' aN a1 ay:=⟨(Below.refl jf W).grown (grownBy_putObj' W l o') (by have:=(Array.getElem?_eq_some_iff.1 a1).1;omega) (fun k e=>by cases e;omega),fun k c t f hk _=>by
  have de:l≠k:=fun e=>by subst e;rw[a1] at hk;injection hk with hk;subst hk;cases ay
  exact World.putObj_heap_other (Ne.symm de)⟩
theorem Ext.ij{jf:Nat}{dw:List TypeId}{W dV:World}(h:Ext W dV)(aM:jf≤W.heap.size):uo jf dw W dV:=⟨Below.mono h aM,fun k c t f hk _=>h.heap (cL hk)⟩
def ac5{α:Type}(iu:World→World→Prop)(B:Nat)(ey:List α→World→Prop)(nI:dQ→List α→World→Prop)(xs:List α)(W:World):dQ→Fr→World→Prop
 | .normal,_,dV=>KeepsFrom B W dV∧iu W dV∧ey xs dV
 | .fB _,_,_=>False
 | e,_,dV=>KeepsFrom B W dV∧nI e xs dV
def uC(B:Nat)(W dV:World):Prop := ∃l,B≤l∧(∃aj,W.heap[l]? = some aj∧aj.isCells=false)∧W.grownBy dV (some l)
def TG(P:Program)(g:Value)(p:Nat)(a b:eR)(Q:Nat→dQ→Fr→World→Prop)(S:Fr)(w:World):Prop :=
 ∃(α:Type) (enc:α→Value) (ku:Nat) (hv:Array Value) (iu:World→World→Prop) (nR py:List α→Prop) (N:Nat) (w0:World),g = .func (.func ku) #[] hv∧okF P ku=true∧SeqStopsK Fence.wide 0 P ku hv (fun x=>#[enc x]) iu nR py N w0∧Ext w0 w∧Cp iu w.heap.size ∧
 ∃(ey:List α→World→Prop) (nI:dQ→List α→World→Prop),OwnFrom w.heap.size ey∧(∀e,OwnFrom w.heap.size (nI e))∧ey [] w ∧
  (∀pre x W,ey pre W→pre.length<N→ei P a (sC (fun yY jk=>KeepsFrom w.heap.size W jk∧iu W jk∧∀fU,uC w.heap.size jk fU→ei P b (ac5 iu w.heap.size ey nI (pre++[x]) fU) yY fU) (fun _ _ _=>False)) (b8 S p (enc x)) W) ∧
  (∀D xs W,w.heap.size≤D→nR xs→ey xs W→W.heap[D]? = some (.deferred (some []))→Q D .normal S W) ∧
  (∀D e pre W,e≠.normal→w.heap.size≤D→py pre→nI e pre W→W.heap[D]? = some (.deferred (some []))→Q D e S W)
theorem ac6{α:Type}{enc:α→Value}{P:Program}{g:Operand}{p:Nat}{wK body:Code}{Q:Exit→Act→World→Prop}{a:Act}{w w0:World}{ku:Nat}{hv:Array Value}{iu:World→World→Prop}{N:Nat}{nR py:List α→Prop}
  (aX:a.eval g = .func (.func ku) #[] hv)(c4:okF P ku=true)(vq:SeqStopsK Fence.wide 0 P ku hv (fun x=>#[enc x]) iu nR py N w0)(he:Ext w0 w)(rJ:Cp iu w.heap.size)
  (ey:List α→World→Prop)(nI:Code→List α→World→Prop)(ct:OwnFrom w.heap.size ey)(th:∀c,OwnFrom w.heap.size (nI c))(ak:ey [] w)
  (HX:∀l pre x W,ey pre W→pre.length<N→wK.wpIn (mg (some l)) 1 P (Exit.then (fun dF jk=>KeepsFrom w.heap.size W jk∧iu W jk ∧
   ∀fU,uC w.heap.size jk fU→body.wpIn (mg (some l)) 1 P (ownPostG w.heap.size iu ey nI (pre++[x]) fU) dF fU) (fun _ _ _=>False)) { tmps:=a.tmps.setIfInBounds p (enc x),defers:=[] } W)
  (z6:∀D xs W,w.heap.size≤D→nR xs→ey xs W→W.heap[D]? = some (.deferred (some []))→Q .normal { a with defers:={ target:=.collected D,args:=#[] } :: a.defers } W)
  (DX:∀D c pre W,w.heap.size≤D→py pre→nI c pre W→W.heap[D]? = some (.deferred (some []))→c.wpIn Fence.wide 3 P Q { a with defers:={ target:=.collected D,args:=#[] } :: a.defers } W) :
  (Code.rangeFunc g #[p] wK body).wpIn Fence.wide 3 P Q a w:=by
 refine wpIn_rangeFunc fun fn pW=>?_;obtain⟨lH,qM⟩:∃lH:LoopState→Option Code→Loop,lH=fun st I3=>{ state:=st,pending:=I3,fn,tmps:=a.tmps,params:=#[p],assign:=wK,body,defers:=w.heap.size }:=⟨_,rfl⟩;obtain⟨ar,jv⟩:∃ar,(w.alloc (.deferred (some []))).alloc (.loop (lH .ready none))=ar:=⟨_,rfl⟩;have D9:ar.heap.size=w.heap.size+2:=by rw[←jv];simp
 have ot:ar.heap[w.heap.size+1]? = some (.loop (lH .ready none)):=by
  rw[←jv]
  have:=World.alloc_heap_new (w.alloc (.deferred (some []))) (.loop (lH .ready none))
  rwa[World.size_alloc] at this
 have X6:ar.heap[w.heap.size]? = some (.deferred (some [])):=by rw[←jv];exact(Below.heap_alloc _ _ _ (by simp)).trans (World.alloc_heap_new w _)
 have Yt:ey [] ar:=by rw[←jv];exact ct.alloc _ (ct.alloc _ ak)
 have cN:Below w0.heap.size w0 ar:=by rw[←jv];exact(he.alloc _).alloc _
 have low:∀{A B:World} {row:Option Nat},(∀r,row=some r→ar.heap.size≤r∧∃aj:Obj,A.heap[r]? = some aj∧aj.isWalk=true)→(∀r,row=some r→w.heap.size≤r∧∃aj:Obj,A.heap[r]? = some aj∧aj.isCells=false) :=
  fun ba r e=>by obtain⟨U,aj,a1,hw⟩:=ba r e;exact⟨by omega,aj,a1,Obj.not_cells_of_walk hw⟩
 refine⟨w.heap.size+1,[{ target:=.collected w.heap.size,args:=#[] }],ar,{ target:=.fn (.func ku) hv,args:=#[.func (.yield (w.heap.size+1)) #[] #[]] },ar,ku,
  #[.func (.yield (w.heap.size+1)) #[] #[]]++hv,ar,?_,?_,fun _ _=>trivial,?_,fun _=>by decide,?_⟩
 ·rw[←jv,qM];exact run_enterLoop_outer _ _ _ _ _
 ·simp only[resolve,aX];simp[go_sem]
 ·simp[invoke,go_sem,BK c4]
 refine CallsIn.mono (Ga (r:=none) (callsIn_wide.1 (vq (w.heap.size+1)
  (fun pre W=>ey pre W∧W.heap[w.heap.size+1]? = some (.loop (lH .ready none))∧W.heap[w.heap.size]? = some (.deferred (some [])))
  (fun pre W => ∃c,nI c pre W∧W.heap[w.heap.size+1]? = some (.loop (lH .done (some c)))∧W.heap[w.heap.size]? = some (.deferred (some [])))
  ar cN ?_ ?_ ?_ ⟨Yt,ot,X6⟩))) ?_
 ·exact fun s A B row aw vh ba=>⟨ct s A B row aw.1 vh (low (B:=B) ba),(grownBy_keeps vh (fun r e=>(ba r e).2) aw.2.1 rfl).trans aw.2.1,(grownBy_keeps vh (fun r e=>(ba r e).2) aw.2.2 rfl).trans aw.2.2⟩
 ·intro s A B row aw vh ba;obtain⟨c,ay,U,ai⟩:=aw;exact⟨c,th c s A B row ay vh (low (B:=B) ba),(grownBy_keeps vh (fun r e=>(ba r e).2) U rfl).trans U,(grownBy_keeps vh (fun r e=>(ba r e).2) ai rfl).trans ai⟩
 ·rintro pre x W ⟨ad,U,ai⟩ hlen;have cS:=run_yield (P:=P) (args:=#[enc x]) U (by rw[qM];rfl);rw[qM] at cS;refine⟨fn,_,wK,body,cS,RW (r:=none) (m:=0 - 1) ?_⟩;refine(roundIn_of_wpIn (F:=Fence.wide) (n:=1) (l:=w.heap.size+1) pW ?_) |> fun h=>⟨trivial,fun c cs _=>h.2 c cs (room_wide _)⟩
  have bK:(#[p]:Array Tmp).zip #[enc x]=#[(p,enc x)]:=by apply Array.ext';simp[Array.toList_zip]
  have Xy:=HX (w.heap.size+1) pre x W ad hlen;simp only[bK];refine wpIn_mono Xy fun e dF jk h=>?_;cases e with
  | normal =>
   obtain⟨da,cZ,fr⟩:=h;have fP:=da.same _ _ (by omega) U rfl;have d1:=da.same _ _ (Nat.le_refl _) ai rfl;refine⟨_,run_beginRound fP (by rw[qM]),?_⟩;have cb:=(Array.getElem?_eq_some_iff.1 fP).1;have gI:(jk.putObj (w.heap.size+1) (.loop { lH .ready none with state:=.busy })).heap[w.heap.size+1]? = some (.loop { lH .ready none with state:=.busy }):=World.putObj_heap_same cb;have d2:(jk.putObj (w.heap.size+1) (.loop { lH .ready none with state:=.busy })).heap[w.heap.size]? = some (.deferred (some [])):=(World.putObj_heap_other (by omega)).trans d1;have ch:iu jk (jk.putObj (w.heap.size+1) (.loop { lH .ready none with state:=.busy })):=rJ.put _ _ _ _ (by omega) fP rfl;refine wpIn_mono (fr _ ⟨_,by omega,⟨_,fP,rfl⟩,grownBy_putObj' _ _ _⟩) fun e a3 nf bg=>?_;have fin:∀(jump:Option Code),KeepsFrom w.heap.size (jk.putObj (w.heap.size+1) (.loop { lH .ready none with state:=.busy })) nf →
     (Instr.endRound (w.heap.size+1) jump).run P nf = .ok (.bool jump.isNone) (nf.putObj (w.heap.size+1) (.loop (lH (if jump.isNone then .ready else .done) jump))) ∧
     nf.heap[w.heap.size+1]? = some (.loop { lH .ready none with state:=.busy }) ∧
     (nf.putObj (w.heap.size+1) (.loop (lH (if jump.isNone then .ready else .done) jump))).heap[w.heap.size+1]? = some (.loop (lH (if jump.isNone then .ready else .done) jump)) ∧
     (nf.putObj (w.heap.size+1) (.loop (lH (if jump.isNone then .ready else .done) jump))).heap[w.heap.size]? = some (.deferred (some [])):=fun jump iO=>by
    have hQ:=iO.same _ _ (by omega) gI rfl
    have:=run_endRound (P:=P) jump hQ
    rw[qM] at this ⊢;exact⟨this,by rw[qM] at hQ;exact hQ,World.putObj_heap_same (Array.getElem?_eq_some_iff.1 hQ).1,(World.putObj_heap_other (by omega)).trans (iO.same _ _ (Nat.le_refl _) d2 rfl)⟩
   cases e with
   | normal =>
    obtain⟨dS,dP,dD⟩:=bg;obtain⟨f1,f2,f3,f4⟩:=fin none dS;exact⟨_,_,f1,.inl ⟨rfl,⟨ct.putObj _ dD (by omega) f2 rfl,f3,f4⟩,rJ.trans (rJ.trans (rJ.trans cZ ch) dP) (rJ.put _ _ _ _ (by omega) f2 rfl)⟩⟩
   | ret =>
    obtain⟨dS,dD⟩:=bg;obtain⟨f1,f2,f3,f4⟩:=fin (some .ret) dS;exact⟨_,_,f1,.inr ⟨rfl,.ret,(th _).putObj _ dD (by omega) f2 rfl,f3,f4⟩⟩
   | exit id =>
    obtain⟨dS,dD⟩:=bg;obtain⟨f1,f2,f3,f4⟩:=fin (some (.exit id)) dS;exact⟨_,_,f1,.inr ⟨rfl,.exit id,(th _).putObj _ dD (by omega) f2 rfl,f3,f4⟩⟩
   | goto t =>
    obtain⟨dS,dD⟩:=bg;obtain⟨f1,f2,f3,f4⟩:=fin (some (.goto t)) dS;exact⟨_,_,f1,.inr ⟨rfl,.goto t,(th _).putObj _ dD (by omega) f2 rfl,f3,f4⟩⟩
   | _=>exact bg.elim
  | _=>exact h.elim
 ·rintro e fU ⟨⟨v,rfl⟩,(⟨xs,cn,ad,U,ai⟩ | ⟨pre,Xw,c,ad,U,ai⟩)⟩
  ·exact⟨none,_,by have:=run_endLoop (P:=P) U (by rw[qM];simp);rw[qM] at this;exact this,z6 _ xs _ (Nat.le_refl _) cn (ct.putObj _ ad (by omega) U rfl) ((World.putObj_heap_other (by omega)).trans ai)⟩
  ·exact⟨some c,_,by have:=run_endLoop (P:=P) U (by rw[qM];simp);rw[qM] at this;exact this,DX _ c pre _ (Nat.le_refl _) Xw ((th c).putObj _ ad (by omega) U rfl) ((World.putObj_heap_other (by omega)).trans ai)⟩
def oF(P:Program):qm→(Option Nat→dQ→Fr→World→Prop)→Fr→World→Prop
 | .vS g p a b,Q,S,w=>TG P (a7 S g) p a b (fun D=>Q (some D)) S w
 | .vU x y,Q,S,w=>oF P x (fun aj=>sC (fun S w=>ei P y (Q aj) S w) (Q aj)) S w
 | .q4 x y,Q,S,w=>ei P x (sC (fun S w=>oF P y Q S w) (Q none)) S w
 | .aR id x,Q,S,w=>oF P x (fun aj=>wX id (Q aj)) S w
def marks:Option Nat→List Deferred
 | none=>[]
 | some D=>[{ target:=.collected D,args:=#[] }]
def Q0(n:Nat)(Q:Option Nat→dQ→Fr→World→Prop):Exit→Act→World→Prop
 | .normal,a,w => ∃aj S,Fits (marks aj) a S n∧Q aj .normal S w
 | .exit i,a,w => ∃aj S,Fits (marks aj) a S n∧Q aj (.exit i) S w
 | .ret,a,w => ∃aj S,Fits (marks aj) a S n∧Q aj .ret S w
 | .panic c,a,w => ∃aj S,Fits (marks aj) a S n∧Q aj (.fB c) S w
 | _,_,_=>False
theorem aaG{n:Nat}{Q:Option Nat→dQ→Fr→World→Prop}{aj:Option Nat}{e:Exit}{a:Act}{w:World}(h:Ej (marks aj) n (Q aj) e a w):Q0 n Q e a w:=by
 cases e with
 | normal=>obtain⟨S,h1,U⟩:=h;exact⟨aj,S,h1,U⟩
 | exit i=>obtain⟨S,h1,U⟩:=h;exact⟨aj,S,h1,U⟩
 | ret=>obtain⟨S,h1,U⟩:=h;exact⟨aj,S,h1,U⟩
 | panic c=>obtain⟨S,h1,U⟩:=h;exact⟨aj,S,h1,U⟩
 | _=>exact h.elim
theorem EN{P:Program}(hm:P.follows .mixedOrders=true){n:Nat}:∀(c:Code) (rc:qm),kH P n c=some rc→∀(Q:Option Nat→dQ→Fr→World→Prop) (a:Act) (S:Fr) (w:World),Fits [] a S n→oF P rc Q S w→c.wpIn Fence.wide 3 P (Q0 n Q) a w
 | .rangeFunc g cX wK b,rc,h,Q,a,S,w,aI,aS=>by
  simp only[kH] at h;split at h
  ·rename_i p nx hv pZ bD aA;split at h
   ·rename_i bg;injection h with h;subst h
    obtain⟨α,enc,ku,ag7,iu,nR,py,N,w0,aX,c4,vq,he,rJ,ey,nI,ct,th,ak,XG,z6,DX⟩:=aS;have Zf:cX=#[p]:=by rw[←Array.toArray_toList (xs:=cX),pZ]
    subst Zf;refine ac6 (by rw[aI.eval];exact aX) c4 vq he rJ ey (fun c=>match c with | .ret=>nI .ret | .exit id=>nI (.exit id) | _=>fun _ _=>False) ct ?_ ak ?_ ?_ ?_
    ·intro c;split
     ·exact th _
     ·exact th _
     ·exact fun s W dV row h _ _=>h.elim
    ·intro l pre x W ad aN;have tt:Fits [] ({ tmps:=a.tmps.setIfInBounds p (enc x),defers:=[] }:Act) (b8 S p (enc x)) n:=by
      refine⟨rfl,by simp[aI.2.1],fun t=>?_⟩
      have:=aI.2.2 t
      simp only[b8];by_cases aG:t=p
      ·subst aG;simp[aI.2.1,bg]
      ·have U:(a.tmps.setIfInBounds p (enc x))[t]? = a.tmps[t]? := Array.getElem?_setIfInBounds_ne (Ne.symm aG);rw[if_neg aG,←this];simp[Array.getD_eq_getD_getElem?,U]
     refine wpIn_mono (sound (ds:=[]) (r:=some l) hm wK nx bD _ _ _ W tt (XG pre x W ad aN)) fun e dr dV aJ=>?_;cases e with
     | normal =>
      obtain⟨a6,dX,h1,U,ai⟩:=aJ;refine⟨h1,U,fun fU aL=>?_⟩;refine wpIn_mono (sound (ds:=[]) (r:=some l) hm b hv aA _ _ _ fU dX (ai fU aL)) fun e a2 nf aJ=>?_;cases e with
      | normal=>obtain⟨a6,_,h1,U,ai⟩:=aJ;exact⟨h1,U,ai⟩
      | ret=>obtain⟨a6,_,h1,U⟩:=aJ;exact⟨h1,U⟩
      | exit id=>obtain⟨a6,_,h1,U⟩:=aJ;exact⟨h1,U⟩
      | panic c=>obtain⟨a6,_,h1⟩:=aJ;exact h1.elim
      | _=>exact aJ.elim
     | ret=>obtain⟨a6,_,h1⟩:=aJ;exact h1.elim
     | exit id=>obtain⟨a6,_,h1⟩:=aJ;exact h1.elim
     | panic c=>obtain⟨a6,_,h1⟩:=aJ;exact h1.elim
     | _=>exact aJ.elim
    ·intro D xs W qD cn ad bx;exact⟨some D,S,⟨by rw[aI.1];rfl,aI.2⟩,z6 D xs W qD cn ad bx⟩
    ·intro D c pre W qD cn ad bx;have Pe:Fits (marks (some D)) { a with defers:={ target:=.collected D,args:=#[] } :: a.defers } S n:=⟨by rw[aI.1];rfl,aI.2⟩;split at ad
     ·exact wpIn_ret ⟨some D,S,Pe,DX D .ret pre W (by simp) qD cn ad bx⟩
     ·exact wpIn_exit ⟨some D,S,Pe,DX D (.exit _) pre W (by simp) qD cn ad bx⟩
     ·exact ad.elim
   ·cases h
  ·cases h
 | .seq x y,rc,h,Q,a,S,w,aI,aS=>by
  simp only[kH] at h;split at h
  ·rename_i vH aD;obtain⟨Sd,cS,rfl⟩:=Option.map_eq_some_iff.1 h;refine wpIn_seq (wpIn_mono (sound (ds:=[]) (r:=none) (m:=3) hm x vH aD _ a S w aI aS) fun e dr w' aJ=>?_);cases e with
   | normal=>obtain⟨a6,dX,aJ⟩:=aJ;exact EN hm y Sd cS Q dr a6 w' dX aJ
   | exit i=>obtain⟨a6,dX,aJ⟩:=aJ;exact⟨none,a6,dX,aJ⟩
   | ret=>obtain⟨a6,dX,aJ⟩:=aJ;exact⟨none,a6,dX,aJ⟩
   | panic c=>obtain⟨a6,dX,aJ⟩:=aJ;exact⟨none,a6,dX,aJ⟩
   | _=>exact aJ.elim
  ·split at h
   ·rename_i rx vI aD cS;injection h with h;subst h
    refine wpIn_seq (wpIn_mono (EN hm x rx aD _ a S w aI aS) fun e dr w' aJ=>?_);cases e with
    | normal =>
     obtain⟨aj,a6,dX,aJ⟩:=aJ;exact wpIn_mono (sound (ds:=marks aj) (r:=none) (m:=3) hm y vI cS (Q aj) dr a6 w' dX aJ) fun e MX bW h=>aaG h
    | exit i=>obtain⟨aj,a6,dX,aJ⟩:=aJ;exact⟨aj,a6,dX,aJ⟩
    | ret=>obtain⟨aj,a6,dX,aJ⟩:=aJ;exact⟨aj,a6,dX,aJ⟩
    | panic c=>obtain⟨aj,a6,dX,aJ⟩:=aJ;exact⟨aj,a6,dX,aJ⟩
    | _=>exact aJ.elim
   ·cases h
 | .block id b,rc,h,Q,a,S,w,aI,aS=>by
  simp only[kH] at h;obtain⟨acD,aA,rfl⟩:=Option.map_eq_some_iff.1 h;refine wpIn_block (wpIn_mono (EN hm b acD aA _ a S w aI aS) fun e dr w' aJ=>?_);cases e with
  | normal=>obtain⟨aj,a6,dX,aJ⟩:=aJ;exact⟨aj,a6,dX,aJ⟩
  | ret=>obtain⟨aj,a6,dX,aJ⟩:=aJ;exact⟨aj,a6,dX,aJ⟩
  | panic c=>obtain⟨aj,a6,dX,aJ⟩:=aJ;exact⟨aj,a6,dX,aJ⟩
  | exit i =>
   obtain⟨aj,a6,dX,aJ⟩:=aJ;simp only[wX] at aJ;simp only[Exit.inBlock];split at aJ
   ·rename_i ad;rw[if_pos ad];exact⟨aj,a6,dX,aJ⟩
   ·rename_i ad;rw[if_neg ad];exact⟨aj,a6,dX,aJ⟩
  | _=>exact aJ.elim
 | .skip,rc,h,_,_,_,_,_,_=>by simp[kH] at h
 | .region _ _ _,rc,h,_,_,_,_,_,_=>by simp[kH] at h
 | .cond _ _ _,rc,h,_,_,_,_,_,_=>by simp[kH] at h
 | .loop _,rc,h,_,_,_,_,_,_=>by simp[kH] at h
 | .exit _,rc,h,_,_,_,_,_,_=>by simp[kH] at h
 | .ret,rc,h,_,_,_,_,_,_=>by simp[kH] at h
 | .scope _,rc,h,_,_,_,_,_,_=>by simp[kH] at h
 | .label _,rc,h,_,_,_,_,_,_=>by simp[kH] at h
 | .goto _,rc,h,_,_,_,_,_,_=>by simp[kH] at h
 | .refuse _,rc,h,_,_,_,_,_,_=>by simp[kH] at h
def Dc(res:List lf)(R:Value→World→Prop):Option Nat→dQ→Fr→World→Prop
 | none,e,S,w=>zB res R e S w
 | some D,.normal,S,w=>w.heap[D]? = some (.deferred (some []))∧mS res S (fk w D (.deferred none)) fun vs=>R (fQ vs) (fk w D (.deferred none))
 | some D,.ret,S,w=>w.heap[D]? = some (.deferred (some []))∧mS res S (fk w D (.deferred none)) fun vs=>R (fQ vs) (fk w D (.deferred none))
 | some _,.exit _,_,_=>False
 | some _,.fB _,_,_=>False
theorem adk{P:Program}{D:Nat}{w:World}(h:w.heap[D]? = some (.deferred (some []))):(Instr.takeDeferred D).run P w = .ok [] (fk w D (.deferred none)):=by
 simp[Instr.takeDeferred,Sem.run_bind,getObj,setObj,Sem.run,h,Result.andThen,fk]
theorem VY{P:Program}{f:FuncId}{L:yX}(hm:P.follows .mixedOrders=true)(ay:zm P f=some L){args:List Value}{w:World}{R:Value→World→Prop}(bD:args.length≤L.n)
  (h:oF P L.code (Dc L.res R) (gY args 0) w):bw P f args.toArray w R:=by
 unfold zm at ay;split at ay
 ·rename_i fn pW;split at ay
  ·rename_i c aA;split at ay
   ·rename_i lc r h1 U;injection ay with ay;subst ay
    refine(callsIn_wide (n:=3)).1 (callsIn_of_wp_marks (F:=Fence.wide) pW aA trivial (wpIn_mono (EN hm c lc h1 _ _ (gY args 0) w ?_ h) ?_))
    ·refine⟨rfl,?_,fun t=>?_⟩
     ·have:=bD;simp only at this;simp;omega
     ·rw[Dj];simp only[Nat.zero_le,if_true,Nat.sub_zero];by_cases aG:t<args.length
      ·simp[Array.getD_eq_getD_getElem?,Array.getElem?_append,aG]
      ·simp only[Array.getD_eq_getD_getElem?,Array.getElem?_append,List.size_toArray,if_neg aG,List.getElem?_eq_none (Nat.le_of_not_lt aG),Option.getD_none];rw[Array.getElem?_replicate];split<;>rfl
    ·have fin:∀(aj:Option Nat) (S:Fr) (dr:Act) (w':World),Fits (marks aj) dr S fn.ntmps→(Dc r R aj .normal S w')→LeavesInM Fence.wide 3 P fn dr.tmps (fun e w' => ∃v,e = .returned v∧R v w') dr.defers .returning w':=by
      intro aj S dr w' aI aJ;rw[aI.1];cases aj with
      | none =>
       obtain⟨vs,ai,aL⟩:=pg aI _ _ _ U aJ;exact⟨_,sm ai,_,rfl,aL⟩
      | some D =>
       obtain⟨bx,aJ⟩:=aJ;obtain⟨vs,ai,aL⟩:=pg aI _ _ _ U aJ;exact⟨by simp,.inl ⟨D,_,rfl,adk bx,⟨_,sm ai,_,rfl,aL⟩⟩⟩
     intro e dr w' aJ;cases e with
     | normal=>obtain⟨aj,S,aI,aJ⟩:=aJ;exact fin aj S dr w' aI aJ
     | ret =>
      obtain⟨aj,S,aI,aJ⟩:=aJ;refine fin aj S dr w' aI ?_;cases aj<;>exact aJ
     | exit i=>obtain⟨aj,S,aI,aJ⟩:=aJ;cases aj<;>exact aJ.elim
     | panic c=>obtain⟨aj,S,aI,aJ⟩:=aJ;cases aj<;>exact aJ.elim
     | _=>exact aJ.elim
   ·cases ay
  ·cases ay
 ·cases ay
end bn
namespace bn
open Go Go.RowKit
section
variable{P:Program}{S:Fr}{w:World}
theorem oK.start{f:FuncId}{L:yX}(hm:P.follows .mixedOrders=true)(ay:zm P f=some L){args:List Value}{w:World}{R:Value→World→Prop}(bD:args.length≤L.n)(h:oF P L.code (Dc L.res R) (gY args 0) w):bw P f args.toArray w R:=VY hm ay bD h
theorem oK.q4{x:eR}{y:qm}{Q:Option Nat→dQ→Fr→World→Prop}(h:dU P x (hT (fun S w=>oF P y Q S w) (Q none) ⟨⟩) S w ⟨⟩):oF P (.q4 x y) Q S w:=by unfold dU hT at h;exact h
theorem oK.vU{x:qm}{y:eR}{Q:Option Nat→dQ→Fr→World→Prop}(h:oF P x (fun aj=>hT (fun S w=>dU P y (Q aj) S w ⟨⟩) (Q aj) ⟨⟩) S w):oF P (.vU x y) Q S w:=by unfold dU hT at h;exact h
theorem oK.aR{id:Nat}{x:qm}{Q:Option Nat→dQ→Fr→World→Prop}(h:oF P x (fun aj=>nZ id (Q aj) ⟨⟩) S w):oF P (.aR id x) Q S w:=by unfold nZ at h;exact h
theorem oK.ret{res:List lf}{R:Value→World→Prop}{D:Nat}(bx:w.heap[D]? = some (.deferred (some [])))(h:hz res S (fk w D (.deferred none)) (fun vs=>R (fQ vs) (fk w D (.deferred none))) ⟨⟩):Dc res R (some D) .ret S w:=by
 unfold hz at h;exact⟨bx,h⟩
theorem oK.vS{α:Type}{enc:α→Value}{g:Operand}{p:Nat}{a b:eR}{Q:Option Nat→dQ→Fr→World→Prop}{ku:Nat}{hv:Array Value}{iu:World→World→Prop}{nR py:List α→Prop}{N:Nat}{w0:World}
  (aX:a7 S g = .func (.func ku) #[] hv)(c4:okF P ku=true)(vq:SeqStopsK Fence.wide 0 P ku hv (fun x=>#[enc x]) iu nR py N w0)(he:Ext w0 w)(rJ:Cp iu w.heap.size)
  (ey:List α→World→Prop)(ct:OwnFrom w.heap.size ey)(ak:ey [] w)
  (HX:∀pre x W,ey pre W→pre.length<N→dU P a (hT (fun yY jk=>KeepsFrom w.heap.size W jk∧iu W jk∧∀fU,uC w.heap.size jk fU →
   dU P b (hT (fun _ dV=>KeepsFrom w.heap.size fU dV∧iu fU dV∧ey (pre++[x]) dV) (fun _ _ _=>False) ⟨⟩) yY fU ⟨⟩) (fun _ _ _=>False) ⟨⟩) (b8 S p (enc x)) W ⟨⟩)
  (z6:∀D xs W,w.heap.size≤D→nR xs→ey xs W→W.heap[D]? = some (.deferred (some []))→Q (some D) .normal S W):oF P (.vS g p a b) Q S w:=by
 refine⟨α,enc,ku,hv,iu,nR,py,N,w0,aX,c4,vq,he,rJ,ey,fun _ _ _=>False,ct,fun _ _ _ _ _ h _ _=>h.elim,ak,fun pre x W ad aN=>?_,z6,fun D e pre W _ _ _ h _=>h.elim⟩;have h:=HX pre x W ad aN;unfold dU hT at h;refine pk a _ _ _ W (fun e yY jk _ h1=>?_) h;cases e with
 | normal =>
  obtain⟨da,cZ,fr⟩:=h1;refine⟨da,cZ,fun fU ba=>?_⟩;have U:=fr fU ba;refine pk b _ _ _ fU (fun e ko nf _ ai=>?_) U;cases e with
  | normal=>exact ai
  | exit _=>exact ai.elim
  | ret=>exact ai.elim
  | fB _=>exact ai.elim
 | exit _=>exact h1.elim
 | ret=>exact h1.elim
 | fB _=>exact h1.elim
theorem uC.cells{B:Nat}{W dV:World}(h:uC B W dV){k:Nat}{c:Array Value}{t:TypeId}{f:Nat×Nat}(hk:W.heap[k]? = some (.cells c t f)):dV.heap[k]? = some (.cells c t f):=by
 obtain⟨l,aN,⟨aj,a1,ay⟩,aX⟩:=h;rw[aX.block k (cL hk) fun e=>by injection e with e;subst e;rw[a1] at hk;injection hk with hk;subst hk;cases ay];exact hk
theorem uC.mod{B:Nat}{W dV:World}(h:uC B W dV):∃l,B≤l∧(∀c t f,W.heap[l]? ≠ some (.cells c t f))∧Mod (fun k=>k=l) W dV:=by
 obtain⟨l,aN,⟨aj,a1,ay⟩,aX⟩:=h;exact⟨l,aN,(fun c t f e=>by rw[a1] at e;injection e with e;subst e;cases ay),Mod.grown aX fun k e=>by injection e with e;exact e.symm⟩
theorem Ext.keeps{W dV:World}(h:Ext W dV)(B:Nat):KeepsFrom B W dV:=⟨h.size,fun k aj _ hk _=>h.obj hk⟩
theorem Mod.keeps{A:Nat→Prop}{B:Nat}{W dV:World}(h:Mod A W dV)(eT:∀k,B≤k→A k→∃c t f,W.heap[k]? = some (.cells c t f)):KeepsFrom B W dV :=
 ⟨h.size,fun k aj pQ hk ay=>h.obj (fun a=>by obtain⟨c,t,f,e⟩:=eT k pQ a;rw[hk] at e;injection e with e;subst e;cases ay) hk⟩
theorem Mod.ij{A:Nat→Prop}{jf:Nat}{dw:List TypeId}{W dV:World}(h:Mod A W dV)(aM:jf≤W.heap.size)(ak:∀k,k<jf→¬A k)(eT:∀k c t f,A k→W.heap[k]? = some (.cells c t f)→t∉dw):uo jf dw W dV :=
 ⟨⟨h.os,h.tape,h.output,h.size,fun k hk=>h.block k (by omega) (ak k hk)⟩,fun k c t f hk aG=>h.block k (cL hk) fun a=>eT k c t f a hk aG⟩
theorem Mod.high{A:Nat→Prop}{w W dV:World}{row:Option Nat}(h:Mod A w W)(aX:W.grownBy dV row)(ba:∀r,row=some r→w.heap.size≤r):Mod A w dV :=
 h.comp (Mod.grown (A:=fun k=>row=some k) aX fun k e=>e) (fun _ _ a=>a) fun i ad e=>by have:=ba i e;omega
end
end bn
end
section
namespace Go.Proofs.R
open Go bn Go.Proofs
def D.w8:yX:=⟨13,[.tmp 4], (.q4 (.bL [aB 2 (.box T.oQ (ab 0)),ag 4 (.const aV)]) (.vU (.q4 (.bL [I 6 1]) (.aR 0 (.vS (ab 6) 7 (.bL [aB 5 (.new T.m (.agg #[aq,aq])),cm 2 5 7]) (.aR 1 (.bL [ae 8 2,bl 9 2 5,aB 10 (.cU T.m 1 2 [aq,aq] [(0,(ab 9))]),aB 11 (.app T.oQ T.m 2 16 (ab 8) (ab 10)),ys 2 11]))))) (J [ae 12 2,I 4 12] .ret)))⟩
theorem Tr.w8:zm Tryz.prog F.w8=some D.w8:=by kernel_rfl
end Go.Proofs.R
end
section
namespace o
open Go Go.RowKit bn
abbrev uH(m:Model):={x:eL // x.of m}
end o
namespace bn
open Go Go.RowKit
theorem Ext.W7{w w':World}(h:Ext w w'):w.grownBy w' none:=⟨h.os,h.tape,h.output,h.size,fun k hk _=>h.heap hk⟩
end bn
namespace Go.Proofs.R
open Go Go.RowKit bn
theorem VQ(cs:List Value)(m:o.Model)(p:o.dx)(cF ei:Value)(w:World)(h:o.eh w cs m) :
  bw Tryz.prog F.zq #[.agg cs.toArray,.agg (p.enc cF ei).toArray] w fun v w'=>v = .int .i64 (o.elems m p)∧Ext w w':=by
 obtain⟨cG,bR,cu,c1,cA,c2,cw,bN,cP,bX,rfl,ak,h1,U,ai,aL,et,dY,eg,dK,ed⟩:=h.form;refine bO E.zq ?_;refine bH ?_;refine aa ?_;intro ar bz cN aE al;refine aa ?_;intro aW ch en aF aO;have cQ:∀{w'},Ext aW w'→Ext w w':=fun e=>(aE.trans aF).trans e;refine aa ?_;rw[o.elems];apply K.cond<;>intro g1
 ·refine aa ?_;rw[o.ga (.inl (by omega))];exact⟨bq,cQ (Ext.refl _)⟩
 refine aa ?_;apply K.cond<;>intro g2
 ·refine aa ?_;rw[o.ga (.inr (by omega))];exact⟨bq,cQ (Ext.refl _)⟩
 have ad:(p.over - 1).toNat<m.scalars.length:=by omega
 obtain⟨a,rfl⟩:=ak.addr (by omega);rw[o.iP (by omega) (by omega)];refine aa ?_;refine K.du (p.over - 1).toNat (by omega) ad ?_;refine aa ?_;apply K.cond<;>intro g3
 ·refine aa ?_;refine⟨?_,cQ (Ext.refl _)⟩;rw[if_pos (by omega)];rfl
 refine aa ?_;apply K.cond<;>intro g4
 ·refine aa ?_;refine⟨?_,cQ (Ext.refl _)⟩;rw[if_pos (by omega)];rfl
 refine aa ?_;refine⟨?_,cQ (Ext.refl _)⟩;rw[if_neg (by omega)];congr 1;omega
theorem acO(cs:List Value)(m:o.Model)(p:o.dx)(cF ei:Value)(w:World)(h:o.eh w cs m) :
  bw Tryz.prog F.A4 #[.agg cs.toArray,.agg (p.enc cF ei).toArray] w fun v w'=>v = .int .i64 (o.elems m p)∧Ext w w':=by
 obtain⟨cG,bR,cu,c1,cA,c2,cw,bN,cP,bX,rfl,ak,h1,U,ai,aL,et,dY,eg,dK,ed⟩:=h.form;refine bO E.A4 ?_;refine bH ?_;refine aa ?_;intro ar bz cN aE al;refine aa ?_;intro aW ch en aF aO;have cQ:∀{w'},Ext aW w'→Ext w w':=fun e=>(aE.trans aF).trans e;refine aa ?_;rw[o.elems];apply K.cond<;>intro g1
 ·refine aa ?_;rw[o.ga (.inl (by omega))];exact⟨bq,cQ (Ext.refl _)⟩
 refine aa ?_;apply K.cond<;>intro g2
 ·refine aa ?_;rw[o.ga (.inr (by omega))];exact⟨bq,cQ (Ext.refl _)⟩
 have ad:(p.over - 1).toNat<m.scalars.length:=by omega
 obtain⟨a,rfl⟩:=ak.addr (by omega);rw[o.iP (by omega) (by omega)];refine aa ?_;refine K.du (p.over - 1).toNat (by omega) ad ?_;refine aa ?_;apply K.cond<;>intro g3
 ·refine aa ?_;refine⟨?_,cQ (Ext.refl _)⟩;rw[if_pos (by omega)];rfl
 refine aa ?_;apply K.cond<;>intro g4
 ·refine aa ?_;refine⟨?_,cQ (Ext.refl _)⟩;rw[if_pos (by omega)];rfl
 refine aa ?_;refine⟨?_,cQ (Ext.refl _)⟩;rw[if_neg (by omega)];congr 1;omega
def ZV(x:o.eL):Value:=.agg x.enc.toArray
theorem ZX{q8 w0:World}{b:Nat}{cs:List Value}{m:o.Model}(ay:w0.heap[b]? = some (.cells cs.toArray T.c))(h:o.eh q8 cs m)(o0:Ext q8 w0) :
  SeqStopsK Fence.wide 0 Tryz.prog F.nU #[.pointer (some ⟨b,0,none⟩)] (fun x:o.uH m=>#[ZV x.1]) (uo q8.heap.size [T.i,T.c]) (fun xs=>xs.map Subtype.val=o.insts m) (fun _=>True) (o.insts m).length w0:=by
 intro l iG Tt W aA pR afK cS YB;have Hk:Ext q8 W:=o0.trans aA;have OZ:=Ext.obj (w:=w0) aA ay;obtain⟨cG,bR,cu,c1,cA,c2,cw,bN,cP,bX,rfl,ak,h1,U,ai,aL,et,dY,eg,dK,ed⟩:=h.form;refine callsIn_wide.2 (Calls.mono (show bw Tryz.prog F.nU #[.func (.yield l) #[] #[],.pointer (some ⟨b,0,none⟩)] W (fun _ dV=>(∃xs,xs.map Subtype.val=o.insts m∧iG xs dV)∨(∃pre:List (o.uH m),True∧Tt pre dV)) from ?_) fun e dV ⟨v,bS,aZ⟩=>⟨⟨v,bS⟩,aZ⟩);have OC:∀{pre:List (o.uH m)} {w w':World},iG pre w→Ext w w'→iG pre w':=fun {pre w w'} aP e=>pR pre w w' none aP e.W7 (fun r e=>by cases e);refine bO E.nU ?_;refine bH ?_;refine aa ?_;refine K.cV 9 m.procs.length [0,1,7,8] (fun _=>[]) ([]:List (o.uH m)) (fun k pre w'=>(Ext q8 w'∧w'.heap[b]? = some (.cells #[.slice cG m.scalars.length bR,.slice cu m.vars.length c1,.slice cA m.aK.length c2,.slice cw m.procs.length bN,.slice cP m.props.length bX] T.c)∧iG pre w')∧pre.map Subtype.val++o.jc m (m.procs.drop k) k=o.insts m) bp bp ⟨⟨Hk,OZ,YB⟩,by simp[o.insts]⟩ ?_;clear OZ ay;rintro k pre S ar hk ⟨⟨aE,O1,Pp⟩,o2⟩;refine aa ?_;apply K.cond<;>intro g1
 ·have bd:k<m.procs.length:=by omega
  obtain⟨a,rfl⟩:=ai.addr (by omega);obtain⟨aw,cF,ei,dR,eO,jN⟩:=ai.at k bd;obtain⟨_,_,rfl,_⟩:=eO.form;obtain⟨_,_,rfl,_⟩:=jN.form;rw[o.Qc bd] at o2;have OK:=cL O1;refine eD ?_;simp -dsimp only[bQ];refine eD ?_;simp -dsimp only[bQ];refine eD ?_;intro yy ch en kS mD;refine eD ?_;intro aW ZD aO;have aF:=ZD.ext kS en;have O2:=aF.obj O1;have oh:=OC Pp aF;have fz:∀(q:List (o.uH m)) (r:List o.eL),q.map Subtype.val++r=o.insts m→r≠[]→q.length<(o.insts m).length:=fun q r e ba=>by
   rw[←e,List.length_append,List.length_map]
   have:=List.length_pos_iff.2 ba
   omega
  have ve:=o.Db m m.procs[k];refine eD ?_;refine K.hU [0,1,3,4,7,8,9] (fun _=>[]) (fun(By:List (o.uH m)) w'=>(Ext q8 w'∧w'.heap[ch]? = aW.heap[ch]? ∧ w'.heap[b]? = aW.heap[b]? ∧ iG By w')∧By.map Subtype.val=pre.map Subtype.val++o.iQ k m.procs[k]) ?_ ?_
  ·refine aa ?_;apply K.cond<;>intro g2
   ·have bS:o.iQ k m.procs[k]=[⟨(k:Int),0⟩]:=by unfold o.iQ;rw[if_pos g2]
    rw[bS] at o2;refine aa ?_;refine K.yield (cS pre ⟨⟨(k:Int),0⟩,by simp,by simpa using bd,by simp⟩ aW oh (fz pre _ (by simpa[List.append_assoc] using o2) (by simp))) ?_;rintro e bh (⟨rfl,Aj,kT⟩ | ⟨rfl,Aj⟩)
    ·refine⟨.bool true,rfl,?_⟩;refine aa ?_;exact⟨_,trivial,⟨Below.trans (Ext.trans aE aF) kT.1,kT.2 ch _ _ _ aO (by simp),kT.2 b _ _ _ O2 (by simp),Aj⟩,by simp[bS]⟩
    ·refine⟨.bool false,rfl,?_⟩;refine aa ?_;exact .inr ⟨_,trivial,Aj⟩
   ·have bS:o.iQ k m.procs[k]=[]:=by unfold o.iQ;rw[if_neg g2]
    refine aa ?_;exact⟨pre,trivial,⟨aE.trans aF,bq,bq,oh⟩,by simp[bS]⟩
  rintro I5 S bh ⟨⟨av,bA,O3,Aj⟩,PH⟩;rw[aO] at bA;rw[O2] at O3;refine aa ?_;refine K.call (VQ _ m m.procs[k] _ _ bh (h.ext av)) ?_;rintro _ bj ⟨rfl,aH⟩;have YC:=OC Aj aH;have O4:=aH.obj O3;have nn:=av.trans aH;have PJ:I5.map Subtype.val++o.jy k (o.elems m m.procs[k])++o.jc m (m.procs.drop (k+1)) (k+1)=o.insts m:=by rw[PH,←o2];simp
  refine aa ?_;refine K.cV 27 (o.elems m m.procs[k]) [0,1,3,7,8,9,26] (fun _=>[]) I5 (fun j By w'=>(Ext q8 w'∧w'.heap[b]? = bj.heap[b]? ∧ iG By w')∧By.map Subtype.val=I5.map Subtype.val++o.jy k j) bp bp ⟨⟨nn,rfl,YC⟩,by simp[o.jy]⟩ ?_;rintro j I6 S bF aP ⟨⟨a8,Dz,Pq⟩,vn⟩;rw[O4] at Dz;refine aa ?_;apply K.cond<;>intro g3
  ·have eH:j<o.elems m m.procs[k]:=by omega
   have cb:I6.length<(o.insts m).length:=by
    have bS:=congrArg List.length PJ;have aZ:=congrArg List.length vn;simp only[List.length_append,List.length_map,o.jy,List.length_range] at bS aZ;omega
   refine aa ?_;refine K.yield (cS I6 ⟨⟨(k:Int),(j:Int)+1⟩,by simp,by simpa using bd,by constructor<;>simp<;>omega⟩ bF Pq cb) ?_;rintro e bV (⟨rfl,HB,Ak⟩ | ⟨rfl,HB⟩)
   ·refine⟨.bool true,rfl,?_⟩;refine aa ?_;exact⟨eH,bq,_,trivial,⟨Below.trans a8 Ak.1,by rw[Ak.2 b _ _ _ Dz (by simp),Dz,O4],HB⟩,by simp[vn,o.Rt]⟩
   ·refine⟨.bool false,rfl,?_⟩;refine aa ?_;exact .inr ⟨_,trivial,HB⟩
  ·have ly:j=o.elems m m.procs[k]:=by omega
   subst ly;refine aa ?_;exact⟨bd,bq,I6,trivial,⟨a8,Dz,Pq⟩,by rw[vn];exact PJ⟩
 ·refine aa ?_;rw[List.drop_eq_nil_of_le (by omega)] at o2;exact .inl ⟨pre,by simpa[o.jc] using o2,Pp⟩
end Go.Proofs.R
end
section
namespace bn
open Go Go.RowKit
def M5(dw t:TypeId)(sz b:Nat)(z:Array Value):yX:=⟨13,[.tmp 4],
 (.q4 (.bL [aB 2 (.box dw (ab 0)),ag 4 (.const (.slice none 0 0))])
 (.vU (.q4 (.bL [I 6 1])
 (.aR 0 (.vS (ab 6) 7 (.bL [aB 5 (.new t (.agg z)),iD (.ph sz (ab 5) (ab 7))]) (.aR 1 (.bL [ae 8 2,oH 9 (.jd sz (ab 5)),aB 10 (.cU t 1 sz z.toList [(0,(ab 9))]),aB 11 (.app dw t sz b (ab 8) (ab 10)),ys 2 11])))))
 (.seq (.bL [ae 12 2,I 4 12])
 .ret)))⟩
theorem QO:∀(vs pre post:List Value),vs.length≤post.length→(vs.zipIdx pre.length).foldl (fun cs (x:Value×Nat)=>cs.set (0+x.2) x.1) (pre++post)=pre++vs++post.drop vs.length
 | [],pre,post,_=>by simp
 | v :: vs,pre,[],h=>by simp at h
 | v :: vs,pre,p :: post,h=>by
  have eo:=QO vs (pre++[v]) post (by simpa using h);simp only[List.length_append,List.length_cons,List.length_nil] at eo;simp only[List.zipIdx_cons,List.foldl_cons,List.length_cons,List.drop_succ_cons];rw[show(pre++p :: post).set (0+pre.length) v=(pre++[v])++post from by simp,eo];simp
theorem WC{S:Fr}{sz:Nat}{z cs:List Value}{t:Nat}(aG:S t = .agg cs.toArray)(ay:cs.length=sz)(bK:z.length=sz)(ak:0<sz):ep S ((List.range 1).map fun i=>(i*sz,sz)) [(0,.tmp t)] z=some cs:=by
 have e:lay z 0 (.agg cs.toArray)=cs:=by
  have:=QO cs [] z (by omega)
  simp only[List.nil_append,List.length_nil] at this;unfold lay;simp only[Value.cells];rw[this,List.drop_eq_nil_of_le (by omega),List.append_nil]
 have bS:(a7 S (.tmp t)).cells.size=sz:=by
  show(S t).cells.size=sz;rw[aG];simp[Value.cells,ay]
 have aZ:((List.range 1).map fun i=>(i*sz,sz))[0]? = some (0,sz):=by simp
 unfold ep;simp only[aZ];rw[if_pos ⟨bS,by omega⟩];unfold ep;show some (lay z 0 (S t))=_;rw[aG,e]
section
variable{α:Type}{P:Program}{f:FuncId}{t dw:TypeId}{sz b:Nat}{enc:α→List Value}{z:Array Value}
theorem T6(hm:P.follows .mixedOrders=true)(gO:zm P f=some (M5 dw t sz b z))(bK:z.size=sz)(hlen:∀x,(enc x).length=sz)(rY:∀x,∀u∈enc x,u.oneCell'=true)(c5:0<sz)
  {ku:Nat}{hv:Array Value}{jf:Nat}{nB:List TypeId}{nR py:List α→Prop}{N:Nat}{w0 w:World}(c4:okF P ku=true)
  (vq:SeqStopsK Fence.wide 0 P ku hv (fun x=>#[.agg (enc x).toArray]) (uo jf nB) nR py N w0)(he:Ext w0 w)(vl:jf≤w.heap.size)(aG:t∉nB)(Az:dw∉nB)(de:dw≠t)(fD:N*b≤140737488355328)(afM:N≤maxLen) :
  bw P f #[.slice none 0 0,.func (.func ku) #[] hv] w fun v w'=>(∃xs,nR xs∧br enc t sz w.heap.size w' v xs)∧Ext w w':=by
 refine oK.start hm gO (args:=[_,_]) (Nat.le_of_ble_eq_true rfl) ?_;dsimp only[M5,ab,af,b1,aY,oH,aB,dL,iD,wg,I,ag,ah,ae,bm,ys,bC];refine oK.q4 ?_;refine aa ?_;intro ar bz cN aE al;refine aa ?_;refine oK.vU (oK.q4 ?_);simp -dsimp only[bU,bQ,Nat.reduceAdd,Nat.reduceEqDiff,reduceIte,reduceCtorEq,bZ];refine oK.aR (oK.vS (w0:=w0) (enc:=fun x=>.agg (enc x).toArray) (by simp[eS,ca]) c4 vq (he.trans aE) (uo.ok nB (Nat.le_trans vl aE.size))
  (fun pre W=>Mod (fun k=>k=bz) ar W∧∃(bf:Option Addr) (n c:Nat),W.heap[bz]? = some (.cells #[.slice bf n c] dw)∧br enc t sz ar.heap.size W (.slice bf n c) pre) ?_ ⟨Mod.refl _ _,none,0,0,al,br.nil _ _ _ _ _⟩ ?_ ?_)
 ·rintro pre W dV row ⟨hm,bf,n,c,aA,a1⟩ aX ba;refine⟨hm.high aX fun r e=>(ba r e).1,bf,n,c,?_,a1.mod (Mod.grown (A:=fun k=>row=some k) aX fun k e=>e) fun k hk a=>?_⟩
  ·rw[aX.block bz (cL aA) fun e=>?_]
   ·exact aA
   ·obtain⟨aj,h1,U⟩:=(ba bz e.symm).2;rw[aA] at h1;injection h1 with h1;subst h1;cases U
  ·obtain⟨cur,ai⟩:=a1.aR k hk;obtain⟨aj,h1,U⟩:=(ba k a).2;rw[ai] at h1;injection h1 with h1;subst h1;cases U
 ·rintro pre x W ⟨hm,bf,n,c,oY,a1⟩ cb;have Pu:=cL al;have agy:=hm.size
  try (simp -dsimp only[bU,bQ,Nat.reduceAdd,Nat.reduceEqDiff,reduceIte,reduceCtorEq,bZ])
  refine K.new fun jk jl nj a8 cK=>?_
  try (simp -dsimp only[bU,bQ,Nat.reduceAdd,Nat.reduceEqDiff,reduceIte,reduceCtorEq,bZ])
  refine K.jh cK bK (by simpa using hlen x) (by simpa using rY x) fun fU hw aO=>?_
  try (simp -dsimp only[bU,bQ,Nat.reduceAdd,Nat.reduceEqDiff,reduceIte,reduceCtorEq,bZ])
  have aZ:=hw.ext a8 nj;refine⟨aZ.keeps _,aZ.ij (by omega),fun nf HY=>?_⟩;obtain⟨l,aN,Px,rV⟩:=HY.mod;have bA:=HY.cells aO;have gh:=HY.cells (aZ.obj oY);have gm:br enc t sz ar.heap.size nf (.slice bf n c) pre:=(a1.ext aZ).mod rV fun k hk a=>by
   subst a;obtain⟨cur,ai⟩:=(a1.ext aZ).aR k hk;exact Px _ _ _ ai
  try (simp -dsimp only[bU,bQ,Nat.reduceAdd,Nat.reduceEqDiff,reduceIte,reduceCtorEq,bZ])
  refine K.dp gh (Ext.refl _) rfl ?_
  try (simp -dsimp only[bU,bQ,Nat.reduceAdd,Nat.reduceEqDiff,reduceIte,reduceCtorEq,bZ])
  refine K.jd (gM bA) (hlen x) ?_
  try (simp -dsimp only[bU,bQ,Nat.reduceAdd,Nat.reduceEqDiff,reduceIte,reduceCtorEq,bZ])
  refine K.j3 (WC (cs:=enc x) (by simp[ca]) (hlen x) (by simpa using bK) c5) fun TK y7 Ds aH b0=>?_
  try (simp -dsimp only[bU,bQ,Nat.reduceAdd,Nat.reduceEqDiff,reduceIte,reduceCtorEq,bZ])
  have YQ:pre.length+1≤N:=cb;refine K.uI (ys:=[x]) (gm.ext aH) hlen (by simpa using gM b0) rfl rY (Nat.le_trans (Nat.mul_le_mul_right b YQ) fD) (by simp only[List.length_cons,List.length_nil];omega) (by have:=rV.size;have:=aH.size;have:=aZ.size;omega) fun b7 pA ee hG lu=>?_;obtain⟨kf,mu,rfl,_⟩:=ee.form;have fo:=aH.obj gh;have zX:pA.heap[bz]? = some (.cells #[.slice bf n c] dw):=by
   rw[hG.block bz (cL fo) fun e=>?_]
   ·exact fo
   ·obtain⟨cur,ai⟩:=(gm.ext aH).aR bz e.symm;rw[fo] at ai;injection ai with ai;injection ai with _ ai;exact de ai
  try (simp -dsimp only[bU,bQ,Nat.reduceAdd,Nat.reduceEqDiff,reduceIte,reduceCtorEq,bZ])
  refine K.qf zX (by simp) rfl fun lk fY cW=>?_
  try (simp -dsimp only[bU,bQ,Nat.reduceAdd,Nat.reduceEqDiff,reduceIte,reduceCtorEq,bZ])
  have gA:∀k,(Value.slice bf n c).ownBlock=some k→ar.heap.size≤k:=fun k hk=>(gm.lt k hk).1;have aaP:Mod (fun k=>(Value.slice bf n c).ownBlock=some k∨k=bz) TK lk:=(Mod.grown (A:=fun k=>(Value.slice bf n c).ownBlock=some k) hG fun k e=>e).comp (A':=fun k=>k=bz) (fY.mod rfl) (fun _ _ a=>.inl a) (fun _ _ a=>.inr a);have IK:Mod (fun k=>(Value.slice bf n c).ownBlock=some k∨k=bz) nf lk:=aH.mod.comp aaP (A:=fun _=>False) (fun _ _ h=>h.elim) (fun _ _ h=>h);refine⟨IK.keeps fun k hk a=>?_,IK.ij (by have:=rV.size;have:=aZ.size;omega) (fun k hk a=>?_) (fun k s0 im xb a hk tB=>?_),?_,kf,_,mu,cW,?_⟩
  ·rcases a with a | a
   ·obtain⟨cur,ai⟩:=gm.aR k a;exact⟨_,_,_,ai⟩
   ·subst a;exact⟨_,_,_,gh⟩
  ·rcases a with a | a
   ·have:=gA k a;have:=aE.size;omega
   ·omega
  ·rcases a with a | a
   ·obtain⟨cur,ai⟩:=gm.aR k a;rw[ai] at hk;injection hk with hk;injection hk with _ hk;subst hk;exact aG tB
   ·subst a;rw[gh] at hk;injection hk with hk;injection hk with _ hk;subst hk;exact Az tB
  ·refine(hm.comp (B:=fun k=>k=bz) (A':=fun k=>(Value.slice bf n c).ownBlock=some k∨k=bz∨k=l) ?_ (fun _ _ a=>a) fun k hk a=>?_)
   ·exact(aZ.mod (A:=fun _=>False)).comp (rV.comp IK (fun _ _ a=>(Or.inr (Or.inr a):_∨_∨_)) (fun _ _ a=>by rcases a with a | a;exact .inl a;exact .inr (.inl a))) (fun _ _ h=>h.elim) (fun _ _ h=>h)
   ·rcases a with a | a | a
    ·have:=gA k a;omega
    ·exact a
    ·omega
  ·refine ee.mod (fY.mod (A:=fun k=>k=bz) rfl) fun k hk a=>?_;subst a;obtain⟨cur,ai⟩:=ee.aR k hk;rw[zX] at ai;injection ai with ai;injection ai with _ ai;exact de ai
 ·rintro D xs W qD cn ⟨hm,bf,n,c,oY,a1⟩ bx;simp -dsimp only[bU,bQ,Nat.reduceAdd,Nat.reduceEqDiff,reduceIte,reduceCtorEq,bZ];refine K.dp oY (Ext.refl _) rfl ?_;simp -dsimp only[bU,bQ,Nat.reduceAdd,Nat.reduceEqDiff,reduceIte,reduceCtorEq,bZ];refine oK.ret bx ?_;simp -dsimp only[bU,bQ,Nat.reduceAdd,Nat.reduceEqDiff,reduceIte,reduceCtorEq,bZ];have bS:Ext w W:=hm.ext aE fun k hk e=>by omega
  refine⟨⟨xs,cn,(a1.mod (A:=fun k=>k=D) ((dT.fk _ _ _).mod rfl) fun k hk a=>?_).low aE.size⟩,bS.fk (Nat.le_trans aE.size qD) _⟩;subst a;obtain⟨cur,ai⟩:=a1.aR k hk;rw[bx] at ai;injection ai with ai;cases ai
end
end bn
end
section
namespace bn
open Go Go.RowKit
theorem br.map{α β:Type}{enc:β→List Value}{g:α→β}{e:TypeId}{sz base:Nat}{w:World}{v:Value}{xs:List α}(h:br (fun x=>enc (g x)) e sz base w v xs):br enc e sz base w v (xs.map g):=by
 unfold br at *;rw[List.length_map,List.flatMap_map];exact h
theorem br.lI{α:Type}{enc:α→List Value}{e:TypeId}{sz base:Nat}{w:World}{v:Value}{xs:List α}(c5:∀x,(enc x).length=sz)(h:br enc e sz base w v xs):bE sz (Flat enc) w v xs:=br.pf c5 h
theorem br.new{α:Type}{enc:α→List Value}{e:TypeId}{sz:Nat}{w w':World}{v:Value}{xs:List α}(c5:∀x,(enc x).length=sz)(h:br enc e sz w.heap.size w' v xs):ea w (fun w=>bE sz (Flat enc) w v xs) w':=fun aW m =>
 br.pf c5 (br.mod h m fun k hk a=>by have:=(h.lt k hk).1;omega)
end bn
namespace Go.Proofs.R
open Go Go.RowKit bn
abbrev pt(w:World)(v:Value)(l:List o.eL):Prop:=bE 2 (Flat o.eL.enc) w v l
abbrev TF(w:World)(v:Value)(l:List o.Ref):Prop:=bE 2 (Flat o.Ref.enc) w v l
theorem Z0(cs:List Value)(m:o.Model)(w:World)(h:o.eh w cs m) :
  bw Tryz.prog F.uN #[.agg cs.toArray] w fun v w'=>(∃b,v = .func (.func F.nU) #[] #[.pointer (some ⟨b,0,none⟩)]∧w'.heap[b]? = some (.cells cs.toArray T.c))∧Ext w w':=by
 obtain⟨cG,bR,cu,c1,cA,c2,cw,bN,cP,bX,rfl,_⟩:=h.form;refine bO E.uN ?_;refine bH ?_;refine aa ?_;intro ar bz cN aE al;refine aa ?_;exact⟨⟨bz,rfl,al⟩,aE⟩
theorem Is(cs:List Value)(m:o.Model)(w:World)(h:o.eh w cs m)(aX:m.cM) :
  bw Tryz.prog F.g #[.agg cs.toArray] w fun v w'=>br o.eL.enc T.m 2 w.heap.size w' v (o.insts m)∧Ext w w':=by
 obtain⟨cG,bR,cu,c1,cA,c2,cw,bN,cP,bX,rfl,_⟩:=h.form;have bg:=aX.procs;have aN:=o.tF m;unfold o.dW at bg;refine bO E.g ?_;refine bH ?_;refine aa ?_;intro ar bz cN aE al;refine aa ?_;refine K.call (Z0 _ m ar (h.ext aE)) ?_;rintro _ aW ⟨⟨b,rfl,aO⟩,aF⟩;have cQ:Ext w aW:=aE.trans aF;refine aa ?_;refine K.call (f:=F.n1) (R:=fun v w'=>br o.eL.enc T.m 2 aW.heap.size w' v (o.insts m)∧Ext aW w') ?_ ?_
 ·refine bO E.n1 ?_;refine bH ?_;refine aa ?_;refine K.call (T6 (α:=o.uH m) (enc:=fun x=>x.1.enc) lz Tr.w8 rfl (fun _=>rfl) (fun x u hu=>by simp[o.eL.enc] at hu;rcases hu with rfl | rfl<;>rfl) (by decide) (by kernel_rfl)
   (ZX aO h cQ) (Ext.refl _) cQ.size (by decide) (by decide) (by decide) (by omega) (by unfold maxLen;omega)) ?_
  rintro v bh ⟨⟨xs,r4,a1⟩,av⟩;refine aa ?_;exact⟨by rw[←r4];exact a1.map,av⟩
 ·rintro v bh ⟨a1,av⟩;refine aa ?_;exact⟨a1.low cQ.size,cQ.trans av⟩
structure afd(ar:World)(cE eu jl:Nat)(s:Int×o.eL×List o.Ref)(W:World):Prop where
 mod:Mod (fun k=>k∈[cE,eu,jl]) ar W
 ex:∃bf n c,W.heap[cE]? = some (.cells #[.slice bf n c] T.Ue)∧br o.Ref.enc T.a0 2 ar.heap.size W (.slice bf n c) s.2.2
 aL:W.heap[eu]? = some (.cells #[.int .i64 s.1] T.a)
 bt:W.heap[jl]? = some (.cells s.2.1.enc.toArray T.m)
end Go.Proofs.R
end
section
namespace o
theorem Qb:∀(y:eL),∀u∈y.enc,u.oneCell'=true:=by intro y u hu;simp[eL.enc] at hu;rcases hu with rfl | rfl<;>rfl
end o
namespace Go.Proofs.R
open Go Go.RowKit bn
theorem EG(cs:List Value)(m:o.Model)(w:World)(h:o.eh w cs m)(aX:m.cM) :
  bw Tryz.prog F.tO #[.agg cs.toArray] w fun v w'=>br o.eL.enc T.m 2 w.heap.size w' v (o.insts m)∧Ext w w':=by
 obtain⟨cG,bR,cu,c1,cA,c2,cw,bN,cP,bX,rfl,ak,h1,U,ai,aL,et,dY,eg,dK,ed⟩:=h.form;have bg:=aX.procs;have aN:=o.tF m;unfold o.dW at bg;refine bO E.tO ?_;refine bH ?_;refine aa ?_;intro ar bz cN aE al;refine aa ?_;refine K.cV 4 m.procs.length [1] (fun x:gv×List o.eL=>[(3,.slice x.1.1 x.1.2.1 x.1.2.2)]) ((none,0,0),[]) (fun k x w'=>(Ext w w'∧w'.heap[bz]? = ar.heap[bz]?)∧br o.eL.enc T.m 2 w.heap.size w' (.slice x.1.1 x.1.2.1 x.1.2.2) x.2∧x.2++o.jc m (m.procs.drop k) k=o.insts m) bp bp ⟨⟨aE,rfl⟩,br.nil _ _ _ _ _,by simp[o.insts]⟩ ?_;rw[al];clear al;rintro k ⟨v,l⟩ S aW hk ⟨⟨aF,aO⟩,js,qL⟩;refine aa ?_;apply K.cond<;>intro g1
 ·have bd:k<m.procs.length:=by omega
  obtain⟨a,rfl⟩:=ai.addr (by omega);obtain⟨aw,cF,ei,dR,eO,jN⟩:=ai.at k bd;obtain⟨_,_,rfl,_⟩:=eO.form;obtain⟨_,_,rfl,_⟩:=jN.form;rw[o.Qc bd] at qL;have tx:=congrArg List.length qL;simp only[List.length_append] at tx;have ve:=o.Db m m.procs[k];refine eD ?_;simp -dsimp only[bQ];refine eD ?_;refine K.hU [1,4] (fun x:gv=>[(3,.slice x.1 x.2.1 x.2.2)]) (fun x w'=>(Ext w w'∧w'.heap[bz]? = aW.heap[bz]?)∧br o.eL.enc T.m 2 w.heap.size w' (.slice x.1 x.2.1 x.2.2) (l++o.iQ k m.procs[k])) ?_ ?_
  ·refine aa ?_;apply K.cond<;>intro g2
   ·have bS:o.iQ k m.procs[k]=[⟨(k:Int),0⟩]:=by unfold o.iQ;rw[if_pos g2]
    rw[bS] at tx ⊢;simp only[List.length_cons,List.length_nil] at tx;refine aa ?_;intro bh cE gh av bA;have gm:=js.ext av;have oY:=av.obj aO;refine aa ?_;refine K.kq (y:=⟨(k:Int),0⟩) gm bA rfl (fun _=>rfl) o.Qb (by simp only;omega) (by unfold maxLen;simp only;omega) (aF.trans av).size fun bf n c bj gz DK=>?_;refine aa ?_;exact⟨(bf,n,c),bp,⟨gm.jo (aF.trans av) DK (Nat.le_refl _),by rw[aO];exact gm.box DK oY (by decide)⟩,gz⟩
   ·have bS:o.iQ k m.procs[k]=[]:=by unfold o.iQ;rw[if_neg g2]
    refine aa ?_;exact⟨v,bp,⟨aF,bq⟩,by rw[bS,List.append_nil];exact js⟩
  rintro v3 S bh ⟨⟨av,bA⟩,gm⟩;rw[aO] at bA;clear aO;refine aa ?_;refine K.yz [1,4] (fun x:gv×Nat=>[(3,.slice x.1.1 x.1.2.1 x.1.2.2),(5,.int .i64 ((x.2:Int)+1))]) (v3,0) (fun x w'=>(x.2≤o.elems m m.procs[k]∧Ext w w'∧w'.heap[bz]? = bh.heap[bz]?)∧br o.eL.enc T.m 2 w.heap.size w' (.slice x.1.1 x.1.2.1 x.1.2.2) (l++o.iQ k m.procs[k]++o.jy k x.2)) (fun x=>4 - x.2) bp ⟨⟨Nat.zero_le _,av,rfl⟩,by simpa[o.jy] using gm⟩ ?_;rw[bA];clear bA;rintro⟨v4,j⟩ S bj ⟨⟨aP,aH,b0⟩,gz⟩;refine aa ?_;refine K.fj _ (fun w' e=>acO _ m m.procs[k] _ _ w' (h.ext (aH.trans e))) ?_;refine aa ?_;intro bF a8;have cK:=a8.obj b0;have ee:=gz.ext a8;refine aa ?_;apply K.cond<;>intro g2
  ·have eH:j<o.elems m m.procs[k]:=by omega
   refine aa ?_;intro bV ia gi bo cW;have dH:=ee.ext bo;have oY:=bo.obj cK;have xm:=(aH.trans a8).trans bo;refine aa ?_;have ky:(l++o.iQ k m.procs[k]++o.jy k j).length+1≤(o.insts m).length:=by
    simp only[List.length_append,o.jy,List.length_map,List.length_range] at tx ⊢;omega
   refine K.kq (y:=⟨(k:Int),(j:Int)+1⟩) dH cW rfl (fun _=>rfl) o.Qb (Nat.le_trans (Nat.mul_le_mul_right 16 ky) (by omega)) (Nat.le_trans ky (by unfold maxLen;omega)) xm.size fun bf n c cc dk iM=>?_;refine aa ?_;exact⟨((bf,n,c),j+1),bp,⟨⟨by show j+1≤_;omega,dH.jo xm iM (Nat.le_refl _),dH.box iM oY (by decide)⟩,by rw[o.Rt,←List.append_assoc];exact dk⟩,by show 4 - (j+1)<4 - j;omega⟩
  ·have ly:j=o.elems m m.procs[k]:=by simp only at aP;omega
   refine aa ?_;exact⟨bd,bq,(v4,l++(o.iQ k m.procs[k]++o.jy k j)),bp,⟨aH.trans a8,cK⟩,by rw[←List.append_assoc];exact ee,by rw[ly,←qL];simp⟩
 ·rw[List.drop_eq_nil_of_le (by omega)] at qL;refine aa ?_;refine⟨?_,aF⟩;simp only[o.jc,List.append_nil] at qL;rw[←qL];exact js
end Go.Proofs.R
end
section
namespace bn
open Go
def eb(n:Int):List Value:=[.int .i64 n]
theorem lV:∀(y:Int),∀u∈eb y,u.oneCell'=true:=by intro y u hu;simp[eb] at hu;subst hu;rfl
instance agM:k7 (Flat eb) (fun n=>[Value.int .i64 n]):=⟨fun _ _ _ h=>h⟩
end bn
end
section
set_option linter.unusedSimpArgs false
namespace Go.Proofs.R
open Go Go.RowKit bn
abbrev encI:Int→List Value:=fun n=>[Value.int .i64 n]
abbrev kB(base:Nat)(w:World)(v:Value)(xs:List Int):Prop:=br encI T.a 1 base w v xs
structure nK(base b:Nat)(w:World)(m:Value)(st:List Int):Prop where
 ex:∃vX,w.heap[b]? = some (.cells #[vX,m] T.lS)∧kB base w vX st
 lt:b<base
 le:base≤w.heap.size
theorem nK.ext{base b:Nat}{w w':World}{m:Value}{st:List Int}(h:nK base b w m st)(he:Ext w w'):nK base b w' m st :=
 let ⟨vX,h1,U⟩:=h.ex
 ⟨⟨vX,he.obj h1,U.ext he⟩,h.lt,Nat.le_trans h.le he.size⟩
theorem zJ(st:List Int)(h:0<st.length):st.getLastD 0=st[st.length - 1]:=by
 rw[List.getLastD_eq_getLast?,List.getLast?_eq_getElem?,List.getElem?_eq_getElem (by omega)];rfl
theorem SN(base b:Nat)(w:World)(m:Value)(st:List Int)(h:nK base b w m st)(ak:0<st.length) :
  bw Tryz.prog F.fm #[.pointer (some ⟨b,0,none⟩)] w fun v w'=>v = .int .i64 (st.getLastD 0)∧Ext w w':=by
 obtain⟨vX,cR,a1⟩:=h.ex;obtain⟨bf,cap,rfl,ay,hm⟩:=a1.form;have ad:Ints w _ st:=br.pf (enc:=encI) (sz:=1) (fun _=>rfl) a1;obtain⟨a,rfl⟩:=ad.addr ak;unfold maxLen at hm;refine bO E.fm ?_;refine bH ?_;refine aC ?_;refine K.du (st.length - 1) (by omega) (by omega) ?_;refine aC ?_;intro ar he;refine aC ?_;rw[zJ _ ak];exact b2
theorem Z8(x:o.Node)(cs:List Value)(s:o.Scope)(base b:Nat)(w:World)(m:Value)(st:List Int)(aD:x.ok)(h:o.e5 w cs s)(hm:nK base b w m st)(ai:x.op=3→0<st.length) :
  bw Tryz.prog F.zw #[.pointer (some ⟨b,0,none⟩),.agg x.enc.toArray,.agg cs.toArray] w fun v w'=>v = .tuple #[.int .i64 (o.hN x s (st.getLastD 0)).1,.int .i64 (o.hN x s (st.getLastD 0)).2]∧Ext w w':=by
 obtain⟨a0,bR,dF,c1,a2,c2,a3,bN,a4,bX,rfl,qc,dS,dP,dD,gT,et,dY,eg,dK,ed⟩:=h.form;refine bO E.zw ?_;refine bH ?_;simp -dsimp only[bQ];refine nS ?_;refine K.new fun ar bz cN aE al=>?_;refine nS ?_;refine K.new fun aW ch en aF aO=>?_;have he:=aE.trans aF;have da:aW.heap[bz]? = some (.cells #[.int .i64 x.op,.int .i64 x.n] T.f):=aF.obj al;clear al;refine nS ?_;simp -dsimp only[bQ];refine nS ?_;refine K.cut (fun a6 w'=>a6 0 = .pointer (some ⟨b,0,none⟩)∧a6 4 = .pointer (some ⟨bz,0,none⟩)∧a6 5 = .pointer (some ⟨ch,0,none⟩)∧w'=aW∧(x.op=2∨x.op=3∨x.op=4) ∧
  a6 8=if x.op=4 then .slice a4 s.locals.length bX else .slice dF s.vars.length c1) ?_ ?_
 ·refine aC ?_;apply K.cond<;>intro g1
  ·refine aC ?_;refine K.call (FQ x.n 0 aW) ?_;rintro _ bh ⟨rfl,av⟩;have hk:o.hN x s (st.getLastD 0)=if o.within x.n then (0,0) else (0,10):=by rw[o.hN,if_pos g1]
   have aG:(o.tell (· + ·) x.n 0).2=o.within x.n:=by
    unfold o.tell
    have:o.within 0=true:=rfl
    simp only[Int.add_zero,this,Bool.and_true,Bool.and_self];split<;>simp_all
   rw[hk,aG];refine aC ?_;refine K.c3 (fun g2=>?_) (fun g2=>?_)
   all_goals
    refine aC ?_;rw[g2];exact b2
  refine aC ?_;apply K.cond<;>intro g4
  ·refine aC ?_;refine⟨trivial,trivial,trivial,trivial,.inr (.inr g4),by rw[if_pos g4]⟩
  refine aC ?_;apply K.cond<;>intro g2
  ·refine aC ?_;refine⟨trivial,trivial,trivial,trivial,.inl g2,by rw[if_neg g4]⟩
  refine aC ?_;apply K.cond<;>intro g3
  ·refine aC ?_;refine⟨trivial,trivial,trivial,trivial,.inr (.inl g3),by rw[if_neg g4]⟩
  refine aC ?_;refine K.fO (c:=[_,_]) da (Ext.refl _) rfl ?_;refine aC ?_;refine K.fO (c:=[_,_,_,_,_,_]) aO (Ext.refl _) rfl ?_;refine aC ?_;refine K.call (Z9 x _ s aW aD (h.ext he)) ?_;rintro _ bh ⟨rfl,av⟩;refine aC ?_;have hk:o.hN x s (st.getLastD 0)=o.kz x s:=by rw[o.hN,if_neg g1,if_neg (by omega)]
  rw[hk];exact b2
 ·rintro S w' cn ⟨gJ,pd,pe,rfl,ka,Se⟩;have hk:o.hN x s (st.getLastD 0)=(let q:=o.fh (if x.op=4 then s.locals else s.vars) x.n s;if q.2.2=false then (0,8) else if (x.op=3∧(q.2.1=0∨st.getLastD 0≠q.2.1))∨(x.op≠3∧q.2.1≠0) then (0,9) else (q.1,0)):=by
   rw[o.hN,if_neg (by omega),if_pos ka]
  rw[hk];clear hk;have aS:o.gL w' (S 8) (if x.op=4 then s.locals else s.vars):=by
   rw[Se];split
   ·exact gT.ext he
   ·exact dS.ext he
  generalize (if x.op=4 then s.locals else s.vars)=l at aS ⊢;obtain⟨JU,jI⟩:∃JU,S 8=JU:=⟨_,rfl⟩;rw[jI] at aS;clear Se;refine c0 (And.intro gJ (And.intro pd (And.intro pe jI))) ?_;refine K.fO (c:=[_,_,_,_,_,_]) aO (Ext.refl _) rfl ?_;refine c0 (And.intro gJ (And.intro pd pe)) ?_;refine K.call (aeF _ l x.n _ s w' aS (h.ext he)) ?_;rintro _ bh ⟨rfl,av⟩;generalize o.fh l x.n s=q;obtain⟨x8,vR,Jc⟩:=q;refine c0 (And.intro gJ (And.intro pd pe)) ?_;refine K.c3 (fun g1=>?_) (fun g1=>?_);rotate_left
  ·refine aC ?_;simp only[g1,if_true];exact b2
  have m3:=(hm.ext he).ext av;refine c0 (And.intro gJ (And.intro pd pe)) ?_;apply K.cond<;>intro g2
  ·refine c0 (And.intro gJ (And.intro pd pe)) ?_;apply K.cond<;>intro g3
   ·refine c0 (And.intro gJ (And.intro pd pe)) ?_;simp only[g1,Bool.true_eq_false,if_false];rw[if_pos (.inl ⟨g2,.inl g3⟩)];exact b2
   refine c0 (And.intro gJ (And.intro pd pe)) ?_;refine K.call (SN base b bh m st m3 (ai g2)) ?_;rintro _ bj ⟨rfl,aH⟩;refine c0 (And.intro gJ (And.intro pd pe)) ?_;apply K.cond<;>intro g4
   ·refine c0 (And.intro gJ (And.intro pd pe)) ?_;simp only[g1,Bool.true_eq_false,if_false];rw[if_neg (by omega)];exact b2
   ·refine aC ?_;simp only[g1,Bool.true_eq_false,if_false];rw[if_pos (.inl ⟨g2,.inr g4⟩)];exact b2
  ·refine c0 (And.intro gJ (And.intro pd pe)) ?_;apply K.cond<;>intro g4
   all_goals
    refine aC ?_;simp only[g1,Bool.true_eq_false,if_false]
   ·rw[if_neg (by omega)];exact b2
   ·rw[if_pos (.inr ⟨g2,g4⟩)];exact b2
end Go.Proofs.R
end
section
set_option linter.unusedSimpArgs false
namespace Go.Proofs.R
open Go Go.RowKit bn
theorem K.RG{P:Program}{x:Value}{args:List Value}{w:World}{ax:Value→Prop}{t}(v:Value)(h:∀w',Ext w w'→rb P x args w' (fun u bW=>u=v∧Ext w' bW) ⟨⟩)(hk:ax v):yT P x args w ax t:=by
 unfold yT;refine⟨v,fun w' he=>?_,hk⟩
 have:=h w' he
 unfold rb at this;obtain⟨f,first,cap,e,aI,ba⟩:=this;exact⟨f,first,cap,e,aI,ba.mono fun _ _ ⟨h1,U⟩=>⟨h1,he.trans U⟩⟩
theorem sI.ext{w w':World}{v:Value}{g:Int→Int→Int×Bool}(he:Ext w w')(h:sI w v g):sI w' v g:=by
 rcases h with h | ⟨c,f,p,h1,U,ai⟩
 ·exact .inl h
 ·exact .inr ⟨c,f,p,h1,he.obj U,ai⟩
def EY(f:o.Node→List Int→Int×Int)(two:o.mi→List Int→Int×Int)(leaf:o.Node→List Int→Int×Int):Prop :=
 ∀x st,f x st=match o.fS x.op with | some aj=>two aj (st.drop (st.length - aj.parts.toNat)) | none=>leaf x st
theorem IX{x:Int}{aj:o.mi}(h:o.fS x=some aj):1≤aj.parts∧aj.parts≤2:=by
 unfold o.fS at h
 repeat' split at h
 all_goals first | (cases h;exact⟨by decide,by decide⟩) | cases h
theorem ad6(f:o.Node→List Int→Int×Int)(two:o.mi→List Int→Int×Int)(leaf:o.Node→List Int→Int×Int)(aI:EY f two leaf)
  (x:o.Node)(base b:Nat)(w:World)(m mU v2:Value)(st:List Int)(hm:nK base b w m st)(a1:nL w m)(rH:st.length≤24)
  (HH:0≤o.eI x.op→o.eI x.op≤st.length→o.fS x.op=none→∀w' cI t,Ext w w'→(∀bW,Ext w' bW→cI (.tuple #[.int .i64 (leaf x st).1,.int .i64 (leaf x st).2]) bW)→ui Tryz.prog mU [.agg x.enc.toArray] w' cI t)
  (Ia:∀aj e4 fA w' cI t,Ext w w'→o.fS x.op=some aj→yQ w' aj e4→aj.parts≤st.length→Ints w' fA (st.drop (st.length - aj.parts.toNat)) →
   (∀bW,Ext w' bW→cI (.tuple #[.int .i64 (two aj (st.drop (st.length - aj.parts.toNat))).1,.int .i64 (two aj (st.drop (st.length - aj.parts.toNat))).2]) bW)→rb Tryz.prog v2 [e4,fA] w' cI t) :
  bw Tryz.prog F.zp #[.pointer (some ⟨b,0,none⟩),.agg x.enc.toArray,mU,v2] w fun v w' =>
   v = .int .i64 (o.stepG f x st).1∧Mod (fun k=>k=b∨base≤k) w w'∧((o.stepG f x st).1=0→nK base b w' m (o.stepG f x st).2):=by
 obtain⟨vX,cR,gA⟩:=hm.ex;obtain⟨bf,cap,rfl,tm,ht⟩:=gA.form;have ad:Ints w _ st:=br.pf (enc:=encI) (sz:=1) (fun _=>rfl) gA;unfold maxLen at ht;refine bO E.zp ?_;refine bH ?_;simp -dsimp only[bQ];refine nS ?_;refine K.new fun ar bz cN aE al=>?_;refine nS ?_;simp -dsimp only[bQ];refine nS ?_;refine K.fj _ (fun w' e=>abT x.op m w' (a1.ext (aE.trans e))) ?_;refine nS ?_;intro aW aF;have gy:=aE.trans aF;refine nS ?_;simp -dsimp only[bQ];generalize aM:o.eI x.op=n;have qN : -1≤n∧n≤2:=by rw[←aM];unfold o.eI; (repeat' split)<;>omega
 refine aC ?_;apply K.cond<;>intro g1
 ·refine aC ?_;have aw:o.stepG f x st=(3,st):=by unfold o.stepG;rw[aM,if_pos g1]
  rw[aw];exact⟨rfl,gy.mod,fun h=>by cases h⟩
 refine aC ?_;apply K.cond<;>intro g2
 ·refine aC ?_;have aw:o.stepG f x st=(4,st):=by unfold o.stepG;rw[aM,if_neg g1,if_pos g2]
  rw[aw];exact⟨rfl,gy.mod,fun h=>by cases h⟩
 refine nS ?_;simp -dsimp only[bQ];refine nS ?_;simp -dsimp only[bQ];refine nS ?_;have ef:o.stepG f x st=if (f x st).2≠0 then ((f x st).2,st) else if (st.take (st.length - n.toNat)++[(f x st).1]).length > 12 then (12,st) else (0,st.take (st.length - n.toNat)++[(f x st).1]):=by
  unfold o.stepG;rw[aM,if_neg g1,if_neg g2]
 rw[ef];clear ef;have tt:=aI x st;generalize ba:f x st=r at tt ⊢;refine K.cut (fun a6 w'=>a6 0 = .pointer (some ⟨b,0,none⟩)∧a6 9 = .int .i64 n∧a6 10 = .int .i64 r.1∧a6 11 = .int .i64 r.2∧Ext w w') ?_ ?_
 ·refine aC ?_;intro bh av;obtain⟨es,q,AE,AF,vw⟩:=(a1.ext (gy.trans av)).look x.op;refine aC ?_;refine K.l7 AE AF ?_;cases ka:o.fS x.op with
  | none =>
   simp only[ka] at vw tt;subst vw;simp only[lG,Option.map_none,Option.getD_none,Option.isSome_none,if_true];refine aC ?_;refine K.new fun bj eu fo aH b0=>?_;refine⟨aH,?_⟩;refine aC ?_;refine K.jh (cs:=#[.int .i64 0,.int .i64 0,.int .i64 0,.nilFunc]) b0 rfl rfl (by simp[Value.oneCell']) fun bF eU cK=>?_;have a8:Ext bh bF:=eU.ext aH fo;clear b0 eU aH;refine aC ?_;refine K.fO (c:=[_,_]) (aF.obj al) (fc) rfl ?_;refine aC ?_;refine HH (by omega) (by omega) ka _ _ _ ((gy.trans av).trans a8) fun bV bo=>?_;refine aC ?_;rw[tt];exact⟨trivial,trivial,rfl,rfl,((gy.trans av).trans a8).trans bo⟩
  | some aj =>
   simp only[ka] at vw tt;obtain⟨i,e4,rfl,u,rfl,bx⟩:=vw;obtain⟨cu,cA⟩:=IX ka;have on:=(o.Bv ka).1;simp only[lG,Option.map_some,Option.getD_some,Option.isSome_some,if_true];refine aC ?_;refine K.new fun bj eu fo aH b0=>?_;refine⟨aH,?_⟩;refine aC ?_;refine K.jh (cs:=#[.int .i64 aj.parts,.int .i64 aj.hS,.int .i64 aj.makes,u]) b0 rfl rfl (by rcases bx with ⟨f,rfl,_⟩ | ⟨c,f,p,rfl,_⟩<;>simp[Value.oneCell']) fun bF eU cK=>?_;have a8:Ext bh bF:=eU.ext aH fo;clear b0 eU aH;have Hm:=(gy.trans av).trans a8;have agc:yQ bh aj (.agg #[.int .i64 aj.parts,.int .i64 aj.hS,.int .i64 aj.makes,u]):=⟨u,rfl,bx⟩;obtain⟨p,rfl⟩:=Int.eq_ofNat_of_zero_le (show 0≤n by omega);have bg:aj.parts.toNat=p:=by omega
   refine aC ?_;refine K.fO (c:=[_,_,_,_]) cK (Ext.refl _) rfl ?_;refine aC ?_;refine K.Sn (st.length - p) (by simp -dsimp only[bU,bQ,Nat.reduceAdd,Nat.reduceEqDiff,reduceIte,reduceCtorEq,bZ];rw[Int.ofNat_sub (by omega)]) ⟨by omega,by omega⟩ ?_;have aG:=ad.tail (st.length - p) (by omega);rw[bg] at tt;refine aC ?_;refine K.RG _ (fun w' e=>Ia aj _ _ w' _ _ (Hm.trans e) ka ⟨u,rfl,bx.ext (a8.trans e)⟩ (by omega) (by rw[bg];exact aG.ext Flat.ext (Hm.trans e)) fun bW aZ=>⟨rfl,aZ⟩) ?_;refine aC ?_;intro bV bo;refine aC ?_;rw[tt,bg];exact⟨trivial,trivial,rfl,rfl,Hm.trans bo⟩
 ·clear al aE aF gy;rintro S bh cn ⟨gJ,BN,BM,yi,av⟩;simp -dsimp only[bQ];refine c0 (And.intro gJ (And.intro BN (And.intro BM yi))) ?_;apply K.cond<;>intro g3;rotate_left
  ·refine c0 yi ?_;rw[if_pos g3];exact⟨rfl,av.mod,fun h=>absurd h g3⟩
  obtain⟨p,rfl⟩:=Int.eq_ofNat_of_zero_le (show 0≤n by omega);have ob:¬r.2≠0:=by simpa using g3
  rw[if_neg ob];have ht:(st.take (st.length - p)++[r.1]).length=st.length - p+1:=by simp[List.length_take]
  have rV:=hm.ext av;have gm:kB base bh (.slice bf st.length cap) st:=gA.ext av;refine nS ?_;simp -dsimp only[bQ];refine c0 (And.intro gJ (And.intro BN (And.intro BM yi))) ?_;intro bj aH;have gz:kB base bj (.slice bf st.length cap) st:=gm.ext aH;refine c0 (And.intro gJ (And.intro BN (And.intro BM yi))) ?_;refine K.q5 (st.length - p) (by simp -dsimp only[bU,bQ,Nat.reduceAdd,Nat.reduceEqDiff,reduceIte,reduceCtorEq,bZ];rw[Int.ofNat_sub (by omega)]) (by omega) ?_;refine c0 (And.intro gJ (And.intro BN (And.intro BM yi))) ?_;refine K.j3 (cs:=[r.1].flatMap encI) (by simp[List.range,List.range.loop,ep,lay,eS,ca,Value.cells,encI]) fun bF jl nj a8 cK=>?_;refine⟨a8,?_⟩;refine aC ?_;have ee:kB base bF (.slice bf (st.length - p) cap) (st.take (st.length - p)):=br.head (enc:=encI) (sz:=1) (xs:=st) (fun _=>rfl) (br.ext a8 gz) (st.length - p) (Nat.sub_le _ _);have cb:(st.take (st.length - p)).length=st.length - p:=by simp[List.length_take]
  have BE:((st.take (st.length - p)).length+[r.1].length)*8≤140737488355328:=by rw[cb];simp only[List.length_cons,List.length_nil];omega
  have acj:(st.take (st.length - p)).length+[r.1].length≤maxLen:=by rw[cb];simp only[List.length_cons,List.length_nil,maxLen];omega
  have dS:∀y,∀u∈encI y,u.oneCell'=true:=fun y u h=>by simp[encI] at h;subst h;rfl
  refine K.qs (xs:=st.take (st.length - p)) (ys:=[r.1]) ee (fun _=>rfl) (gM cK) rfl dS BE acj (by have:=hm.le;have:=av.size;have:=aH.size;have:=a8.size;omega) fun v6 bV dH j8=>?_;have zX:bF.heap[b]? = some (.cells #[.slice bf st.length cap,m] T.lS):=a8.obj (aH.obj (av.obj cR));have gi:bV.heap[b]? = some (.cells #[.slice bf st.length cap,m] T.lS):=by
   refine(j8.block b (cL zX) fun e=>?_).trans zX
   have:=(ee.lt b e.symm).1
   have:=hm.lt
   omega
  refine aC ?_;refine K.st1 gi (by simp) (by obtain⟨bf,cap,e,_⟩:=dH.form;rw[e];rfl) fun cc ec er=>?_;have rW:Mod (fun k=>k=b∨base≤k) w cc :=
   (((av.trans aH).trans a8).mod.trans (Mod.grown j8 fun k hk=>.inr (ee.lt k hk).1)).trans (ec.mod (.inl rfl))
  have hI:nK base b cc m (st.take (st.length - p)++[r.1]) :=
   ⟨⟨v6,er,dH.wr ec hm.lt⟩,hm.lt,Nat.le_trans hm.le rW.size⟩
  obtain⟨tT,afw,rfl,cW,_⟩:=dH.form;rw[ht];have ago:((st.take (st.length - p)++[r.1]).length:Int)=st.length - p+1:=by rw[ht];omega
  refine c0 (And.intro gJ (And.intro BN (And.intro BM yi))) ?_;apply K.cond<;>intro g4
  ·refine aC ?_;simp only[Int.toNat_natCast,ht];rw[if_pos (by omega)];exact⟨rfl,rW,fun h=>by cases h⟩
  ·refine aC ?_;simp only[Int.toNat_natCast,ht];rw[if_neg (by omega)];exact⟨rfl,rW,fun _=>hI⟩
end Go.Proofs.R
end
section
set_option linter.unusedSimpArgs false
namespace Go.Proofs.R
open Go Go.RowKit bn
theorem Sa(f:o.Node→List Int→Int×Int)(two:o.mi→List Int→Int×Int)(leaf:o.Node→List Int→Int×Int)(aI:EY f two leaf)(cM:Int→Prop)
  (b:Nat)(w0 w:World)(D2:Ext w0 w)(OK:w0.heap.size≤b)(fH mU v2:Value)(e:List o.Node)(he:o.gG w0 fH e)(aA:w.heap[b]? = some (.cells #[.slice none 0 0,.map none] T.lS))
  (Ad:∀x st,x.ok→(∀z∈st,cM z)→0≤o.eI x.op→o.eI x.op≤st.length→(f x st).2=0→cM (f x st).1)
  (HH:∀x st base m w',x.ok→Mod (fun k=>k=b) w w'→nK base b w' m st→(∀z∈st,cM z)→0≤o.eI x.op→o.eI x.op≤st.length→o.fS x.op=none→∀ar cI t,Ext w' ar →
   (∀bW,Ext ar bW→cI (.tuple #[.int .i64 (leaf x st).1,.int .i64 (leaf x st).2]) bW)→ui Tryz.prog mU [.agg x.enc.toArray] ar cI t)
  (Ia:∀aj e4 fA l w' cI t,Mod (fun k=>k=b) w w'→yQ w' aj e4→(∃x,o.fS x=some aj)→aj.parts=l.length→Ints w' fA l →
   (∀bW,Ext w' bW→cI (.tuple #[.int .i64 (two aj l).1,.int .i64 (two aj l).2]) bW)→rb Tryz.prog v2 [e4,fA] w' cI t) :
  bw Tryz.prog F.a5 #[.pointer (some ⟨b,0,none⟩),fH,mU,v2] w fun v w' =>
   v = .tuple #[.int .i64 (o.jV f e).1,.int .i64 (o.jV f e).2]∧Mod (fun k=>k=b) w w':=by
 obtain⟨bf,cap,rfl,hlen⟩:=he.form;refine bO E.a5 ?_;refine bH ?_;refine aC ?_;apply K.cond<;>intro g1
 ·refine aC ?_;rw[o.jV,if_pos (by omega)];exact⟨rfl,Mod.refl _ _⟩
 refine aC ?_;apply K.cond<;>intro g2
 ·refine aC ?_;rw[o.jV,if_neg (by omega),if_pos (by omega)];exact⟨rfl,Mod.refl _ _⟩
 refine aC ?_;refine K.call (abF w) ?_;rintro m ar ⟨Aq,aE⟩;refine aC ?_;refine K.st1 (aE.obj aA) (by decide) (by obtain⟨r,_,_,_,e,_⟩:=Aq;rw[e];rfl) fun aW xD aO=>?_;have zZ:aW.heap[b]? = some (.cells #[.slice none 0 0,m] T.lS):=aO;clear aO;have Y3:nL aW m:=Aq.mod (A:=fun k=>k=b) (xD.mod rfl) fun k aj h1 U hk=>by
  subst hk;rw[aE.obj aA] at h1;injection h1 with h1
  rcases U with ⟨es,c,U⟩ | ⟨cs,U⟩
  ·rw[U] at h1;cases h1
  ·rw[U] at h1;injection h1 with _ h1
   cases h1
 have PB:Mod (fun k=>k=b) w aW:=aE.mod.trans (xD.mod rfl);have cb:b<aW.heap.size:=cL zZ;refine aC ?_;refine K.xc 27 e.length (fun k S w'=>Mod (fun k=>k=b) aW w'∧∃st,o.eJ f (e.take k) []=(0,st)∧nK aW.heap.size b w' m st∧(0<k→1≤st.length)∧st.length≤12∧∀z∈st,cM z)
  (by simp -dsimp only[bU,bQ,Nat.reduceAdd,Nat.reduceEqDiff,reduceIte,reduceCtorEq,bZ]) ⟨Mod.refl _ _,[],by simp[o.eJ],⟨⟨_,zZ,br.nil _ _ _ _ _⟩,cb,Nat.le_refl _⟩,by simp,by simp,by simp⟩ ?_
 rintro k S bh cn hk lZ ⟨rW,st,gB,vk,zN,oU,Ac⟩;have ak:=cn 0 rfl;have h1:=cn 1 rfl;have U:=cn 2 rfl;have ai:=cn 3 rfl;have qC:=cn 25 rfl;have kM:=cn 26 rfl;simp only[ca,Nat.reduceAdd,Nat.reduceEqDiff,reduceIte,ie,kJ] at ak h1 U ai qC kM;clear cn;have DN:Mod (fun k=>k=b) w bh:=PB.trans rW;refine c0 (And.intro ak (And.intro h1 (And.intro U (And.intro ai (And.intro qC (And.intro kM lZ)))))) ?_;apply K.cond<;>intro g3
 ·have bd:k<e.length:=by omega
  have afJ:Ext w0 bh:=DN.ext D2 fun q aJ e=>by omega
  obtain⟨a,rfl⟩:=he.addr (by omega);have xE:=(he.at k bd).ok;have iN:=fun ak=>o.Jm (f:=f) (e:=e) (by omega) bd gB ak;have qQ:=o.tY bd gB;have Y4:nL bh m:=Y3.mod (A:=fun k=>k=b) rW fun k aj h1 U hk=>by
   subst hk;rw[zZ] at h1;injection h1 with h1
   rcases U with ⟨es,c,U⟩ | ⟨cs,U⟩
   ·rw[U] at h1;cases h1
   ·rw[U] at h1;injection h1 with _ h1
    cases h1
  refine c0 (And.intro ak (And.intro h1 (And.intro U (And.intro ai (And.intro qC (And.intro kM lZ)))))) ?_;generalize aD:e[k]=x at *;refine K.qX (vs:=x.enc) (fun _=>by simp -dsimp only[bU,bQ,Nat.reduceAdd,Nat.reduceEqDiff,reduceIte,reduceCtorEq,bZ]) rfl rfl (by simp[o.Node.enc,Value.oneCell']) fun bj eu fo aH b0=>?_;refine c0 (And.intro ak (And.intro h1 (And.intro U (And.intro ai (And.intro qC (And.intro kM lZ)))))) ?_;refine K.fO (c:=x.enc) b0 (Ext.refl _) rfl ?_;refine c0 (And.intro ak (And.intro h1 (And.intro U (And.intro ai (And.intro qC (And.intro kM lZ)))))) ?_;have HK:Mod (fun k=>k=b) w bj:=DN.trans aH.mod;refine K.call (ad6 f two leaf aI x aW.heap.size b bj m mU v2 st (vk.ext aH) (Y4.ext aH) (by omega)
   (fun dS dP dD w' cI t AA hk=>HH x st _ m bj xE HK (vk.ext aH) Ac dS dP dD w' cI t AA hk)
   (fun aj e4 fA w' cI t AA dS dP dD gT hk=>Ia aj e4 fA _ w' cI t (HK.trans AA.mod) dP ⟨_,dS⟩ (by have:=IX dS;simp[List.length_drop];omega) gT hk)) ?_
  rintro _ bF ⟨rfl,kU,PR⟩;have YT:Mod (fun k=>k=b) w bF:=HK.then kU fun i ad h=>by
   rcases h with h | h
   ·exact h
   ·have:=PB.size;omega
  refine c0 (And.intro ak (And.intro h1 (And.intro U (And.intro ai (And.intro qC (And.intro kM lZ)))))) ?_;apply K.cond<;>intro g4;rotate_left
  ·refine c0 (And.intro ak (And.intro h1 (And.intro U (And.intro ai (And.intro qC (And.intro kM lZ)))))) ?_;rw[iN g4];exact⟨bq,YT⟩
  have Ao:=o.ad5 g4;have Yr:∀z∈(o.stepG f x st).2,cM z:=by
   have aX:=Ad x st xE Ac;clear iN qQ Ao PR;unfold o.stepG at g4 ⊢;by_cases dS:o.eI x.op<0
   ·rw[if_pos dS] at g4;cases g4
   by_cases dP:(st.length:Int)<o.eI x.op
   ·rw[if_neg dS,if_pos dP] at g4;cases g4
   by_cases dD:(f x st).2≠0
   ·rw[if_neg dS,if_neg dP,if_pos dD] at g4;exact absurd g4 dD
   by_cases gT:(st.take (st.length - (o.eI x.op).toNat)++[(f x st).1]).length > 12
   ·rw[if_neg dS,if_neg dP,if_neg dD,if_pos gT] at g4;cases g4
   rw[if_neg dS,if_neg dP,if_neg dD,if_neg gT];intro z bK;rcases List.mem_append.1 bK with bK | bK
   ·exact Ac z (List.mem_of_mem_take bK)
   ·simp at bK;subst bK;exact aX (by omega) (by omega) (by simpa using dD)
  refine c0 (And.intro ak (And.intro h1 (And.intro U (And.intro ai (And.intro qC (And.intro kM lZ)))))) ?_;refine⟨bd,bq,?_,(o.stepG f x st).2,?_,PR g4,fun _=>Ao.1,Ao.2,Yr⟩
  ·refine(rW.trans aH.mod).then kU fun i ad h=>?_;rcases h with h | h
   ·exact h
   ·omega
  ·rw[qQ];exact Prod.ext g4 rfl
 ·have bd:k=e.length:=by omega
  subst bd;rw[List.take_length] at gB;obtain⟨vX,cR,gA⟩:=vk.ex;obtain⟨kf,mu,rfl,tm,ht⟩:=gA.form;have ad:Ints bh _ st:=br.pf (enc:=encI) (sz:=1) (fun _=>rfl) gA;have h1:=zN (by omega);obtain⟨a,rfl⟩:=ad.addr h1;have gO:o.jV f e=if st.length > 1 then (0,5) else (st.headD 0,0):=by
   rw[o.jV,if_neg (by omega),if_neg (by omega),gB,if_neg (by simp)]
  rw[gO];clear gO;refine c0 (And.intro ak (And.intro h1 (And.intro U (And.intro ai (And.intro qC (And.intro kM lZ)))))) ?_;apply K.cond<;>intro g4
  ·refine aC ?_;rw[if_pos (by omega)];exact⟨rfl,DN⟩
  ·refine c0 (And.intro ak (And.intro h1 (And.intro U (And.intro ai (And.intro qC (And.intro kM lZ)))))) ?_;refine K.du 0 rfl (by omega) ?_;refine aC ?_;rw[if_neg (by omega)]
   have:st.headD 0=st[0]:=by
    cases st with
    | nil=>simp at h1
    | cons z st=>rfl
   rw[this];exact⟨bq,DN⟩
theorem aaf(aj:o.mi)(u fA:Value)(l:List Int)(w:World)(aN:Ints w fA l) :
  bw Tryz.prog F.zx #[.agg #[.int .i64 aj.parts,.int .i64 aj.hS,.int .i64 aj.makes,u],fA] w fun v w'=>v = .tuple #[.int .i64 (o.lE aj l).1,.int .i64 (o.lE aj l).2]∧Ext w w':=by
 obtain⟨bf,cap,rfl,hlen⟩:=aN.form;refine bO E.zx ?_;refine bH ?_;refine aC ?_;refine K.new fun ar b aA aE al=>?_;refine aC ?_;refine K.xc 10 l.length (fun k S w'=>w'=ar∧(l.take k).all (fun k=>(decide (aj.hS = -1)||decide (k=aj.hS))&&decide (k=l.headD 0))=true) (by simp -dsimp only[bU,bQ,Nat.reduceAdd,Nat.reduceEqDiff,reduceIte,reduceCtorEq,bZ]) ⟨rfl,by simp⟩ ?_;rintro k S aW cn hk iK ⟨rfl,c6⟩;have h1:=cn 1 rfl;have U:=cn 2 rfl;have c9:=cn 8 rfl;have hE:=cn 9 rfl;simp only[ca,Nat.reduceAdd,Nat.reduceEqDiff,reduceIte,ie,kJ] at h1 U c9 hE;clear cn;refine c0 (And.intro h1 (And.intro U (And.intro c9 (And.intro hE iK)))) ?_;apply K.cond<;>intro g1;rotate_left
 ·rw[List.take_of_length_le (by omega)] at c6;refine c0 (And.intro h1 (And.intro U (And.intro c9 (And.intro hE iK)))) ?_;rw[o.lE,if_pos c6];exact b2
 have bd:k<l.length:=by omega
 obtain⟨a,rfl⟩:=aN.addr (by omega);have tA:l.take (k+1)=l.take k++[l[k]]:=List.take_succ_eq_append_getElem bd;have xh:=List.all_append (xs:=l.take (k+1)) (ys:=l.drop (k+1)) (f:=fun k=>(decide (aj.hS = -1)||decide (k=aj.hS))&&decide (k=l.headD 0));rw[List.take_append_drop,tA,List.all_append] at xh;have ak:l.headD 0=l[0]:=by
  cases l with
  | nil=>simp at bd
  | cons z l=>rfl
 have OP:((decide (aj.hS = -1)||decide (l[k]=aj.hS))&&decide (l[k]=l.headD 0))=false→o.lE aj l=(0,9):=by
  intro h;rw[o.lE,if_neg (by rw[xh];simp only[List.all_cons,List.all_nil,h];simp)]
 have Ad:((decide (aj.hS = -1)||decide (l[k]=aj.hS))&&decide (l[k]=l.headD 0))=true→(l.take (k+1)).all (fun k=>(decide (aj.hS = -1)||decide (k=aj.hS))&&decide (k=l.headD 0))=true:=by
  intro h;rw[tA,List.all_append,c6];simp only[List.all_cons,List.all_nil,h];rfl
 rw[ak] at OP;clear xh;have bg:0<l.length:=by omega
 have oj:Ints aW (.slice (some a) l.length cap) l:=aN.ext aE;have DJ:=Ad;rw[ak] at Ad c6
 (repeat' first
 | (refine K.cond (fun _=>?_) (fun _=>?_)<;>try (exfalso;omega))
 | (refine K.c3 (fun _=>?_) (fun _=>?_))
 | assumption
 | exact Ext.refl _
 | refine Ext.trans ?_ (by assumption)
 | refine K.wrap (by omega) ?_
 | refine K.dv (by assumption) ?_ rfl ?_
 | refine K.dp (by assumption) ?_ rfl ?_
 | refine K.dC (by assumption) ?_ (by omega) rfl ?_
 | refine K.dn (by assumption) ?_ (by omega) rfl ?_
 | refine K.dB (by assumption) ?_ (by omega) rfl ?_
 | refine K.dA (by omega) ?_
 | refine K.dt (by first | assumption | omega) ?_
 | refine K.dy (by first | assumption | omega) ?_
 | refine K.dj (by assumption) ?_
 | refine K.dm (by assumption) ?_
 | simp -dsimp only[bU,bQ,Nat.reduceAdd,Nat.reduceEqDiff,reduceIte,reduceCtorEq,bZ,h1,U,c9,hE,iK])
 all_goals first
  | (have cR:=OP (by simp;omega);rw[cR];refine⟨bq,aE⟩)
  | (refine⟨by omega,bq,trivial,?_⟩;rw[ak];exact Ad (by simp;omega))
theorem Z5(x:o.Node)(cs:List Value)(s:o.Scope)(base b pm cX:Nat)(w:World)(m:Value)(st:List Int)(JM:TypeId)(aD:x.ok)(h:o.e5 w cs s)(hm:nK base b w m st)(ai:x.op=3→0<st.length)
  (Au:w.heap[pm]? = some (.cells #[.pointer (some ⟨b,0,none⟩)] JM))(pZ:w.heap[cX]? = some (.cells cs.toArray T.e)) :
  bw Tryz.prog F.zv #[.agg x.enc.toArray,.pointer (some ⟨pm,0,none⟩),.pointer (some ⟨cX,0,none⟩)] w fun v w' =>
   v = .tuple #[.int .i64 (o.hN x s (st.getLastD 0)).1,.int .i64 (o.hN x s (st.getLastD 0)).2]∧Ext w w':=by
 obtain⟨v0,v1,v2,v3,v4,rfl,_⟩:=h.ex;refine bO E.zv ?_;refine bH ?_;refine aC ?_;refine K.new fun ar bz cN aE al=>?_;have da:ar.heap[bz]? = some (.cells x.enc.toArray T.f):=al;refine aC ?_;refine K.fO (c:=x.enc) da (Ext.refl _) rfl ?_;refine aC ?_;refine K.fO pZ aE rfl ?_;refine aC ?_;refine K.call (Z8 x _ s base b ar m st aD (h.ext aE) (hm.ext aE) ai) ?_;rintro _ aW ⟨rfl,aF⟩;refine aC ?_;exact b2
theorem Wy(s:o.Scope):EY (o.eN s) o.lE fun x st=>o.hN x s (st.getLastD 0):=fun _ _=>rfl
theorem Qw(fH:Value)(e:List o.Node)(cs:List Value)(s:o.Scope)(w:World)(he:o.gG w fH e)(h:o.e5 w cs s) :
  bw Tryz.prog F.pF #[fH,.agg cs.toArray] w fun v w'=>v = .tuple #[.int .i64 (o.kind e s).1,.int .i64 (o.kind e s).2]∧Ext w w':=by
 obtain⟨v0,v1,v2,v3,v4,rfl,_⟩:=h.ex;refine bO E.pF ?_;refine bH ?_;refine aC ?_;refine K.new fun ar cX pZ aE al=>?_;refine aC ?_;refine K.cJ (cs:=[.slice none 0 0,.map none]) (by simp[ep]) ?_;refine aC ?_;refine K.new fun aW b aA aF aO=>?_;refine aC ?_;refine K.new fun bh pm Au av bA=>?_;refine aC ?_;refine K.qf bA (by decide) rfl fun bj ew b0=>?_;have G8:bj.heap[pm]? = some (.cells #[.pointer (some ⟨b,0,none⟩)] T.nW):=b0;have aH:Ext aW bj:=ew.ext av Au;have HS:=cL aO;have Zg:=cL al;have vf:Ext w bj:=(aE.trans aF).trans aH;clear b0 ew av bA;have fo:=aH.obj aO;have mM:=aH.obj (aF.obj al);have fx:=aE.size;refine aC ?_;refine K.call (Sa (o.eN s) o.lE (fun x st=>o.hN x s (st.getLastD 0)) (Wy s) (fun _=>True) b w bj vf (by omega) fH _ _ e he fo (fun _ _ _ _ _ _ _=>trivial) ?_ ?_) ?_
 ·intro x st base m w' aD hm vk _ dS dP dD JW cI t jv hk;refine K.ln (first:=[]) (cap:=[.pointer (some ⟨pm,0,none⟩),.pointer (some ⟨cX,0,none⟩)]) (by kernel_rfl)
   (Z5 x _ s base b pm cX JW m st _ aD (h.ext ((hm.ext vf (by intro k hk e;omega)).trans jv)) (vk.ext jv) ?_ (jv.obj (hm.obj (by omega) G8)) (jv.obj (hm.obj (by omega) mM))) fun v bW ⟨h1,U⟩=>by subst h1;exact hk bW U
  intro ai
  have:o.eI x.op=1:=by rw[ai];rfl
  omega
 ·rintro aj e4 fA l w' cI t hm ⟨u,rfl,bx⟩ _ aN ad hk;exact K.CR (first:=[]) (cap:=[]) (by kernel_rfl) (aaf aj u fA l w' ad) fun v bW ⟨h1,U⟩=>by subst h1;exact hk bW U
 rintro _ bF ⟨rfl,kU⟩;have a8:Ext w bF:=kU.ext vf (by intro k hk e;omega);refine aC ?_;exact b2
end Go.Proofs.R
end
section
namespace o
open Go Go.RowKit bn
def KQ(v:Value):Option (Var×Int)→Prop
 | some q=>v = .tuple #[.agg q.1.enc.toArray,.int .i64 q.2,.bool true]
 | none => ∃(x:Var) (k:Int),v = .tuple #[.agg x.enc.toArray,.int .i64 k,.bool false]
end o
namespace Go.Proofs.R
open Go Go.RowKit bn
theorem ND(a b:Int)(cs:List Value)(s:o.Scope)(w:World)(h:o.e5 w cs s) :
  bw Tryz.prog F.iY #[.int .i64 a,.int .i64 b,.agg cs.toArray] w fun v w'=>v = .tuple #[.int .i64 (o.jC a b s).1,.bool (o.jC a b s).2]∧Ext w w':=by
 obtain⟨a0,bR,dF,c1,a2,c2,a3,bN,a4,bX,rfl,ak,h1,U,ai,aL,et,dY,eg,dK,ed⟩:=h.form;refine bO E.iY ?_;refine bH ?_;refine aa ?_;intro ar b aA aE al;refine aa ?_
 (repeat' (refine aC ?_;first | (refine K.cond (fun _=>?_) (fun _=>?_)<;>try (exfalso;omega)) | refine K.c3 (fun _=>?_) (fun _=>?_)))<;>try refine aC ?_
 all_goals
  refine⟨?_,fc⟩;unfold o.jC
  (repeat' split)<;>first | rfl | (exfalso;omega)
theorem NL(v:Value)(l:List o.Var)(n:Int)(cs:List Value)(s:o.Scope)(w:World)(aN:o.gL w v l)(h:o.e5 w cs s) :
  bw Tryz.prog F.pI #[v,.int .i64 n,.agg cs.toArray] w fun v w'=>o.KQ v (o.declared l n s)∧Ext w w':=by
 obtain⟨v0,v1,v2,v3,v4,rfl,_⟩:=h.ex;obtain⟨bf,cap,rfl,hlen⟩:=aN.form;refine bO E.pI ?_;refine bH ?_;refine aa ?_;intro ar bz cN aE al;refine aa ?_;intro aW ch en aF aO;have he:=aE.trans aF;refine aa ?_;apply K.cond<;>intro g1
 ·refine aa ?_;intro bh gP bA;refine aa ?_;rw[o.declared,o.ga (.inl g1)];exact⟨⟨(⟨⟨#[]⟩,0,0,0,0,0⟩:o.Var),0,rfl⟩,gP.ext he (by have:=aE.size;omega)⟩
 refine aa ?_;apply K.cond<;>intro g2
 ·refine aa ?_;intro bh gP bA;refine aa ?_;rw[o.declared,o.ga (.inr (by omega))];exact⟨⟨(⟨⟨#[]⟩,0,0,0,0,0⟩:o.Var),0,rfl⟩,gP.ext he (by have:=aE.size;omega)⟩
 obtain⟨i,rfl⟩:=Int.eq_ofNat_of_zero_le (show 0≤n by omega);have ad:i<l.length:=by omega
 rw[o.declared,o.iP (by omega) (by omega)];simp only[Int.toNat_natCast];obtain⟨a,rfl⟩:=aN.addr (by omega);refine aa ?_;refine K.fj _ (fun w' e=>ND _ _ _ s w' (h.ext (he.trans e))) ?_;refine aa ?_;intro bh av;have aO:=av.obj aO;refine aa ?_;intro bj ew b0;refine aa ?_;refine⟨?_,ew.ext (he.trans av) (by have:=aE.size;omega)⟩;by_cases aA:(o.jC l[i].scalar l[i].over s).2=true
 ·rw[if_pos aA,aA];rfl
 ·rw[if_neg aA,Bool.eq_false_iff.2 aA];exact⟨_,_,rfl⟩
theorem U7(n:Int)(cs:List Value)(s:o.Scope)(w:World)(h:o.e5 w cs s) :
  bw Tryz.prog F.ia #[.int .i64 n,.agg cs.toArray] w fun v w'=>v = .tuple #[.int .i64 ((o.channel n s).getD 0),.bool (o.channel n s).isSome]∧Ext w w':=by
 obtain⟨a0,bR,dF,c1,a2,c2,a3,bN,a4,bX,rfl,ak,h1,U,ai,aL,et,dY,eg,dK,ed⟩:=h.form;refine bO E.ia ?_;refine bH ?_;refine aa ?_;intro ar bz cN aE al;refine aa ?_;apply K.cond<;>intro g1
 ·refine aa ?_;rw[o.channel,o.ga (.inl g1)];exact b2
 refine aa ?_;apply K.cond<;>intro g2
 ·refine aa ?_;rw[o.channel,o.ga (.inr (by omega))];exact b2
 obtain⟨i,rfl⟩:=Int.eq_ofNat_of_zero_le (show 0≤n by omega);have ad:i<s.aK.length:=by omega
 rw[o.channel,o.iP (by omega) (by omega)];simp only[Int.toNat_natCast];obtain⟨a,rfl⟩:=U.addr (by omega);refine aa ?_;refine K.fj _ (fun w' e=>ND _ _ _ s w' (h.ext (aE.trans e))) ?_;refine aa ?_;intro aW aF;refine aa ?_;refine⟨?_,fc⟩;by_cases aA:(o.jC s.aK[i].scalar 0 s).2=true
 ·rw[if_pos aA,aA];rfl
 ·rw[if_neg aA,Bool.eq_false_iff.2 aA];rw[o.aee (Bool.eq_false_iff.2 aA)];rfl
theorem FW(fH:Value)(e:List o.Node)(k:Int)(cs:List Value)(s:o.Scope)(w:World)(aM:o.gG w fH e)(h:o.e5 w cs s) :
  bw Tryz.prog F.nW #[fH,.int .i64 k,.agg cs.toArray] w fun v w'=>v = .int .i64 (o.asked e k s)∧Ext w w':=by
 obtain⟨v0,v1,v2,v3,v4,rfl,_⟩:=h.ex;refine bO E.nW ?_;refine bH ?_;refine aa ?_;intro ar bz cN aE al;refine aa ?_;refine K.call (Qw fH e _ s ar (aM.ext aE) (h.ext aE)) ?_;rintro _ aW ⟨rfl,aF⟩;refine aa ?_;rw[o.asked];apply K.cond<;>intro g1
 ·rw[if_neg (by simpa using g1)];refine aa ?_;apply K.cond<;>intro g2
  ·refine aa ?_;rw[if_neg (by simpa using g2)];exact b2
  refine aa ?_;rw[if_pos g2];exact b2
 refine aa ?_;rw[if_pos g1];exact b2
theorem SH(a:o.Act)(cB cF:Value)(w:World):bw Tryz.prog F.ch #[.agg (a.enc cB cF).toArray] w fun v w'=>v = .bool (o.hh a)∧Ext w w':=by
 refine bO E.ch ?_;refine bH ?_;refine aa ?_;intro ar bz cN aE al;refine aa ?_;rw[o.hh];apply K.cond<;>intro g1
 ·refine aa ?_;refine⟨?_,fc⟩;congr 1;simp[g1]
 refine aa ?_;refine⟨?_,fc⟩;congr 1;simp[g1]
theorem acK(a:o.Act)(cB cF:Value)(k:Int)(cs:List Value)(s:o.Scope)(w:World)(h:o.e5 w cs s) :
  bw Tryz.prog F.el #[.agg (a.enc cB cF).toArray,.int .i64 k,.agg cs.toArray] w fun v w'=>v = .int .i64 (o.EE a k s)∧Ext w w':=by
 obtain⟨v0,v1,v2,v3,v4,rfl,ak,h1,U,ai,aL,_⟩:=h.ex;refine bO E.el ?_;refine bH ?_;refine aa ?_;intro ar bz cN aE al;refine aa ?_;intro aW ch en aF aO;have he:=aE.trans aF;refine aa ?_;refine K.call (NL v4 s.locals a.loc _ s aW (aL.ext he) (h.ext he)) ?_;rintro q bh ⟨aJ,av⟩;rw[o.EE];cases bx:o.declared s.locals a.loc s with
 | none =>
  rw[bx] at aJ;obtain⟨x,k',rfl⟩:=aJ;refine aa ?_;intro bj eu fo aH b0;refine aa ?_;exact b2
 | some q =>
  obtain⟨x,k'⟩:=q;rw[bx] at aJ;subst aJ;refine aa ?_;intro bj eu fo aH b0;refine aa ?_;apply K.cond<;>intro g1
  ·refine aa ?_;apply K.cond<;>intro g2
   ·refine aa ?_;simp only[g1,g2,ne_eq,not_true_eq_false,or_self,if_false];exact b2
   refine aa ?_;simp only[g2,ne_eq,not_false_eq_true,or_true,if_true];exact b2
  refine aa ?_;simp only[g1,ne_eq,not_false_eq_true,true_or,if_true];exact b2
end Go.Proofs.R
end
section
namespace o
open Go Go.RowKit bn
theorem FO{s:Scope}{l:List Act}{k:Nat}{t:Bool}(h:k<l.length) :
  kD s (l.drop k) k t=if hh l[k]&&t then (2+(k:Int),7) else if mn l[k] s≠0 then (2+(k:Int),mn l[k] s) else kD s (l.drop (k+1)) (k+1) (t||hh l[k]):=by
 rw[List.drop_eq_getElem_cons h];rfl
end o
namespace Go.Proofs.R
open Go Go.RowKit bn
theorem FN(k:Int)(a:o.Act)(cB cF:Value)(cs:List Value)(s:o.Scope)(w:World)(bz ch:Nat)(cN:w.heap[bz]? = some (.cells (a.enc cB cF).toArray T.r))(en:w.heap[ch]? = some (.cells cs.toArray T.e))
  (aS:o.gG w cF a.value)(h:o.e5 w cs s) :
  bw Tryz.prog F.my #[.int .i64 k,.pointer (some ⟨bz,0,none⟩),.pointer (some ⟨ch,0,none⟩)] w fun v w'=>v = .int .i64 (o.asked a.value k s)∧Ext w w':=by
 obtain⟨v0,v1,v2,v3,v4,rfl,_⟩:=h.ex;refine bO E.my ?_;refine bH ?_;refine aa ?_;refine K.call (FW cF a.value k _ s w aS h) ?_;rintro _ aW ⟨rfl,aF⟩;refine aa ?_;exact b2
theorem TQ(a:o.Act)(cB cF:Value)(cs:List Value)(s:o.Scope)(w:World)(ad:o.gG w cB a.index)(aS:o.gG w cF a.value)(h:o.e5 w cs s) :
  bw Tryz.prog F.d8 #[.agg (a.enc cB cF).toArray,.agg cs.toArray] w fun v w'=>v = .int .i64 (o.mn a s)∧Ext w w':=by
 obtain⟨v0,v1,v2,v3,v4,rfl,ak,h1,U,ai,aL,et⟩:=h.ex;refine bO E.d8 ?_;refine bH ?_;refine aa ?_;intro ar bz cN aE al;refine aa ?_;intro aW ch en aF aO;have he:=aE.trans aF;have al:=aF.obj al;by_cases q:a.kind=1∨a.kind=2∨a.kind=3
 ·rw[o.mn,if_pos q];generalize dM:(if a.kind=3 then s.locals else s.vars)=L;have O0:∀mU n,mU=(if a.kind=3 then v4 else v1)→bw Tryz.prog F.pI #[mU,.int .i64 n,.agg #[v0,v1,v2,v3,v4,.int .i64 s.self]] aW fun v w'=>o.KQ v (o.declared L n s)∧Ext aW w':=by
   rintro mU n rfl;refine NL _ L n _ s aW ?_ (h.ext he);rw[←dM];split
   ·exact aL.ext he
   ·exact h1.ext he
  by_cases pc:a.kind=2
  ·refine aa ?_;refine K.call (O0 _ _ (by simp[pc])) ?_;rintro u bh ⟨aJ,av⟩;have al:=av.obj al;have aO:=av.obj aO;have rP:=he.trans av;cases bx:o.declared L a.to s with
   | none =>
    rw[bx] at aJ;obtain⟨x,k',rfl⟩:=aJ;refine aa ?_;intro bj eu fo aH b0;refine aa ?_;exact b2
   | some u =>
    obtain⟨x,k'⟩:=u;rw[bx] at aJ;subst aJ;have Y6:=o.Vx bx;simp only at Y6;refine aa ?_;intro bj eu fo aH b0;have al:=aH.obj al;have aO:=aH.obj aO;have nn:=rP.trans aH;refine aa ?_;refine K.IT (by kernel_rfl) ?_;refine aa ?_;by_cases dP:x.over=0
    ·refine K.dj (by simp[pc,dP]) ?_;refine aa ?_;exact⟨by simp[pc,dP],fc⟩
    refine K.dm (by simp[pc,dP]) ?_;refine aa ?_;refine K.call (FW cB a.index _ _ s bj (ad.ext nn) (h.ext nn)) ?_;rintro _ bF ⟨rfl,a8⟩;have al:=a8.obj al;have aO:=a8.obj aO;have DB:=nn.trans a8;refine aa ?_;refine K.cond (fun dD=>?_) (fun dD=>?_)
    ·refine aa ?_;refine K.ln (first:=[]) (cap:=[_,_]) (by kernel_rfl) (FN k' a cB cF _ s bF bz ch al aO (aS.ext DB) (h.ext DB)) ?_;rintro _ bV ⟨rfl,bo⟩;refine aa ?_;exact⟨by simp[pc,dP,dD],fc⟩
    ·refine aa ?_;exact⟨by simp[pc,dP,dD],fc⟩
  have sj:a.kind=1∨a.kind=3:=by omega
  clear q;rcases sj with q | q
  all_goals
   refine aa ?_;refine K.call (O0 _ _ (by simp[q])) ?_;rintro u bh ⟨aJ,av⟩;have al:=av.obj al;have aO:=av.obj aO;have rP:=he.trans av;cases bx:o.declared L a.to s with
   | none =>
    rw[bx] at aJ;obtain⟨x,k',rfl⟩:=aJ;refine aa ?_;intro bj eu fo aH b0;refine aa ?_;exact b2
   | some u =>
    obtain⟨x,k'⟩:=u;rw[bx] at aJ;subst aJ;refine aa ?_;intro bj eu fo aH b0;have al:=aH.obj al;have aO:=aH.obj aO;have nn:=rP.trans aH;refine aa ?_;refine K.IT (by kernel_rfl) ?_;refine aa ?_;by_cases dP:x.over=0
    ·refine K.dm (by simp[q,dP]) ?_;refine aa ?_;refine K.ln (first:=[]) (cap:=[_,_]) (by kernel_rfl) (FN k' a cB cF _ s bj bz ch al aO (aS.ext nn) (h.ext nn)) ?_;rintro _ bV ⟨rfl,bo⟩;refine aa ?_;exact⟨by simp[q,dP],fc⟩
    ·refine K.dj (by simp[q,dP]) ?_;refine aa ?_;exact⟨by simp[q,dP],fc⟩
 by_cases gT:a.kind=4∨a.kind=5
 ·rw[o.mn,if_neg q,if_pos gT];have Jb:a.kind≠3:=by omega
  have BE:a.kind≠1:=by omega
  have ack:a.kind≠2:=by omega
  have step:∀(w':World),Ext aW w'→bw Tryz.prog F.ia #[.int .i64 a.to,.agg #[v0,v1,v2,v3,v4,.int .i64 s.self]] w' fun v bW=>v = .tuple #[.int .i64 ((o.channel a.to s).getD 0),.bool (o.channel a.to s).isSome]∧Ext w' bW :=
   fun w' e=>U7 a.to _ s w' (h.ext (he.trans e))
  rcases gT with gT | gT
  ·refine aa ?_;refine K.call (step aW (Ext.refl _)) ?_;rintro _ bh ⟨rfl,av⟩;have al:=av.obj al;have aO:=av.obj aO;have rP:=he.trans av;cases bx:o.channel a.to s with
   | none =>
    simp only[Option.isSome_none,Option.getD_none];refine aa ?_;exact b2
   | some k =>
    simp only[Option.isSome_some,Option.getD_some];refine aa ?_;refine K.ln (first:=[]) (cap:=[_,_]) (by kernel_rfl) (FN k a cB cF _ s bh bz ch al aO (aS.ext rP) (h.ext rP)) ?_;rintro _ bV ⟨rfl,bo⟩;refine aa ?_;exact⟨by simp[gT],fc⟩
  ·refine aa ?_;refine K.call (step aW (Ext.refl _)) ?_;rintro _ bh ⟨rfl,av⟩;have al:=av.obj al;have aO:=av.obj aO;have rP:=he.trans av;cases bx:o.channel a.to s with
   | none =>
    simp only[Option.isSome_none,Option.getD_none];refine aa ?_;exact b2
   | some k =>
    simp only[Option.isSome_some,Option.getD_some];refine aa ?_;refine K.call (acK a cB cF k _ s bh (h.ext rP)) ?_;rintro _ bV ⟨rfl,bo⟩;refine aa ?_;exact⟨by simp[gT],fc⟩
 rw[o.mn,if_neg q,if_neg gT];have Jb:a.kind≠3:=by omega
 have BE:a.kind≠1:=by omega
 have ack:a.kind≠2:=by omega
 have ahc:a.kind≠4:=by omega
 have ahd:a.kind≠5:=by omega
 refine aa ?_;exact b2
end Go.Proofs.R
end
section
namespace o
open Go
theorem Yh{c:ft}{n:Int}(h:head c n=0):isName c.name=true∧0≤c.from_∧c.from_<n∧0≤c.to∧c.to<n∧c.di.length≤6:=by
 unfold head at h;by_cases h1:isName c.name=false
 ·rw[if_pos h1] at h;cases h
 rw[if_neg h1] at h;by_cases U:c.from_<0∨n≤c.from_∨c.to<0∨n≤c.to
 ·rw[if_pos U] at h;cases h
 rw[if_neg U] at h;by_cases ai:c.di.length > 6
 ·rw[if_pos ai] at h;cases h
 exact⟨by simpa using h1,by omega,by omega,by omega,by omega,by omega⟩
end o
end