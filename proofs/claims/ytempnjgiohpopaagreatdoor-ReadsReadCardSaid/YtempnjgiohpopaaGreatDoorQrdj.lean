/- Texts joined: LiteR CodeR ProcE ProcQ LibR ProcF ProcG ProcH ExprD ExprE. -/
import Derived.Test.YtempnjgiohpopaaGreatDoorQrdd
import Derived.Test.YtempnjgiohpopaaGreatDoorQrdg
import Derived.Test.YtempnjgiohpopaaGreatDoorQrdh
import Derived.Test.YtempnjgiohpopaaGreatDoorQrdi
import Derived.RangeFuncLeaves
import Derived.RangeFuncWrites
set_option linter.all false
set_option maxRecDepth 100000
set_option maxHeartbeats 4000000
section
namespace bt
open Go Go.RowKit
inductive q6 where
 | tw (g:Operand) (p:Nat) (a b:eV)
 | tA (x:q6) (y:eV)
 | lG (x:eV) (y:q6)
 | aW (id:Nat) (x:q6)
def lj(P:Program)(n:Nat):Code→Option q6
 | .rangeFunc g db a b=>match db.toList,comp P n a,comp P n b with
  | [p],some oi,some hF=>if p<n then some (.tw g p oi hF) else none
  | _,_,_=>none
 | .seq x y=>match comp P n x with
  | some u6=>(lj P n y).map (.lG u6)
  | none=>match lj P n x,comp P n y with
   | some rx,some xg=>some (.tA rx xg)
   | _,_=>none
 | .block id x=>(lj P n x).map (.aW id)
 | _=>none
structure xT where
 n:Nat
 res:List lS
 code:q6
def yp(P:Program)(f:FuncId):Option xT :=
 match P.funcs[f]? with
 | some fn=>match fn.body with
  | some c=>match lj P fn.ntmps c,um P fn.results.toList with
   | some lc,some r=>some ⟨fn.ntmps,r,lc⟩
   | _,_=>none
  | none=>none
 | none=>none
structure DX(iL:World→World→Prop)(B:Nat):Prop where
 trans:∀{a b c:World},iL a b→iL b c→iL a c
 put:∀(W:World) (l:Nat) (au o':Obj),B≤l→W.heap[l]? = some au→au.isCells=false→iL W (W.putObj l o')
def sc(hW:Nat)(cQ:List TypeId)(W cu:World):Prop:=Below hW W cu∧∀(k:Nat) (c:Array Value) (t:TypeId) (f:Nat×Nat),W.heap[k]? = some (.cells c t f)→t∈cQ→cu.heap[k]? = W.heap[k]?
theorem sc.ok{hW B:Nat}(cQ:List TypeId)(h:hW≤B):DX (sc hW cQ) B where
 trans h k:=⟨h.1.trans k.1,fun i c t f ad aL=>by rw[←h.2 i c t f ad aL];exact k.2 i c t f ((h.2 i c t f ad aL).trans ad) aL⟩
 put W l au o' aP a1 ax:=⟨(Below.refl hW W).grown (grownBy_putObj' W l o') (by have:=(Array.getElem?_eq_some_iff.1 a1).1;omega) (fun k e=>by cases e;omega),fun k c t f hk _=>by
  have dg:l≠k:=fun e=>by subst e;rw[a1] at hk;injection hk with hk;subst hk;cases ax
  exact World.putObj_heap_other (Ne.symm dg)⟩
theorem Ext.hl{hW:Nat}{cQ:List TypeId}{W cu:World}(h:Ext W cu)(aI:hW≤W.heap.size):sc hW cQ W cu:=⟨Below.mono h aI,fun k c t f hk _=>h.heap (cM hk)⟩
def ae3{α:Type}(iL:World→World→Prop)(B:Nat)(eB:List α→World→Prop)(oG:dN→List α→World→Prop)(xs:List α)(W:World):dN→Fr→World→Prop
 | .normal,_,cu=>KeepsFrom B W cu∧iL W cu∧eB xs cu
 | .fK _,_,_=>False
 | e,_,cu=>KeepsFrom B W cu∧oG e xs cu
def vJ(B:Nat)(W cu:World):Prop := ∃l,B≤l∧(∃au,W.heap[l]? = some au∧au.isCells=false)∧W.grownBy cu (some l)
def VI(P:Program)(g:Value)(p:Nat)(a b:eV)(Q:Nat→dN→Fr→World→Prop)(S:Fr)(w:World):Prop :=
 ∃(α:Type) (enc:α→Value) (kV:Nat) (hF:Array Value) (iL:World→World→Prop) (oL qd:List α→Prop) (N:Nat) (w0:World),g = .func (.func kV) #[] hF∧okF P kV=true∧SeqStopsK Fence.wide 0 P kV hF (fun x=>#[enc x]) iL oL qd N w0∧Ext w0 w∧DX iL w.heap.size ∧
 ∃(eB:List α→World→Prop) (oG:dN→List α→World→Prop),OwnFrom w.heap.size eB∧(∀e,OwnFrom w.heap.size (oG e))∧eB [] w ∧
  (∀pre x W,eB pre W→pre.length<N→dM P a (tG (fun Ao js=>KeepsFrom w.heap.size W js∧iL W js∧∀ft,vJ w.heap.size js ft→dM P b (ae3 iL w.heap.size eB oG (pre++[x]) ft) Ao ft) (fun _ _ _=>False)) (b7 S p (enc x)) W) ∧
  (∀D xs W,w.heap.size≤D→oL xs→eB xs W→W.heap[D]? = some (.deferred (some []))→Q D .normal S W) ∧
  (∀D e pre W,e≠.normal→w.heap.size≤D→qd pre→oG e pre W→W.heap[D]? = some (.deferred (some []))→Q D e S W)
theorem ae4{α:Type}{enc:α→Value}{P:Program}{g:Operand}{p:Nat}{vP body:Code}{Q:Exit→Act→World→Prop}{a:Act}{w w0:World}{kV:Nat}{hF:Array Value}{iL:World→World→Prop}{N:Nat}{oL qd:List α→Prop}
  (a8:a.eval g = .func (.func kV) #[] hF)(dh:okF P kV=true)(s4:SeqStopsK Fence.wide 0 P kV hF (fun x=>#[enc x]) iL oL qd N w0)(he:Ext w0 w)(sH:DX iL w.heap.size)
  (eB:List α→World→Prop)(oG:Code→List α→World→Prop)(bH:OwnFrom w.heap.size eB)(uy:∀c,OwnFrom w.heap.size (oG c))(aj:eB [] w)
  (Ju:∀l pre x W,eB pre W→pre.length<N→vP.wpIn (mS (some l)) 1 P (Exit.then (fun dy js=>KeepsFrom w.heap.size W js∧iL W js ∧
   ∀ft,vJ w.heap.size js ft→body.wpIn (mS (some l)) 1 P (ownPostG w.heap.size iL eB oG (pre++[x]) ft) dy ft) (fun _ _ _=>False)) { tmps:=a.tmps.setIfInBounds p (enc x),defers:=[] } W)
  (Bs:∀D xs W,w.heap.size≤D→oL xs→eB xs W→W.heap[D]? = some (.deferred (some []))→Q .normal { a with defers:={ target:=.collected D,args:=#[] } :: a.defers } W)
  (FC:∀D c pre W,w.heap.size≤D→qd pre→oG c pre W→W.heap[D]? = some (.deferred (some []))→c.wpIn Fence.wide 3 P Q { a with defers:={ target:=.collected D,args:=#[] } :: a.defers } W) :
  (Code.rangeFunc g #[p] vP body).wpIn Fence.wide 3 P Q a w:=by
 refine wpIn_rangeFunc fun fn qB=>?_;obtain⟨ma,rE⟩:∃ma:LoopState→Option Code→Loop,ma=fun st Ks=>{ state:=st,pending:=Ks,fn,tmps:=a.tmps,params:=#[p],assign:=vP,body,defers:=w.heap.size }:=⟨_,rfl⟩;obtain⟨av,oe⟩:∃av,(w.alloc (.deferred (some []))).alloc (.loop (ma .ready none))=av:=⟨_,rfl⟩;have JL:av.heap.size=w.heap.size+2:=by rw[←oe];simp
 have nm:av.heap[w.heap.size+1]? = some (.loop (ma .ready none)):=by
  rw[←oe]
  have:=World.alloc_heap_new (w.alloc (.deferred (some []))) (.loop (ma .ready none))
  rwa[World.size_alloc] at this
 have wG:av.heap[w.heap.size]? = some (.deferred (some [])):=by rw[←oe];exact(Below.heap_alloc _ _ _ (by simp)).trans (World.alloc_heap_new w _)
 have Fq:eB [] av:=by rw[←oe];exact bH.alloc _ (bH.alloc _ aj)
 have cL:Below w0.heap.size w0 av:=by rw[←oe];exact(he.alloc _).alloc _
 have low:∀{A B:World} {row:Option Nat},(∀r,row=some r→av.heap.size≤r∧∃au:Obj,A.heap[r]? = some au∧au.isWalk=true)→(∀r,row=some r→w.heap.size≤r∧∃au:Obj,A.heap[r]? = some au∧au.isCells=false) :=
  fun bd r e=>by obtain⟨U,au,a1,hw⟩:=bd r e;exact⟨by omega,au,a1,Obj.not_cells_of_walk hw⟩
 refine⟨w.heap.size+1,[{ target:=.collected w.heap.size,args:=#[] }],av,{ target:=.fn (.func kV) hF,args:=#[.func (.yield (w.heap.size+1)) #[] #[]] },av,kV,
  #[.func (.yield (w.heap.size+1)) #[] #[]]++hF,av,?_,?_,fun _ _=>trivial,?_,fun _=>by decide,?_⟩
 ·rw[←oe,rE];exact run_enterLoop_outer _ _ _ _ _
 ·simp only[resolve,a8];simp[go_sem]
 ·simp[invoke,go_sem,De dh]
 refine CallsIn.mono (Hw (r:=none) (callsIn_wide.1 (s4 (w.heap.size+1)
  (fun pre W=>eB pre W∧W.heap[w.heap.size+1]? = some (.loop (ma .ready none))∧W.heap[w.heap.size]? = some (.deferred (some [])))
  (fun pre W => ∃c,oG c pre W∧W.heap[w.heap.size+1]? = some (.loop (ma .done (some c)))∧W.heap[w.heap.size]? = some (.deferred (some [])))
  av cL ?_ ?_ ?_ ⟨Fq,nm,wG⟩))) ?_
 ·exact fun s A B row ay wJ bd=>⟨bH s A B row ay.1 wJ (low (B:=B) bd),(grownBy_keeps wJ (fun r e=>(bd r e).2) ay.2.1 rfl).trans ay.2.1,(grownBy_keeps wJ (fun r e=>(bd r e).2) ay.2.2 rfl).trans ay.2.2⟩
 ·intro s A B row ay wJ bd;obtain⟨c,ax,U,ag⟩:=ay;exact⟨c,uy c s A B row ax wJ (low (B:=B) bd),(grownBy_keeps wJ (fun r e=>(bd r e).2) U rfl).trans U,(grownBy_keeps wJ (fun r e=>(bd r e).2) ag rfl).trans ag⟩
 ·rintro pre x W ⟨ad,U,ag⟩ hlen;have cx:=run_yield (P:=P) (args:=#[enc x]) U (by rw[rE];rfl);rw[rE] at cx;refine⟨fn,_,vP,body,cx,T1 (r:=none) (m:=0 - 1) ?_⟩;refine(roundIn_of_wpIn (F:=Fence.wide) (n:=1) (l:=w.heap.size+1) qB ?_) |> fun h=>⟨trivial,fun c cs _=>h.2 c cs (room_wide _)⟩
  have bU:(#[p]:Array Tmp).zip #[enc x]=#[(p,enc x)]:=by apply Array.ext';simp[Array.toList_zip]
  have ZE:=Ju (w.heap.size+1) pre x W ad hlen;simp only[bU];refine wpIn_mono ZE fun e dy js h=>?_;cases e with
  | normal =>
   obtain⟨ez,gd,iS⟩:=h;have fr:=ez.same _ _ (by omega) U rfl;have d1:=ez.same _ _ (Nat.le_refl _) ag rfl;refine⟨_,run_beginRound fr (by rw[rE]),?_⟩;have cq:=(Array.getElem?_eq_some_iff.1 fr).1;have fL:(js.putObj (w.heap.size+1) (.loop { ma .ready none with state:=.busy })).heap[w.heap.size+1]? = some (.loop { ma .ready none with state:=.busy }):=World.putObj_heap_same cq;have d2:(js.putObj (w.heap.size+1) (.loop { ma .ready none with state:=.busy })).heap[w.heap.size]? = some (.deferred (some [])):=(World.putObj_heap_other (by omega)).trans d1;have ca:iL js (js.putObj (w.heap.size+1) (.loop { ma .ready none with state:=.busy })):=sH.put _ _ _ _ (by omega) fr rfl;refine wpIn_mono (iS _ ⟨_,by omega,⟨_,fr,rfl⟩,grownBy_putObj' _ _ _⟩) fun e a3 mq aO=>?_;have fin:∀(jump:Option Code),KeepsFrom w.heap.size (js.putObj (w.heap.size+1) (.loop { ma .ready none with state:=.busy })) mq →
     (Instr.endRound (w.heap.size+1) jump).run P mq = .ok (.bool jump.isNone) (mq.putObj (w.heap.size+1) (.loop (ma (if jump.isNone then .ready else .done) jump))) ∧
     mq.heap[w.heap.size+1]? = some (.loop { ma .ready none with state:=.busy }) ∧
     (mq.putObj (w.heap.size+1) (.loop (ma (if jump.isNone then .ready else .done) jump))).heap[w.heap.size+1]? = some (.loop (ma (if jump.isNone then .ready else .done) jump)) ∧
     (mq.putObj (w.heap.size+1) (.loop (ma (if jump.isNone then .ready else .done) jump))).heap[w.heap.size]? = some (.deferred (some [])):=fun jump k3=>by
    have hp:=k3.same _ _ (by omega) fL rfl
    have:=run_endRound (P:=P) jump hp
    rw[rE] at this ⊢;exact⟨this,by rw[rE] at hp;exact hp,World.putObj_heap_same (Array.getElem?_eq_some_iff.1 hp).1,(World.putObj_heap_other (by omega)).trans (k3.same _ _ (Nat.le_refl _) d2 rfl)⟩
   cases e with
   | normal =>
    obtain⟨dO,dP,eg⟩:=aO;obtain⟨f1,f2,f3,f4⟩:=fin none dO;exact⟨_,_,f1,.inl ⟨rfl,⟨bH.putObj _ eg (by omega) f2 rfl,f3,f4⟩,sH.trans (sH.trans (sH.trans gd ca) dP) (sH.put _ _ _ _ (by omega) f2 rfl)⟩⟩
   | ret =>
    obtain⟨dO,eg⟩:=aO;obtain⟨f1,f2,f3,f4⟩:=fin (some .ret) dO;exact⟨_,_,f1,.inr ⟨rfl,.ret,(uy _).putObj _ eg (by omega) f2 rfl,f3,f4⟩⟩
   | exit id =>
    obtain⟨dO,eg⟩:=aO;obtain⟨f1,f2,f3,f4⟩:=fin (some (.exit id)) dO;exact⟨_,_,f1,.inr ⟨rfl,.exit id,(uy _).putObj _ eg (by omega) f2 rfl,f3,f4⟩⟩
   | goto t =>
    obtain⟨dO,eg⟩:=aO;obtain⟨f1,f2,f3,f4⟩:=fin (some (.goto t)) dO;exact⟨_,_,f1,.inr ⟨rfl,.goto t,(uy _).putObj _ eg (by omega) f2 rfl,f3,f4⟩⟩
   | _=>exact aO.elim
  | _=>exact h.elim
 ·rintro e ft ⟨⟨v,rfl⟩,(⟨xs,ck,ad,U,ag⟩ | ⟨pre,ZA,c,ad,U,ag⟩)⟩
  ·exact⟨none,_,by have:=run_endLoop (P:=P) U (by rw[rE];simp);rw[rE] at this;exact this,Bs _ xs _ (Nat.le_refl _) ck (bH.putObj _ ad (by omega) U rfl) ((World.putObj_heap_other (by omega)).trans ag)⟩
  ·exact⟨some c,_,by have:=run_endLoop (P:=P) U (by rw[rE];simp);rw[rE] at this;exact this,FC _ c pre _ (Nat.le_refl _) ZA ((uy c).putObj _ ad (by omega) U rfl) ((World.putObj_heap_other (by omega)).trans ag)⟩
def po(P:Program):q6→(Option Nat→dN→Fr→World→Prop)→Fr→World→Prop
 | .tw g p a b,Q,S,w=>VI P (bb S g) p a b (fun D=>Q (some D)) S w
 | .tA x y,Q,S,w=>po P x (fun au=>tG (fun S w=>dM P y (Q au) S w) (Q au)) S w
 | .lG x y,Q,S,w=>dM P x (tG (fun S w=>po P y Q S w) (Q none)) S w
 | .aW id x,Q,S,w=>po P x (fun au=>x9 id (Q au)) S w
def marks:Option Nat→List Deferred
 | none=>[]
 | some D=>[{ target:=.collected D,args:=#[] }]
def SQ(n:Nat)(Q:Option Nat→dN→Fr→World→Prop):Exit→Act→World→Prop
 | .normal,a,w => ∃au S,Fits (marks au) a S n∧Q au .normal S w
 | .exit i,a,w => ∃au S,Fits (marks au) a S n∧Q au (.exit i) S w
 | .ret,a,w => ∃au S,Fits (marks au) a S n∧Q au .ret S w
 | .panic c,a,w => ∃au S,Fits (marks au) a S n∧Q au (.fK c) S w
 | _,_,_=>False
theorem acK{n:Nat}{Q:Option Nat→dN→Fr→World→Prop}{au:Option Nat}{e:Exit}{a:Act}{w:World}(h:FX (marks au) n (Q au) e a w):SQ n Q e a w:=by
 cases e with
 | normal=>obtain⟨S,h1,U⟩:=h;exact⟨au,S,h1,U⟩
 | exit i=>obtain⟨S,h1,U⟩:=h;exact⟨au,S,h1,U⟩
 | ret=>obtain⟨S,h1,U⟩:=h;exact⟨au,S,h1,U⟩
 | panic c=>obtain⟨S,h1,U⟩:=h;exact⟨au,S,h1,U⟩
 | _=>exact h.elim
theorem Gm{P:Program}(hm:P.follows .mixedOrders=true){n:Nat}:∀(c:Code) (rc:q6),lj P n c=some rc→∀(Q:Option Nat→dN→Fr→World→Prop) (a:Act) (S:Fr) (w:World),Fits [] a S n→po P rc Q S w→c.wpIn Fence.wide 3 P (SQ n Q) a w
 | .rangeFunc g db vP b,rc,h,Q,a,S,w,aN,aS=>by
  simp only[lj] at h;split at h
  ·rename_i p oi hF uQ bp aD;split at h
   ·rename_i aO;injection h with h;subst h
    obtain⟨α,enc,kV,ai2,iL,oL,qd,N,w0,a8,dh,s4,he,sH,eB,oG,bH,uy,aj,ZJ,Bs,FC⟩:=aS;have aaZ:db=#[p]:=by rw[←Array.toArray_toList (xs:=db),uQ]
    subst aaZ;refine ae4 (by rw[aN.eval];exact a8) dh s4 he sH eB (fun c=>match c with | .ret=>oG .ret | .exit id=>oG (.exit id) | _=>fun _ _=>False) bH ?_ aj ?_ ?_ ?_
    ·intro c;split
     ·exact uy _
     ·exact uy _
     ·exact fun s W cu row h _ _=>h.elim
    ·intro l pre x W ad aP;have uG:Fits [] ({ tmps:=a.tmps.setIfInBounds p (enc x),defers:=[] }:Act) (b7 S p (enc x)) n:=by
      refine⟨rfl,by simp[aN.2.1],fun t=>?_⟩
      have:=aN.2.2 t
      simp only[b7];by_cases aL:t=p
      ·subst aL;simp[aN.2.1,aO]
      ·have U:(a.tmps.setIfInBounds p (enc x))[t]? = a.tmps[t]? := Array.getElem?_setIfInBounds_ne (Ne.symm aL);rw[if_neg aL,←this];simp[Array.getD_eq_getD_getElem?,U]
     refine wpIn_mono (sound (ds:=[]) (r:=some l) hm vP oi bp _ _ _ W uG (ZJ pre x W ad aP)) fun e dt cu aB=>?_;cases e with
     | normal =>
      obtain⟨a6,dU,h1,U,ag⟩:=aB;refine⟨h1,U,fun ft aK=>?_⟩;refine wpIn_mono (sound (ds:=[]) (r:=some l) hm b hF aD _ _ _ ft dU (ag ft aK)) fun e a2 mq aB=>?_;cases e with
      | normal=>obtain⟨a6,_,h1,U,ag⟩:=aB;exact⟨h1,U,ag⟩
      | ret=>obtain⟨a6,_,h1,U⟩:=aB;exact⟨h1,U⟩
      | exit id=>obtain⟨a6,_,h1,U⟩:=aB;exact⟨h1,U⟩
      | panic c=>obtain⟨a6,_,h1⟩:=aB;exact h1.elim
      | _=>exact aB.elim
     | ret=>obtain⟨a6,_,h1⟩:=aB;exact h1.elim
     | exit id=>obtain⟨a6,_,h1⟩:=aB;exact h1.elim
     | panic c=>obtain⟨a6,_,h1⟩:=aB;exact h1.elim
     | _=>exact aB.elim
    ·intro D xs W nQ ck ad br;exact⟨some D,S,⟨by rw[aN.1];rfl,aN.2⟩,Bs D xs W nQ ck ad br⟩
    ·intro D c pre W nQ ck ad br;have Q3:Fits (marks (some D)) { a with defers:={ target:=.collected D,args:=#[] } :: a.defers } S n:=⟨by rw[aN.1];rfl,aN.2⟩;split at ad
     ·exact wpIn_ret ⟨some D,S,Q3,FC D .ret pre W (by simp) nQ ck ad br⟩
     ·exact wpIn_exit ⟨some D,S,Q3,FC D (.exit _) pre W (by simp) nQ ck ad br⟩
     ·exact ad.elim
   ·cases h
  ·cases h
 | .seq x y,rc,h,Q,a,S,w,aN,aS=>by
  simp only[lj] at h;split at h
  ·rename_i u6 ar;obtain⟨Uj,cx,rfl⟩:=Option.map_eq_some_iff.1 h;refine wpIn_seq (wpIn_mono (sound (ds:=[]) (r:=none) (m:=3) hm x u6 ar _ a S w aN aS) fun e dt w' aB=>?_);cases e with
   | normal=>obtain⟨a6,dU,aB⟩:=aB;exact Gm hm y Uj cx Q dt a6 w' dU aB
   | exit i=>obtain⟨a6,dU,aB⟩:=aB;exact⟨none,a6,dU,aB⟩
   | ret=>obtain⟨a6,dU,aB⟩:=aB;exact⟨none,a6,dU,aB⟩
   | panic c=>obtain⟨a6,dU,aB⟩:=aB;exact⟨none,a6,dU,aB⟩
   | _=>exact aB.elim
  ·split at h
   ·rename_i rx xg ar cx;injection h with h;subst h
    refine wpIn_seq (wpIn_mono (Gm hm x rx ar _ a S w aN aS) fun e dt w' aB=>?_);cases e with
    | normal =>
     obtain⟨au,a6,dU,aB⟩:=aB;exact wpIn_mono (sound (ds:=marks au) (r:=none) (m:=3) hm y xg cx (Q au) dt a6 w' dU aB) fun e OA bZ h=>acK h
    | exit i=>obtain⟨au,a6,dU,aB⟩:=aB;exact⟨au,a6,dU,aB⟩
    | ret=>obtain⟨au,a6,dU,aB⟩:=aB;exact⟨au,a6,dU,aB⟩
    | panic c=>obtain⟨au,a6,dU,aB⟩:=aB;exact⟨au,a6,dU,aB⟩
    | _=>exact aB.elim
   ·cases h
 | .block id b,rc,h,Q,a,S,w,aN,aS=>by
  simp only[lj] at h;obtain⟨KG,aD,rfl⟩:=Option.map_eq_some_iff.1 h;refine wpIn_block (wpIn_mono (Gm hm b KG aD _ a S w aN aS) fun e dt w' aB=>?_);cases e with
  | normal=>obtain⟨au,a6,dU,aB⟩:=aB;exact⟨au,a6,dU,aB⟩
  | ret=>obtain⟨au,a6,dU,aB⟩:=aB;exact⟨au,a6,dU,aB⟩
  | panic c=>obtain⟨au,a6,dU,aB⟩:=aB;exact⟨au,a6,dU,aB⟩
  | exit i =>
   obtain⟨au,a6,dU,aB⟩:=aB;simp only[x9] at aB;simp only[Exit.inBlock];split at aB
   ·rename_i ad;rw[if_pos ad];exact⟨au,a6,dU,aB⟩
   ·rename_i ad;rw[if_neg ad];exact⟨au,a6,dU,aB⟩
  | _=>exact aB.elim
 | .skip,rc,h,_,_,_,_,_,_=>by simp[lj] at h
 | .region _ _ _,rc,h,_,_,_,_,_,_=>by simp[lj] at h
 | .cond _ _ _,rc,h,_,_,_,_,_,_=>by simp[lj] at h
 | .loop _,rc,h,_,_,_,_,_,_=>by simp[lj] at h
 | .exit _,rc,h,_,_,_,_,_,_=>by simp[lj] at h
 | .ret,rc,h,_,_,_,_,_,_=>by simp[lj] at h
 | .scope _,rc,h,_,_,_,_,_,_=>by simp[lj] at h
 | .label _,rc,h,_,_,_,_,_,_=>by simp[lj] at h
 | .goto _,rc,h,_,_,_,_,_,_=>by simp[lj] at h
 | .refuse _,rc,h,_,_,_,_,_,_=>by simp[lj] at h
def EK(res:List lS)(R:Value→World→Prop):Option Nat→dN→Fr→World→Prop
 | none,e,S,w=>A1 res R e S w
 | some D,.normal,S,w=>w.heap[D]? = some (.deferred (some []))∧ny res S (e5 w D (.deferred none)) fun vs=>R (fY vs) (e5 w D (.deferred none))
 | some D,.ret,S,w=>w.heap[D]? = some (.deferred (some []))∧ny res S (e5 w D (.deferred none)) fun vs=>R (fY vs) (e5 w D (.deferred none))
 | some _,.exit _,_,_=>False
 | some _,.fK _,_,_=>False
theorem afi{P:Program}{D:Nat}{w:World}(h:w.heap[D]? = some (.deferred (some []))):(Instr.takeDeferred D).run P w = .ok [] (e5 w D (.deferred none)):=by
 simp[Instr.takeDeferred,Sem.run_bind,getObj,setObj,Sem.run,h,Result.andThen,e5]
theorem Yb{P:Program}{f:FuncId}{L:xT}(hm:P.follows .mixedOrders=true)(ax:yp P f=some L){args:List Value}{w:World}{R:Value→World→Prop}(bp:args.length≤L.n)
  (h:po P L.code (EK L.res R) (hd args 0) w):bu P f args.toArray w R:=by
 unfold yp at ax;split at ax
 ·rename_i fn qB;split at ax
  ·rename_i c aD;split at ax
   ·rename_i lc r h1 U;injection ax with ax;subst ax
    refine(callsIn_wide (n:=3)).1 (callsIn_of_wp_marks (F:=Fence.wide) qB aD trivial (wpIn_mono (Gm hm c lc h1 _ _ (hd args 0) w ?_ h) ?_))
    ·refine⟨rfl,?_,fun t=>?_⟩
     ·have:=bp;simp only at this;simp;omega
     ·rw[EU];simp only[Nat.zero_le,if_true,Nat.sub_zero];by_cases aL:t<args.length
      ·simp[Array.getD_eq_getD_getElem?,Array.getElem?_append,aL]
      ·simp only[Array.getD_eq_getD_getElem?,Array.getElem?_append,List.size_toArray,if_neg aL,List.getElem?_eq_none (Nat.le_of_not_lt aL),Option.getD_none];rw[Array.getElem?_replicate];split<;>rfl
    ·have fin:∀(au:Option Nat) (S:Fr) (dt:Act) (w':World),Fits (marks au) dt S fn.ntmps→(EK r R au .normal S w')→LeavesInM Fence.wide 3 P fn dt.tmps (fun e w' => ∃v,e = .returned v∧R v w') dt.defers .returning w':=by
      intro au S dt w' aN aB;rw[aN.1];cases au with
      | none =>
       obtain⟨vs,ag,aK⟩:=p1 aN _ _ _ U aB;exact⟨_,tv ag,_,rfl,aK⟩
      | some D =>
       obtain⟨br,aB⟩:=aB;obtain⟨vs,ag,aK⟩:=p1 aN _ _ _ U aB;exact⟨by simp,.inl ⟨D,_,rfl,afi br,⟨_,tv ag,_,rfl,aK⟩⟩⟩
     intro e dt w' aB;cases e with
     | normal=>obtain⟨au,S,aN,aB⟩:=aB;exact fin au S dt w' aN aB
     | ret =>
      obtain⟨au,S,aN,aB⟩:=aB;refine fin au S dt w' aN ?_;cases au<;>exact aB
     | exit i=>obtain⟨au,S,aN,aB⟩:=aB;cases au<;>exact aB.elim
     | panic c=>obtain⟨au,S,aN,aB⟩:=aB;cases au<;>exact aB.elim
     | _=>exact aB.elim
   ·cases ax
  ·cases ax
 ·cases ax
end bt
namespace bt
open Go Go.RowKit
section
variable{P:Program}{S:Fr}{w:World}
theorem jY.start{f:FuncId}{L:xT}(hm:P.follows .mixedOrders=true)(ax:yp P f=some L){args:List Value}{w:World}{R:Value→World→Prop}(bp:args.length≤L.n)(h:po P L.code (EK L.res R) (hd args 0) w):bu P f args.toArray w R:=Yb hm ax bp h
theorem jY.lG{x:eV}{y:q6}{Q:Option Nat→dN→Fr→World→Prop}(h:dT P x (h0 (fun S w=>po P y Q S w) (Q none) ⟨⟩) S w ⟨⟩):po P (.lG x y) Q S w:=by unfold dT h0 at h;exact h
theorem jY.tA{x:q6}{y:eV}{Q:Option Nat→dN→Fr→World→Prop}(h:po P x (fun au=>h0 (fun S w=>dT P y (Q au) S w ⟨⟩) (Q au) ⟨⟩) S w):po P (.tA x y) Q S w:=by unfold dT h0 at h;exact h
theorem jY.aW{id:Nat}{x:q6}{Q:Option Nat→dN→Fr→World→Prop}(h:po P x (fun au=>oT id (Q au) ⟨⟩) S w):po P (.aW id x) Q S w:=by unfold oT at h;exact h
theorem jY.ret{res:List lS}{R:Value→World→Prop}{D:Nat}(br:w.heap[D]? = some (.deferred (some [])))(h:hL res S (e5 w D (.deferred none)) (fun vs=>R (fY vs) (e5 w D (.deferred none))) ⟨⟩):EK res R (some D) .ret S w:=by
 unfold hL at h;exact⟨br,h⟩
theorem jY.tw{α:Type}{enc:α→Value}{g:Operand}{p:Nat}{a b:eV}{Q:Option Nat→dN→Fr→World→Prop}{kV:Nat}{hF:Array Value}{iL:World→World→Prop}{oL qd:List α→Prop}{N:Nat}{w0:World}
  (a8:bb S g = .func (.func kV) #[] hF)(dh:okF P kV=true)(s4:SeqStopsK Fence.wide 0 P kV hF (fun x=>#[enc x]) iL oL qd N w0)(he:Ext w0 w)(sH:DX iL w.heap.size)
  (eB:List α→World→Prop)(bH:OwnFrom w.heap.size eB)(aj:eB [] w)
  (Ju:∀pre x W,eB pre W→pre.length<N→dT P a (h0 (fun Ao js=>KeepsFrom w.heap.size W js∧iL W js∧∀ft,vJ w.heap.size js ft →
   dT P b (h0 (fun _ cu=>KeepsFrom w.heap.size ft cu∧iL ft cu∧eB (pre++[x]) cu) (fun _ _ _=>False) ⟨⟩) Ao ft ⟨⟩) (fun _ _ _=>False) ⟨⟩) (b7 S p (enc x)) W ⟨⟩)
  (Bs:∀D xs W,w.heap.size≤D→oL xs→eB xs W→W.heap[D]? = some (.deferred (some []))→Q (some D) .normal S W):po P (.tw g p a b) Q S w:=by
 refine⟨α,enc,kV,hF,iL,oL,qd,N,w0,a8,dh,s4,he,sH,eB,fun _ _ _=>False,bH,fun _ _ _ _ _ h _ _=>h.elim,aj,fun pre x W ad aP=>?_,Bs,fun D e pre W _ _ _ h _=>h.elim⟩;have h:=Ju pre x W ad aP;unfold dT h0 at h;refine p4 a _ _ _ W (fun e Ao js _ h1=>?_) h;cases e with
 | normal =>
  obtain⟨ez,gd,iS⟩:=h1;refine⟨ez,gd,fun ft bd=>?_⟩;have U:=iS ft bd;refine p4 b _ _ _ ft (fun e lW mq _ ag=>?_) U;cases e with
  | normal=>exact ag
  | exit _=>exact ag.elim
  | ret=>exact ag.elim
  | fK _=>exact ag.elim
 | exit _=>exact h1.elim
 | ret=>exact h1.elim
 | fK _=>exact h1.elim
theorem vJ.cells{B:Nat}{W cu:World}(h:vJ B W cu){k:Nat}{c:Array Value}{t:TypeId}{f:Nat×Nat}(hk:W.heap[k]? = some (.cells c t f)):cu.heap[k]? = some (.cells c t f):=by
 obtain⟨l,aP,⟨au,a1,ax⟩,a8⟩:=h;rw[a8.block k (cM hk) fun e=>by injection e with e;subst e;rw[a1] at hk;injection hk with hk;subst hk;cases ax];exact hk
theorem vJ.mod{B:Nat}{W cu:World}(h:vJ B W cu):∃l,B≤l∧(∀c t f,W.heap[l]? ≠ some (.cells c t f))∧Mod (fun k=>k=l) W cu:=by
 obtain⟨l,aP,⟨au,a1,ax⟩,a8⟩:=h;exact⟨l,aP,(fun c t f e=>by rw[a1] at e;injection e with e;subst e;cases ax),Mod.grown a8 fun k e=>by injection e with e;exact e.symm⟩
theorem Ext.keeps{W cu:World}(h:Ext W cu)(B:Nat):KeepsFrom B W cu:=⟨h.size,fun k au _ hk _=>h.obj hk⟩
theorem Mod.keeps{A:Nat→Prop}{B:Nat}{W cu:World}(h:Mod A W cu)(e2:∀k,B≤k→A k→∃c t f,W.heap[k]? = some (.cells c t f)):KeepsFrom B W cu :=
 ⟨h.size,fun k au hT hk ax=>h.obj (fun a=>by obtain⟨c,t,f,e⟩:=e2 k hT a;rw[hk] at e;injection e with e;subst e;cases ax) hk⟩
theorem Mod.hl{A:Nat→Prop}{hW:Nat}{cQ:List TypeId}{W cu:World}(h:Mod A W cu)(aI:hW≤W.heap.size)(aj:∀k,k<hW→¬A k)(e2:∀k c t f,A k→W.heap[k]? = some (.cells c t f)→t∉cQ):sc hW cQ W cu :=
 ⟨⟨h.os,h.tape,h.output,h.size,fun k hk=>h.block k (by omega) (aj k hk)⟩,fun k c t f hk aL=>h.block k (cM hk) fun a=>e2 k c t f a hk aL⟩
theorem Mod.high{A:Nat→Prop}{w W cu:World}{row:Option Nat}(h:Mod A w W)(a8:W.grownBy cu row)(bd:∀r,row=some r→w.heap.size≤r):Mod A w cu :=
 h.comp (Mod.grown (A:=fun k=>row=some k) a8 fun k e=>e) (fun _ _ a=>a) fun i ad e=>by have:=bd i e;omega
def ep(aZ:Nat)(cT:List Nat)(cQ:List TypeId)(W cu:World):Prop:=Mod (fun k=>k∈cT∨(aZ≤k∧∃c t f,t∈cQ∧W.heap[k]? = some (.cells c t f))) W cu
theorem Ext.ym{aZ:Nat}{cT:List Nat}{cQ:List TypeId}{W cu:World}(h:Ext W cu):ep aZ cT cQ W cu:=h.mod
theorem ep.trans{aZ:Nat}{cT:List Nat}{cQ:List TypeId}{a b c:World}(h:ep aZ cT cQ a b)(k:ep aZ cT cQ b c):ep aZ cT cQ a c :=
 ⟨k.os.trans h.os,k.tape.trans h.tape,k.output.trans h.output,Nat.le_trans h.size k.size,fun i ad aI=>by
  have e:=h.block i ad aI;refine(k.block i (Nat.lt_of_lt_of_le ad h.size) fun a=>aI ?_).trans e;rcases a with a | ⟨dy,c,t,f,a2,a3⟩
  ·exact .inl a
  ·exact .inr ⟨dy,c,t,f,a2,by rw[←e];exact a3⟩⟩
theorem dK.ym{aZ b:Nat}{cT:List Nat}{cQ:List TypeId}{W cu:World}(h:dK b W cu)(aD:b∈cT):ep aZ cT cQ W cu:=(h.mod (A:=fun k=>k=b) rfl).GJ fun k e=>.inl (e ▸ aD)
theorem ep.grown{α:Type}{enc:α→List Value}{sz aZ:Nat}{e:TypeId}{cT:List Nat}{cQ:List TypeId}{W cu:World}{v:Value}{xs:List α}(a1:bs enc e sz aZ W v xs)(a8:W.grownBy cu v.ownBlock)(he:e∈cQ):ep aZ cT cQ W cu :=
 (Mod.grown (A:=fun k=>v.ownBlock=some k) a8 fun k e=>e).GJ fun k hk=>by
  obtain⟨cur,h⟩:=a1.aW k hk;exact .inr ⟨(a1.lt k hk).1,_,_,_,he,h⟩
theorem ep.keeps{aZ B:Nat}{cT:List Nat}{cQ:List TypeId}{W cu:World}(h:ep aZ cT cQ W cu)(hT:∀b∈cT,b<B):KeepsFrom B W cu :=
 Mod.keeps h fun k hk a=>by
  rcases a with a | ⟨_,c,t,f,_,a⟩
  ·have:=hT k a;omega
  ·exact⟨c,t,f,a⟩
theorem ep.hl{aZ hW:Nat}{cT:List Nat}{cQ lI:List TypeId}{W cu:World}(h:ep aZ cT cQ W cu)(aI:hW≤W.heap.size)(aj:hW≤aZ)(aD:∀b∈cT,hW≤b∧∀c t f,W.heap[b]? = some (.cells c t f)→t∉lI)(aL:∀t∈cQ,t∉lI):sc hW lI W cu :=
 Mod.hl h aI (fun k hk a=>by
  rcases a with a | ⟨a,_⟩
  ·have:=(aD k a).1;omega
  ·omega) fun k c t f a hk=>by
  rcases a with a | ⟨_,l0,hr,rm,dy,a2⟩
  ·exact(aD k a).2 c t f hk
  ·rw[hk] at a2;injection a2 with a2;injection a2 with _ a2;subst a2;exact aL _ dy
theorem ep.from{cT:List Nat}{cQ:List TypeId}{w W cu:World}(h:Mod (fun k=>k∈cT) w W)(c:ep w.heap.size cT cQ W cu):Mod (fun k=>k∈cT) w cu :=
 h.comp c (fun _ _ a=>a) fun k hk a=>by
  rcases a with a | ⟨a,_⟩
  ·exact a
  ·omega
theorem ep.obj{aZ:Nat}{cT:List Nat}{cQ:List TypeId}{W cu:World}(h:ep aZ cT cQ W cu){k:Nat}{c:Array Value}{t:TypeId}{f:Nat×Nat}(hk:W.heap[k]? = some (.cells c t f))(aD:k∉cT)(aL:t∉cQ):cu.heap[k]? = some (.cells c t f):=by
 rw[Mod.block h k (cM hk) fun a=>?_]
 ·exact hk
 ·rcases a with a | ⟨_,l0,hr,rm,dy,a2⟩
  ·exact aD a
  ·rw[hk] at a2;injection a2 with a2;injection a2 with _ a2;subst a2;exact aL dy
end
end bt
end
section
namespace Go.Proofs.R
open Go bt Go.Proofs
def D.c2:xT:=⟨37,[.tmp 2], (.lG (.bJ [aG 1 (.box T.c (ab 0)),ah 2 (.const aQ)]) (.lG (.bJ [aG 3 (.new T.z aQ)]) (.lG (.bJ [a7 8 (.cF [an,an] [(0,1),(1,1)] [(0,(ai (-1)))]),aG 4 (.new T.a an),aG 5 (.new T.l (.agg #[an,an])),iI (.st (ab 4) (ai (-1))),cf 2 5 8]) (.tA (.lG (.bJ [bn 9 5 1,aY 10 F.x6 [9]]) (.aW 0 (.tw (ab 10) 11 (.bJ [aG 6 (.new T.l (.agg #[an,an])),cf 2 6 11]) (.aW 1 (.seq (J [bn 12 2 6,bn 13 2 5,bm .neq T.l 14 12 13] (aE 14 (.bJ [ae 15 4,az .add T.a 16 15 1,ys 4 16]) .skip)) (J [bn 17 2 6,cf 2 5 17] (J [af 18 3 1,ae 19 18,af 20 0 6,ae 21 20,bo 22 5 19 21,af 23 4 22,ae 24 23,bL 25 24,ah 26 (ai 0)] (.aW 2 (.loop (J [bm .lss T.a 27 26 25] (fy 27 2
 (.seq (.aW 3 (J [I 28 26,I 7 28] (.bJ [ae 29 3,ae 30 4,I 31 7,a7 32 (.cF [an,an] [(0,1),(1,1)] [(0,(ab 30)),(1,(ab 31))]),aG 33 (.cV T.p 1 2 [an,an] [(0,(ab 32))]),aG 34 (.app T.z T.p 2 16 (ab 29) (ab 33)),ys 3 34]))) (fM T.a 35 26))))))))))))) (J [ae 36 3,I 2 36] .ret)))))⟩
theorem GY.c2:yp Tryz.prog F.c2=some D.c2:=by kernel_rfl
def D.ba:xT:=⟨13,[.tmp 4], (.lG (.bJ [aG 2 (.box T.nH (ab 0)),ah 4 (.const aQ)]) (.tA (.lG (.bJ [I 6 1]) (.aW 0 (.tw (ab 6) 7 (.bJ [aG 5 (.new T.l (.agg #[an,an])),cf 2 5 7]) (.aW 1 (.bJ [ae 8 2,bn 9 2 5,aG 10 (.cV T.l 1 2 [an,an] [(0,(ab 9))]),aG 11 (.app T.nH T.l 2 16 (ab 8) (ab 10)),ys 2 11]))))) (J [ae 12 2,I 4 12] .ret)))⟩
theorem GY.ba:yp Tryz.prog F.ba=some D.ba:=by kernel_rfl
end Go.Proofs.R
end
section
namespace o
open Go Go.RowKit bt
theorem Pf(x:c3):sv Us x.enc:=⟨⟨_,rfl⟩,⟨_,rfl⟩,trivial⟩
theorem abN(x y:c3)(h:x.enc=y.enc):x=y:=by cases x;cases y;simpa[c3.enc] using h
abbrev uc(m:Model):={x:c3 // x.of m}
end o
namespace bt
open Go Go.RowKit
theorem Ext.Zb{w w':World}(h:Ext w w'):w.grownBy w' none:=⟨h.os,h.tape,h.output,h.size,fun k hk _=>h.heap hk⟩
end bt
namespace Go.Proofs.R
open Go Go.RowKit bt
theorem X5(cs:List Value)(m:o.Model)(p:o.dj)(ct dM:Value)(w:World)(h:o.er w cs m) :
  bu Tryz.prog F.AS #[.agg cs.toArray,.agg (p.enc ct dM).toArray] w fun v w'=>v = .int .i64 (o.elems m p)∧Ext w w':=by
 obtain⟨cy,bO,b9,c1,ch,c2,cm,bN,cA,bT,rfl,aj,h1,U,ag,aK,eG,du,dF,dV,eo⟩:=h.form;refine bM E.AS ?_;refine bF ?_;refine aa ?_;intro av bC cL aA aq;refine aa ?_;intro aT ca dB aC aM;have cR:∀{w'},Ext aT w'→Ext w w':=fun e=>(aA.trans aC).trans e;refine aa ?_;rw[o.elems];apply K.cond<;>intro g1
 ·refine aa ?_;rw[o.gQ (.inl (by omega))];exact⟨bw,cR (Ext.refl _)⟩
 refine aa ?_;apply K.cond<;>intro g2
 ·refine aa ?_;rw[o.gQ (.inr (by omega))];exact⟨bw,cR (Ext.refl _)⟩
 have ad:(p.over - 1).toNat<m.scalars.length:=by omega
 obtain⟨a,rfl⟩:=aj.addr (by omega);rw[o.hX (by omega) (by omega)];refine aa ?_;refine K.dk (p.over - 1).toNat (by omega) ad ?_;refine aa ?_;apply K.cond<;>intro g3
 ·refine aa ?_;refine⟨?_,cR (Ext.refl _)⟩;rw[if_pos (by omega)];rfl
 refine aa ?_;apply K.cond<;>intro g4
 ·refine aa ?_;refine⟨?_,cR (Ext.refl _)⟩;rw[if_pos (by omega)];rfl
 refine aa ?_;refine⟨?_,cR (Ext.refl _)⟩;rw[if_neg (by omega)];congr 1;omega
theorem aeK(cs:List Value)(m:o.Model)(p:o.dj)(ct dM:Value)(w:World)(h:o.er w cs m) :
  bu Tryz.prog F.Cu #[.agg cs.toArray,.agg (p.enc ct dM).toArray] w fun v w'=>v = .int .i64 (o.elems m p)∧Ext w w':=by
 obtain⟨cy,bO,b9,c1,ch,c2,cm,bN,cA,bT,rfl,aj,h1,U,ag,aK,eG,du,dF,dV,eo⟩:=h.form;refine bM E.Cu ?_;refine bF ?_;refine aa ?_;intro av bC cL aA aq;refine aa ?_;intro aT ca dB aC aM;have cR:∀{w'},Ext aT w'→Ext w w':=fun e=>(aA.trans aC).trans e;refine aa ?_;rw[o.elems];apply K.cond<;>intro g1
 ·refine aa ?_;rw[o.gQ (.inl (by omega))];exact⟨bw,cR (Ext.refl _)⟩
 refine aa ?_;apply K.cond<;>intro g2
 ·refine aa ?_;rw[o.gQ (.inr (by omega))];exact⟨bw,cR (Ext.refl _)⟩
 have ad:(p.over - 1).toNat<m.scalars.length:=by omega
 obtain⟨a,rfl⟩:=aj.addr (by omega);rw[o.hX (by omega) (by omega)];refine aa ?_;refine K.dk (p.over - 1).toNat (by omega) ad ?_;refine aa ?_;apply K.cond<;>intro g3
 ·refine aa ?_;refine⟨?_,cR (Ext.refl _)⟩;rw[if_pos (by omega)];rfl
 refine aa ?_;apply K.cond<;>intro g4
 ·refine aa ?_;refine⟨?_,cR (Ext.refl _)⟩;rw[if_pos (by omega)];rfl
 refine aa ?_;refine⟨?_,cR (Ext.refl _)⟩;rw[if_neg (by omega)];congr 1;omega
def R9(x:o.c3):Value:=.agg x.enc.toArray
theorem Sh{r3 w0:World}{b:Nat}{cs:List Value}{m:o.Model}(ax:w0.heap[b]? = some (.cells cs.toArray T.c))(h:o.er r3 cs m)(pK:Ext r3 w0) :
  SeqStopsK Fence.wide 0 Tryz.prog F.ql #[.pointer (some ⟨b,0,none⟩)] (fun x:o.uc m=>#[R9 x.1]) (sc r3.heap.size [T.g,T.c]) (fun xs=>xs.map Subtype.val=o.insts m) (fun _=>True) (o.insts m).length w0:=by
 intro l ja Vv W aD qw ahy cx aaw;have IW:Ext r3 W:=pK.trans aD;have QL:=Ext.obj (w:=w0) aD ax;obtain⟨cy,bO,b9,c1,ch,c2,cm,bN,cA,bT,rfl,aj,h1,U,ag,aK,eG,du,dF,dV,eo⟩:=h.form;refine callsIn_wide.2 (Calls.mono (show bu Tryz.prog F.ql #[.func (.yield l) #[] #[],.pointer (some ⟨b,0,none⟩)] W (fun _ cu=>(∃xs,xs.map Subtype.val=o.insts m∧ja xs cu)∨(∃pre:List (o.uc m),True∧Vv pre cu)) from ?_) fun e cu ⟨v,bP,ba⟩=>⟨⟨v,bP⟩,ba⟩);have Qq:∀{pre:List (o.uc m)} {w w':World},ja pre w→Ext w w'→ja pre w':=fun {pre w w'} aU e=>qw pre w w' none aU e.Zb (fun r e=>by cases e);refine bM E.ql ?_;refine bF ?_;refine aa ?_;refine K.df 9 m.procs.length [0,1,7,8] (fun _=>[]) ([]:List (o.uc m)) (fun k pre w'=>(Ext r3 w'∧w'.heap[b]? = some (.cells #[.slice cy m.scalars.length bO,.slice b9 m.vars.length c1,.slice ch m.aJ.length c2,.slice cm m.procs.length bN,.slice cA m.props.length bT] T.c)∧ja pre w')∧pre.map Subtype.val++o.ic m (m.procs.drop k) k=o.insts m) bB bB ⟨⟨IW,QL,aaw⟩,by simp[o.insts]⟩ ?_;clear QL ax;rintro k pre S av hk ⟨⟨aA,QN,Rh⟩,s0⟩;refine aa ?_;apply K.cond<;>intro g1
 ·have bh:k<m.procs.length:=by omega
  obtain⟨a,rfl⟩:=ag.addr (by omega);obtain⟨ay,ct,dM,ej,eJ,hi⟩:=ag.at k bh;obtain⟨_,_,rfl,_⟩:=eJ.form;obtain⟨_,_,rfl,_⟩:=hi.form;rw[o.Sb bh] at s0;have wB:=cM QN;refine ei ?_;simp -dsimp only[cw];refine ei ?_;simp -dsimp only[cw];refine ei ?_;intro zS ca dB lu qy;refine ei ?_;intro aT abt aM;have aC:=abt.ext lu dB;have QO:=aC.obj QN;have yN:=Qq Rh aC;have fw:∀(q:List (o.uc m)) (r:List o.c3),q.map Subtype.val++r=o.insts m→r≠[]→q.length<(o.insts m).length:=fun q r e bd=>by
   rw[←e,List.length_append,List.length_map]
   have:=List.length_pos_iff.2 bd
   omega
  have sP:=o.A0 m m.procs[k];refine ei ?_;refine K.hQ [0,1,3,4,7,8,9] (fun _=>[]) (fun(CY:List (o.uc m)) w'=>(Ext r3 w'∧w'.heap[ca]? = aT.heap[ca]? ∧ w'.heap[b]? = aT.heap[b]? ∧ ja CY w')∧CY.map Subtype.val=pre.map Subtype.val++o.hI k m.procs[k]) ?_ ?_
  ·refine aa ?_;apply K.cond<;>intro g2
   ·have bP:o.hI k m.procs[k]=[⟨(k:Int),0⟩]:=by unfold o.hI;rw[if_pos g2]
    rw[bP] at s0;refine aa ?_;refine K.yield (cx pre ⟨⟨(k:Int),0⟩,by simp,by simpa using bh,by simp⟩ aT yN (fw pre _ (by simpa[List.append_assoc] using s0) (by simp))) ?_;rintro e bf (⟨rfl,BA,wK⟩ | ⟨rfl,BA⟩)
    ·refine⟨.bool true,rfl,?_⟩;refine aa ?_;exact⟨_,trivial,⟨Below.trans (Ext.trans aA aC) wK.1,wK.2 ca _ _ _ aM (by simp),wK.2 b _ _ _ QO (by simp),BA⟩,by simp[bP]⟩
    ·refine⟨.bool false,rfl,?_⟩;refine aa ?_;exact .inr ⟨_,trivial,BA⟩
   ·have bP:o.hI k m.procs[k]=[]:=by unfold o.hI;rw[if_neg g2]
    refine aa ?_;exact⟨pre,trivial,⟨aA.trans aC,bw,bw,yN⟩,by simp[bP]⟩
  rintro Ku S bf ⟨⟨aw,bK,QP,BA⟩,aaT⟩;rw[aM] at bK;rw[QO] at QP;refine aa ?_;refine K.call (X5 _ m m.procs[k] _ _ bf (h.ext aw)) ?_;rintro _ bq ⟨rfl,aR⟩;have Ri:=Qq BA aR;have QQ:=aR.obj QP;have nT:=aw.trans aR;have RJ:Ku.map Subtype.val++o.ih k (o.elems m m.procs[k])++o.ic m (m.procs.drop (k+1)) (k+1)=o.insts m:=by rw[aaT,←s0];simp
  refine aa ?_;refine K.df 27 (o.elems m m.procs[k]) [0,1,3,7,8,9,26] (fun _=>[]) Ku (fun j CY w'=>(Ext r3 w'∧w'.heap[b]? = bq.heap[b]? ∧ ja CY w')∧CY.map Subtype.val=Ku.map Subtype.val++o.ih k j) bB bB ⟨⟨nT,rfl,Ri⟩,by simp[o.ih]⟩ ?_;rintro j Kv S bS aU ⟨⟨bj,Fb,Rj⟩,yU⟩;rw[QQ] at Fb;refine aa ?_;apply K.cond<;>intro g3
  ·have ef:j<o.elems m m.procs[k]:=by omega
   have cq:Kv.length<(o.insts m).length:=by
    have bP:=congrArg List.length RJ;have ba:=congrArg List.length yU;simp only[List.length_append,List.length_map,o.ih,List.length_range] at bP ba;omega
   refine aa ?_;refine K.yield (cx Kv ⟨⟨(k:Int),(j:Int)+1⟩,by simp,by simpa using bh,by constructor<;>simp<;>omega⟩ bS Rj cq) ?_;rintro e bX (⟨rfl,Jb,BD⟩ | ⟨rfl,Jb⟩)
   ·refine⟨.bool true,rfl,?_⟩;refine aa ?_;exact⟨ef,bw,_,trivial,⟨Below.trans bj BD.1,by rw[BD.2 b _ _ _ Fb (by simp),Fb,QQ],Jb⟩,by simp[yU,o.Tm]⟩
   ·refine⟨.bool false,rfl,?_⟩;refine aa ?_;exact .inr ⟨_,trivial,Jb⟩
  ·have kY:j=o.elems m m.procs[k]:=by omega
   subst kY;refine aa ?_;exact⟨bh,bw,Kv,trivial,⟨bj,Fb,Rj⟩,by rw[yU];exact RJ⟩
 ·refine aa ?_;rw[List.drop_eq_nil_of_le (by omega)] at s0;exact .inl ⟨pre,by simpa[o.ic] using s0,Rh⟩
end Go.Proofs.R
end
section
namespace o
open Go
def c3.key(x:c3):Int:=5*x.proc+x.elem
def chain:c3→List c3→Prop
 | _,[]=>True
 | a,x :: r=>x≠a∧chain x r
theorem O6:∀(l:List c3) (a:c3),(a :: l).Pairwise (fun x y=>x.key<y.key)→chain a l
 | [],_,_=>trivial
 | x :: r,a,h=>by
  obtain⟨h1,U⟩:=List.pairwise_cons.1 h;refine⟨fun e=>?_,O6 r x U⟩
  have:=h1 x (by simp)
  rw[e] at this;exact absurd this (Int.lt_irrefl _)
theorem Sg{m:Model}:∀(l:List dj) (i:Nat),(ic m l i).Pairwise (fun x y=>x.key<y.key)∧∀x∈ic m l i,5*(i:Int)≤x.key
 | [],_=>⟨List.Pairwise.nil,fun x ar=>by simp[ic] at ar⟩
 | p :: r,i=>by
  obtain⟨h1,U⟩:=Sg r (i+1);have a1:∀x∈hI i p,x=⟨(i:Int),0⟩:=fun x ar=>by
   unfold hI at ar;split at ar
   ·simpa using ar
   ·cases ar
  have aS:∀x∈ih i (elems m p),∃k:Nat,k<4∧x=⟨(i:Int),(k:Int)+1⟩:=fun x ar=>by
   unfold ih at ar;obtain⟨k,hk,rfl⟩:=List.mem_map.1 ar
   have:=List.mem_range.1 hk
   have:=A0 m p
   exact⟨k,by omega,rfl⟩
  have nu:(ih i (elems m p)).Pairwise (fun x y=>x.key<y.key):=by
   unfold ih;rw[List.pairwise_map];exact List.Pairwise.imp (fun {a b} Be=>by simp only[c3.key];omega) List.pairwise_lt_range
  have ad3:(hI i p).Pairwise (fun x y=>x.key<y.key):=by
   unfold hI;split
   ·exact List.pairwise_singleton _ _
   ·exact List.Pairwise.nil
  simp only[ic];refine⟨List.pairwise_append.2 ⟨List.pairwise_append.2 ⟨ad3,nu,fun a bp b aD=>?_⟩,h1,fun a bp b aD=>?_⟩,fun x ar=>?_⟩
  ·obtain rfl:=a1 a bp;obtain⟨k,_,rfl⟩:=aS b aD;simp only[c3.key];omega
  ·have dB:=U b aD;rcases List.mem_append.1 bp with bp | bp
   ·obtain rfl:=a1 a bp;simp only[c3.key];simp at dB;unfold c3.key at dB;omega
   ·obtain⟨k,hk,rfl⟩:=aS a bp;unfold c3.key at dB ⊢;simp at dB ⊢;omega
  ·rcases List.mem_append.1 ar with ar | ar
   ·rcases List.mem_append.1 ar with ar | ar
    ·obtain rfl:=a1 x ar;simp[c3.key]
    ·obtain⟨k,hk,rfl⟩:=aS x ar;unfold c3.key;simp;omega
   ·have:=U x ar
    simp at this;omega
theorem abP(m:Model):chain ⟨-1,0⟩ (insts m):=by
 obtain⟨h1,U⟩:=Sg (m:=m) m.procs 0;refine O6 _ _ (List.pairwise_cons.2 ⟨fun x ar=>?_,h1⟩)
 have:=U x ar
 unfold c3.key at this ⊢;simp at this ⊢;omega
theorem Qc(m:Model):∀(l:List c3) (i:Nat) (a:c3) (out:List Ref),chain a l→(l.foldl (kN m) ((i:Int) - 1,a,out)).2.2=out++nx m l i
 | [],_,_,_,_=>by simp[nx]
 | x :: r,i,a,out,h=>by
  simp only[List.foldl_cons];have e:kN m ((i:Int) - 1,a,out) x=(((i+1:Nat):Int) - 1,x,out++refsOf i (pX m x)):=by
   unfold kN;simp only;rw[if_pos h.1];congr 1
   ·omega
   ·congr 2;congr 1;omega
  rw[e,Qc m r (i+1) x _ h.2];simp[nx]
theorem aeW(m:Model):((insts m).foldl (kN m) (-1,⟨-1,0⟩,[])).2.2=refs m:=by
 have:=Qc m (insts m) 0 ⟨-1,0⟩ [] (abP m)
 simpa[refs] using this
structure vx(m:Model):Prop where
 procs:m.procs.length≤30
 cB:∀p∈m.procs,p.cB.length≤30
theorem Kg{m:Model}(h:vx m)(x:c3):pX m x≤30:=by
 unfold pX;split
 ·rename_i p aO;refine h.cB p ?_;unfold nth at aO;by_cases aj:0≤x.proc
  ·rw[if_pos aj] at aO;exact List.mem_of_getElem? aO
  ·rw[if_neg aj] at aO;cases aO
 ·omega
theorem Qb{m:Model}(h:vx m):∀(l:List c3) (s:Int×c3×List Ref),s.1≤(l.foldl (kN m) s).1∧(l.foldl (kN m) s).1≤s.1+l.length∧(l.foldl (kN m) s).2.2.length≤s.2.2.length+30*l.length
 | [],s=>by simp
 | x :: r,s=>by
  obtain⟨h1,U,ag⟩:=Qb h r (kN m s x);simp only[List.foldl_cons,List.length_cons];have aI:=Kg h x;have bP:s.1≤(kN m s x).1∧(kN m s x).1≤s.1+1:=by unfold kN;simp only;split<;>omega
  have ba:(kN m s x).2.2.length≤s.2.2.length+30:=by unfold kN refsOf;simp only[List.length_append,List.length_map,List.length_range];omega
  omega
theorem TR{m:Model}(h:vx m):∀(l:List c3) (i:Nat),(nx m l i).length≤30*l.length
 | [],_=>by simp[nx]
 | x :: r,i=>by
  have:=TR h r (i+1)
  have:=Kg h x
  simp only[nx,List.length_append,refsOf,List.length_map,List.length_range,List.length_cons];omega
theorem KQ{m:Model}(h:vx m):(refs m).length≤4500:=by
 have:=TR h (insts m) 0
 have:=ta m
 have:=h.procs
 unfold refs;omega
structure NW(m:Model)(r:Ref)(i p k:Nat):Prop where
 ad:i<(insts m).length
 Db:r.inst=i
 ip:(insts m)[i].proc=p
 aO:p<m.procs.length
 Dc:r.cmd=k
 hk:k<m.procs[p].cB.length
theorem TS{m:Model}:∀(l:List c3) (i0:Nat) (r:Ref),r∈nx m l i0→∃j,∃aU:j<l.length,r.inst=((i0+j:Nat):Int)∧∃k:Nat,k<pX m l[j]∧r.cmd=k
 | [],_,_,h=>by simp[nx] at h
 | x :: l,i0,r,h=>by
  simp only[nx,List.mem_append] at h;rcases h with h | h
  ·unfold refsOf at h;obtain⟨k,hk,rfl⟩:=List.mem_map.1 h;exact⟨0,by simp,by simp,k,by simpa using hk,rfl⟩
  ·obtain⟨j,aU,h1,k,U,ag⟩:=TS l (i0+1) r h;exact⟨j+1,by simpa using aU,by rw[h1];congr 1;omega,k,by simpa using U,ag⟩
theorem aeV{m:Model}{r:Ref}(h:r∈refs m):∃i p k,NW m r i p k:=by
 obtain⟨j,aU,h1,k,U,ag⟩:=TS _ _ _ h;have ar:=qK (insts m)[j] (List.getElem_mem _);obtain⟨p,aO⟩:=Int.eq_ofNat_of_zero_le ar.aZ;have qG:p<m.procs.length:=by have:=ar.ad;omega
 refine⟨j,p,k,aU,by rw[h1];simp,aO,qG,ag,?_⟩;unfold pX at U;rw[aO,hX (by omega) (by omega)] at U;simpa using U
end o
end
section
namespace bt
open Go Go.RowKit
def OR(cQ t:TypeId)(sz b:Nat)(z:Array Value):xT:=⟨13,[.tmp 4],
 (.lG (.bJ [aG 2 (.box cQ (ab 0)),ah 4 (.const (.slice none 0 0))])
 (.tA (.lG (.bJ [I 6 1])
 (.aW 0 (.tw (ab 6) 7 (.bJ [aG 5 (.new t (.agg z)),iI (.qW sz (ab 5) (ab 7))]) (.aW 1 (.bJ [ae 8 2,mQ 9 (.jk sz (ab 5)),aG 10 (.cV t 1 sz z.toList [(0,(ab 9))]),aG 11 (.app cQ t sz b (ab 8) (ab 10)),ys 2 11])))))
 (.seq (.bJ [ae 12 2,I 4 12])
 .ret)))⟩
theorem SE:∀(vs pre post:List Value),vs.length≤post.length→(vs.zipIdx pre.length).foldl (fun cs (x:Value×Nat)=>cs.set (0+x.2) x.1) (pre++post)=pre++vs++post.drop vs.length
 | [],pre,post,_=>by simp
 | v :: vs,pre,[],h=>by simp at h
 | v :: vs,pre,p :: post,h=>by
  have fB:=SE vs (pre++[v]) post (by simpa using h);simp only[List.length_append,List.length_cons,List.length_nil] at fB;simp only[List.zipIdx_cons,List.foldl_cons,List.length_cons,List.drop_succ_cons];rw[show(pre++p :: post).set (0+pre.length) v=(pre++[v])++post from by simp,fB];simp
theorem YI{S:Fr}{sz:Nat}{z cs:List Value}{t:Nat}(aL:S t = .agg cs.toArray)(ax:cs.length=sz)(bU:z.length=sz)(aj:0<sz):ew S ((List.range 1).map fun i=>(i*sz,sz)) [(0,.tmp t)] z=some cs:=by
 have e:lay z 0 (.agg cs.toArray)=cs:=by
  have:=SE cs [] z (by omega)
  simp only[List.nil_append,List.length_nil] at this;unfold lay;simp only[Value.cells];rw[this,List.drop_eq_nil_of_le (by omega),List.append_nil]
 have bP:(bb S (.tmp t)).cells.size=sz:=by
  show(S t).cells.size=sz;rw[aL];simp[Value.cells,ax]
 have ba:((List.range 1).map fun i=>(i*sz,sz))[0]? = some (0,sz):=by simp
 unfold ew;simp only[ba];rw[if_pos ⟨bP,by omega⟩];unfold ew;show some (lay z 0 (S t))=_;rw[aL,e]
section
variable{α:Type}{P:Program}{f:FuncId}{t cQ:TypeId}{sz b:Nat}{enc:α→List Value}{z:Array Value}
theorem Wb(hm:P.follows .mixedOrders=true)(e9:yp P f=some (OR cQ t sz b z))(bU:z.size=sz)(hlen:∀x,(enc x).length=sz)(sZ:∀x,∀u∈enc x,u.oneCell'=true)(c8:0<sz)
  {kV:Nat}{hF:Array Value}{hW:Nat}{lI:List TypeId}{oL qd:List α→Prop}{N:Nat}{w0 w:World}(dh:okF P kV=true)
  (s4:SeqStopsK Fence.wide 0 P kV hF (fun x=>#[.agg (enc x).toArray]) (sc hW lI) oL qd N w0)(he:Ext w0 w)(sX:hW≤w.heap.size)(aL:t∉lI)(BZ:cQ∉lI)(dg:cQ≠t)(fT:N*b≤140737488355328)(Qs:N≤maxLen) :
  bu P f #[.slice none 0 0,.func (.func kV) #[] hF] w fun v w'=>(∃xs,oL xs∧bs enc t sz w.heap.size w' v xs)∧Ext w w':=by
 refine jY.start hm e9 (args:=[_,_]) (Nat.le_of_ble_eq_true rfl) ?_;dsimp only[OR,ab,ai,bV,a7,mQ,aG,de,iI,tM,I,ah,af,ae,bo,ys,bL];refine jY.lG ?_;refine aa ?_;intro av bC cL aA aq;refine aa ?_;refine jY.tA (jY.lG ?_);simp -dsimp only[cJ,cw,Nat.reduceAdd,Nat.reduceEqDiff,reduceIte,reduceCtorEq,cU];refine jY.aW (jY.tw (w0:=w0) (enc:=fun x=>.agg (enc x).toArray) (by simp[fv,cd]) dh s4 (he.trans aA) (sc.ok lI (Nat.le_trans sX aA.size))
  (fun pre W=>Mod (fun k=>k=bC) av W∧∃(bl:Option Addr) (n c:Nat),W.heap[bC]? = some (.cells #[.slice bl n c] cQ)∧bs enc t sz av.heap.size W (.slice bl n c) pre) ?_ ⟨Mod.refl _ _,none,0,0,aq,bs.nil _ _ _ _ _⟩ ?_ ?_)
 ·rintro pre W cu row ⟨hm,bl,n,c,aD,a1⟩ a8 bd;refine⟨hm.high a8 fun r e=>(bd r e).1,bl,n,c,?_,a1.mod (Mod.grown (A:=fun k=>row=some k) a8 fun k e=>e) fun k hk a=>?_⟩
  ·rw[a8.block bC (cM aD) fun e=>?_]
   ·exact aD
   ·obtain⟨au,h1,U⟩:=(bd bC e.symm).2;rw[aD] at h1;injection h1 with h1;subst h1;cases U
  ·obtain⟨cur,ag⟩:=a1.aW k hk;obtain⟨au,h1,U⟩:=(bd k a).2;rw[ag] at h1;injection h1 with h1;subst h1;cases U
 ·rintro pre x W ⟨hm,bl,n,c,mC,a1⟩ cq;have Rq:=cM aq;have aiq:=hm.size
  try (simp -dsimp only[cJ,cw,Nat.reduceAdd,Nat.reduceEqDiff,reduceIte,reduceCtorEq,cU])
  refine K.new fun js dH mB bj cC=>?_
  try (simp -dsimp only[cJ,cw,Nat.reduceAdd,Nat.reduceEqDiff,reduceIte,reduceCtorEq,cU])
  refine K.k6 cC bU (by simpa using hlen x) (by simpa using sZ x) fun ft hw aM=>?_
  try (simp -dsimp only[cJ,cw,Nat.reduceAdd,Nat.reduceEqDiff,reduceIte,reduceCtorEq,cU])
  have ba:=hw.ext bj mB;refine⟨ba.keeps _,ba.hl (by omega),fun mq wR=>?_⟩;obtain⟨l,aP,yR,h8⟩:=wR.mod;have bK:=wR.cells aM;have fU:=wR.cells (ba.obj mC);have eY:bs enc t sz av.heap.size mq (.slice bl n c) pre:=(a1.ext ba).mod h8 fun k hk a=>by
   subst a;obtain⟨cur,ag⟩:=(a1.ext ba).aW k hk;exact yR _ _ _ ag
  try (simp -dsimp only[cJ,cw,Nat.reduceAdd,Nat.reduceEqDiff,reduceIte,reduceCtorEq,cU])
  refine K.pQ fU (Ext.refl _) rfl ?_
  try (simp -dsimp only[cJ,cw,Nat.reduceAdd,Nat.reduceEqDiff,reduceIte,reduceCtorEq,cU])
  refine K.jk (gK bK) (hlen x) ?_
  try (simp -dsimp only[cJ,cw,Nat.reduceAdd,Nat.reduceEqDiff,reduceIte,reduceCtorEq,cU])
  refine K.kt (YI (cs:=enc x) (by simp[cd]) (hlen x) (by simpa using bU) c8) fun Hc Ek E3 aR bI=>?_
  try (simp -dsimp only[cJ,cw,Nat.reduceAdd,Nat.reduceEqDiff,reduceIte,reduceCtorEq,cU])
  have aaD:pre.length+1≤N:=cq;refine K.ud (ys:=[x]) (eY.ext aR) hlen (by simpa using gK bI) rfl sZ (Nat.le_trans (Nat.mul_le_mul_right b aaD) fT) (by simp only[List.length_cons,List.length_nil];omega) (by have:=h8.size;have:=aR.size;have:=ba.size;omega) fun b8 qe ea kD jB=>?_;obtain⟨jI,nJ,rfl,_⟩:=ea.form;have fo:=aR.obj fU;have Bj:qe.heap[bC]? = some (.cells #[.slice bl n c] cQ):=by
   rw[kD.block bC (cM fo) fun e=>?_]
   ·exact fo
   ·obtain⟨cur,ag⟩:=(eY.ext aR).aW bC e.symm;rw[fo] at ag;injection ag with ag;injection ag with _ ag;exact dg ag
  try (simp -dsimp only[cJ,cw,Nat.reduceAdd,Nat.reduceEqDiff,reduceIte,reduceCtorEq,cU])
  refine K.r0 Bj (by simp) rfl fun kT fW dr=>?_
  try (simp -dsimp only[cJ,cw,Nat.reduceAdd,Nat.reduceEqDiff,reduceIte,reduceCtorEq,cU])
  have fI:∀k,(Value.slice bl n c).ownBlock=some k→av.heap.size≤k:=fun k hk=>(eY.lt k hk).1;have acS:Mod (fun k=>(Value.slice bl n c).ownBlock=some k∨k=bC) Hc kT:=(Mod.grown (A:=fun k=>(Value.slice bl n c).ownBlock=some k) kD fun k e=>e).comp (A':=fun k=>k=bC) (fW.mod rfl) (fun _ _ a=>.inl a) (fun _ _ a=>.inr a);have J8:Mod (fun k=>(Value.slice bl n c).ownBlock=some k∨k=bC) mq kT:=aR.mod.comp acS (A:=fun _=>False) (fun _ _ h=>h.elim) (fun _ _ h=>h);refine⟨J8.keeps fun k hk a=>?_,J8.hl (by have:=h8.size;have:=ba.size;omega) (fun k hk a=>?_) (fun k l0 hr rm a hk uS=>?_),?_,jI,_,nJ,dr,?_⟩
  ·rcases a with a | a
   ·obtain⟨cur,ag⟩:=eY.aW k a;exact⟨_,_,_,ag⟩
   ·subst a;exact⟨_,_,_,fU⟩
  ·rcases a with a | a
   ·have:=fI k a;have:=aA.size;omega
   ·omega
  ·rcases a with a | a
   ·obtain⟨cur,ag⟩:=eY.aW k a;rw[ag] at hk;injection hk with hk;injection hk with _ hk;subst hk;exact aL uS
   ·subst a;rw[fU] at hk;injection hk with hk;injection hk with _ hk;subst hk;exact BZ uS
  ·refine(hm.comp (B:=fun k=>k=bC) (A':=fun k=>(Value.slice bl n c).ownBlock=some k∨k=bC∨k=l) ?_ (fun _ _ a=>a) fun k hk a=>?_)
   ·exact(ba.mod (A:=fun _=>False)).comp (h8.comp J8 (fun _ _ a=>(Or.inr (Or.inr a):_∨_∨_)) (fun _ _ a=>by rcases a with a | a;exact .inl a;exact .inr (.inl a))) (fun _ _ h=>h.elim) (fun _ _ h=>h)
   ·rcases a with a | a | a
    ·have:=fI k a;omega
    ·exact a
    ·omega
  ·refine ea.mod (fW.mod (A:=fun k=>k=bC) rfl) fun k hk a=>?_;subst a;obtain⟨cur,ag⟩:=ea.aW k hk;rw[Bj] at ag;injection ag with ag;injection ag with _ ag;exact dg ag
 ·rintro D xs W nQ ck ⟨hm,bl,n,c,mC,a1⟩ br;simp -dsimp only[cJ,cw,Nat.reduceAdd,Nat.reduceEqDiff,reduceIte,reduceCtorEq,cU];refine K.pQ mC (Ext.refl _) rfl ?_;simp -dsimp only[cJ,cw,Nat.reduceAdd,Nat.reduceEqDiff,reduceIte,reduceCtorEq,cU];refine jY.ret br ?_;simp -dsimp only[cJ,cw,Nat.reduceAdd,Nat.reduceEqDiff,reduceIte,reduceCtorEq,cU];have bP:Ext w W:=hm.ext aA fun k hk e=>by omega
  refine⟨⟨xs,ck,(a1.mod (A:=fun k=>k=D) ((dK.e5 _ _ _).mod rfl) fun k hk a=>?_).low aA.size⟩,bP.e5 (Nat.le_trans aA.size nQ) _⟩;subst a;obtain⟨cur,ag⟩:=a1.aW k hk;rw[br] at ag;injection ag with ag;cases ag
end
end bt
end
section
namespace bt
open Go Go.RowKit
theorem bs.map{α β:Type}{enc:β→List Value}{g:α→β}{e:TypeId}{sz base:Nat}{w:World}{v:Value}{xs:List α}(h:bs (fun x=>enc (g x)) e sz base w v xs):bs enc e sz base w v (xs.map g):=by
 unfold bs at *;rw[List.length_map,List.flatMap_map];exact h
theorem bs.lH{α:Type}{enc:α→List Value}{e:TypeId}{sz base:Nat}{w:World}{v:Value}{xs:List α}(c8:∀x,(enc x).length=sz)(h:bs enc e sz base w v xs):bz sz (Flat enc) w v xs:=bs.rZ c8 h
theorem bs.new{α:Type}{enc:α→List Value}{e:TypeId}{sz:Nat}{w w':World}{v:Value}{xs:List α}(c8:∀x,(enc x).length=sz)(h:bs enc e sz w.heap.size w' v xs):ev w (fun w=>bz sz (Flat enc) w v xs) w':=fun aT m =>
 bs.rZ c8 (bs.mod h m fun k hk a=>by have:=(h.lt k hk).1;omega)
end bt
namespace Go.Proofs.R
open Go Go.RowKit bt
abbrev oE(w:World)(v:Value)(l:List o.c3):Prop:=bz 2 (Flat o.c3.enc) w v l
abbrev NX(w:World)(v:Value)(l:List o.Ref):Prop:=bz 2 (Flat o.Ref.enc) w v l
theorem Sn(cs:List Value)(m:o.Model)(w:World)(h:o.er w cs m) :
  bu Tryz.prog F.x6 #[.agg cs.toArray] w fun v w'=>(∃b,v = .func (.func F.ql) #[] #[.pointer (some ⟨b,0,none⟩)]∧w'.heap[b]? = some (.cells cs.toArray T.c))∧Ext w w':=by
 obtain⟨cy,bO,b9,c1,ch,c2,cm,bN,cA,bT,rfl,_⟩:=h.form;refine bM E.x6 ?_;refine bF ?_;refine aa ?_;intro av bC cL aA aq;refine aa ?_;exact⟨⟨bC,rfl,aq⟩,aA⟩
theorem JR(cs:List Value)(m:o.Model)(w:World)(h:o.er w cs m)(a8:m.cX) :
  bu Tryz.prog F.oP #[.agg cs.toArray] w fun v w'=>bs o.c3.enc T.l 2 w.heap.size w' v (o.insts m)∧Ext w w':=by
 obtain⟨cy,bO,b9,c1,ch,c2,cm,bN,cA,bT,rfl,_⟩:=h.form;have aO:=a8.procs;have aP:=o.ta m;unfold o.dY at aO;refine bM E.oP ?_;refine bF ?_;refine aa ?_;intro av bC cL aA aq;refine aa ?_;refine K.call (Sn _ m av (h.ext aA)) ?_;rintro _ aT ⟨⟨b,rfl,aM⟩,aC⟩;have cR:Ext w aT:=aA.trans aC;refine aa ?_;refine K.call (f:=F.AL) (R:=fun v w'=>bs o.c3.enc T.l 2 aT.heap.size w' v (o.insts m)∧Ext aT w') ?_ ?_
 ·refine bM E.AL ?_;refine bF ?_;refine aa ?_;refine K.call (Wb (α:=o.uc m) (enc:=fun x=>x.1.enc) lx GY.ba rfl (fun _=>rfl) (fun x u hu=>by simp[o.c3.enc] at hu;rcases hu with rfl | rfl<;>rfl) (by decide) (by kernel_rfl)
   (Sh aM h cR) (Ext.refl _) cR.size (by decide) (by decide) (by decide) (by omega) (by unfold maxLen;omega)) ?_
  rintro v bf ⟨⟨xs,s7,a1⟩,aw⟩;refine aa ?_;exact⟨by rw[←s7];exact a1.map,aw⟩
 ·rintro v bf ⟨a1,aw⟩;refine aa ?_;exact⟨a1.low cR.size,cR.trans aw⟩
structure ko(av:World)(b5 cO dH:Nat)(s:Int×o.c3×List o.Ref)(W:World):Prop where
 mod:Mod (fun k=>k∈[b5,cO,dH]) av W
 ex:∃bl n c,W.heap[b5]? = some (.cells #[.slice bl n c] T.z)∧bs o.Ref.enc T.p 2 av.heap.size W (.slice bl n c) s.2.2
 aK:W.heap[cO]? = some (.cells #[.int .i64 s.1] T.a)
 bc:W.heap[dH]? = some (.cells s.2.1.enc.toArray T.l)
theorem ko.move{av:World}{b5 cO dH:Nat}{s:Int×o.c3×List o.Ref}{W cu:World}{A:Nat→Prop}(h:ko av b5 cO dH s W)(m:Mod A W cu)(e2:∀k c t f,W.heap[k]? = some (.cells c t f)→¬A k)(jN:∀k,A k→av.heap.size≤k):ko av b5 cO dH s cu:=by
 obtain⟨bl,n,c,e,a1⟩:=h.ex;refine⟨h.mod.comp m (fun _ _ a=>a) fun k hk a=>absurd (jN k a) (by omega),⟨bl,n,c,m.obj (e2 _ _ _ _ e) e,a1.mod m fun k hk a=>?_⟩,m.obj (e2 _ _ _ _ h.aK) h.aK,m.obj (e2 _ _ _ _ h.bc) h.bc⟩;obtain⟨cur,ag⟩:=a1.aW k hk;exact e2 _ _ _ _ ag a
theorem ko.ext{av:World}{b5 cO dH:Nat}{s:Int×o.c3×List o.Ref}{W cu:World}(h:ko av b5 cO dH s W)(e:Ext W cu):ko av b5 cO dH s cu:=h.move (A:=fun _=>False) e.mod (fun _ _ _ _ _ h=>h) fun _ h=>h.elim
theorem ui{W:World}{k:Nat}{c l0:Array Value}{t hr:TypeId}{f rm:Nat×Nat}(h:W.heap[k]? = some (.cells c t f))(bA:W.heap[k]? = some (.cells l0 hr rm)):t=hr:=by
 rw[h] at bA;injection bA with bA;injection bA
theorem ko.jK{av:World}{b5 cO dH:Nat}{s:Int×o.c3×List o.Ref}{W cu:World}{n:Int}(h:ko av b5 cO dH s W)(hw:dK cO W cu)(ax:cu.heap[cO]? = some (.cells #[.int .i64 n] T.a))(n34:b5≠cO)(n45:dH≠cO):ko av b5 cO dH (n,s.2) cu:=by
 obtain⟨bl,k,c,e,a1⟩:=h.ex;refine⟨h.mod.comp (A':=fun k=>k=cO) (hw.mod rfl) (fun _ _ a=>a) fun k hk a=>by simp[a],⟨bl,k,c,hw.obj e n34,a1.mod (hw.mod (A:=fun k=>k=cO) rfl) fun k hk a=>?_⟩,ax,hw.obj h.bc n45⟩;subst a;obtain⟨cur,ag⟩:=a1.aW k hk;exact absurd (ui ag h.aK) (by decide)
theorem ko.gS{av:World}{b5 cO dH:Nat}{s:Int×o.c3×List o.Ref}{W cu:World}{x:o.c3}(h:ko av b5 cO dH s W)(hw:dK dH W cu)(ax:cu.heap[dH]? = some (.cells x.enc.toArray T.l))(n35:b5≠dH)(n45:dH≠cO):ko av b5 cO dH (s.1,x,s.2.2) cu:=by
 obtain⟨bl,k,c,e,a1⟩:=h.ex;refine⟨h.mod.comp (A':=fun k=>k=dH) (hw.mod rfl) (fun _ _ a=>a) fun k hk a=>by simp[a],⟨bl,k,c,hw.obj e n35,a1.mod (hw.mod (A:=fun k=>k=dH) rfl) fun k hk a=>?_⟩,hw.obj h.aK (Ne.symm n45),ax⟩;subst a;obtain⟨cur,ag⟩:=a1.aW k hk;exact absurd (ui ag h.bc) (by decide)
theorem ko.app{av:World}{b5 cO dH:Nat}{s:Int×o.c3×List o.Ref}{W cu Ee:World}{bl jI:Option Addr}{n c iU l0:Nat}{l:List o.Ref}(h:ko av b5 cO dH s W)(he:W.heap[b5]? = some (.cells #[.slice bl n c] T.z))
  (a1:bs o.Ref.enc T.p 2 av.heap.size W (.slice bl n c) s.2.2)(k0:bs o.Ref.enc T.p 2 av.heap.size cu (.slice jI iU l0) l)(a8:W.grownBy cu (Value.slice bl n c).ownBlock)(hw:dK b5 cu Ee)
  (ax:Ee.heap[b5]? = some (.cells #[.slice jI iU l0] T.z))(n34:b5≠cO)(n35:b5≠dH):ko av b5 cO dH (s.1,s.2.1,l) Ee∧ep av.heap.size [b5,cO,dH] [T.p] W Ee:=by
 have cK:ep av.heap.size [b5,cO,dH] [T.p] W cu:=ep.grown a1 a8 (by simp);have JW:∀{k:Nat} {c:Array Value} {t:TypeId},W.heap[k]? = some (.cells c t)→t≠T.p→cu.heap[k]? = some (.cells c t):=fun {k c t} hk aL=>by
  rw[a8.block k (cM hk) fun e=>?_]
  ·exact hk
  ·obtain⟨cur,ag⟩:=a1.aW k e.symm;exact aL (ui hk ag)
 have Qn:=cK.trans (hw.ym (by simp));refine⟨⟨ep.from h.mod Qn,⟨jI,iU,l0,ax,k0.mod (hw.mod (A:=fun k=>k=b5) rfl) fun k hk a=>?_⟩,hw.obj (JW h.aK (by decide)) (Ne.symm n34),hw.obj (JW h.bc (by decide)) (Ne.symm n35)⟩,Qn⟩;subst a;obtain⟨cur,ag⟩:=k0.aW k hk;exact absurd (ui ag (JW he (by decide))) (by decide)
theorem aeX(cs:List Value)(m:o.Model)(w:World)(h:o.er w cs m)(dE:o.vx m) :
  bu Tryz.prog F.c2 #[.agg cs.toArray] w fun v w'=>bs o.Ref.enc T.p 2 w.heap.size w' v (o.refs m)∧Ext w w':=by
 obtain⟨cy,bO,b9,c1,ch,c2,cm,bN,cA,bT,rfl,aj,h1,U,ag,aK,eG,du,dF,dV,eo⟩:=h.form;have pJ:=o.ta m;have qG:=dE.procs;refine jY.start lx GY.c2 (args:=[_]) (Nat.le_of_ble_eq_true rfl) ?_;dsimp only[D.c2,ab,ai,bV,a7,mQ,aG,de,iI,tM,I,ah,af,ae,bo,ys,bL,an,aQ,cH,bm,az,dq,cb,J,aE,bn,cf,gY,bx,aY,fy,fM,aX,ao,ak,List.map_cons,List.map_nil];refine jY.lG ?_;refine aa ?_;intro GH bC cL o2 Bq;refine aa ?_;refine jY.lG ?_;refine aa ?_;intro GI b5 fU nV mC;refine aa ?_;refine jY.lG ?_;refine aa ?_;intro vq cO fo lv gr;refine aa ?_;intro wd dH mB nW QS;have E4:dH≠cO:=by have:=cM gr;omega
 replace gr:=nW.obj gr;refine aa ?_;intro agF FI e3;have Z2:=FI.obj QS E4;refine aa ?_;intro wf FJ Fc;replace Fc:wf.heap[dH]? = some (.cells (⟨-1,0⟩:o.c3).enc.toArray T.l):=Fc;have DH:=cM Bq;have DI:=cM mC;have akc:=cM gr;have HY:Ext GH wf:=FJ.ext (FI.ext ((nV.trans lv).trans nW) (by have:=nV.size;omega)) (by have:=nV.size;have:=lv.size;omega);have PJ:Ext GI agF:=FI.ext (lv.trans nW) (by omega);have PK:Ext GI wf:=FJ.ext PJ (by have:=lv.size;omega);have QE:=PK.obj mC;have ZD:=HY.obj Bq;replace e3:=FJ.obj e3 (Ne.symm E4);have n34:b5≠cO:=by omega
 have n35:b5≠dH:=by have:=lv.size;omega
 have aj8:=nV.size;have akb:=lv.size;clear Z2 QS gr FI FJ PJ PK mC Bq nV lv nW;refine jY.tA (jY.lG ?_);refine aa ?_;refine K.call (Sn _ m wf (h.ext (o2.trans HY))) ?_;rintro _ p5 ⟨⟨aha,rfl,IK⟩,Bv⟩;have tP:∀{w'},Ext p5 w'→Ext w w':=fun e=>((o2.trans HY).trans Bv).trans e;have E8:=Bv.obj QE;have sI:=Bv.obj ZD;have Io:=Bv.obj e3;have Iq:=Bv.obj Fc;have aiY:=cM E8;have aiZ:=cM Io;have ai0:=cM Iq;simp -dsimp only[cJ,cw,Nat.reduceAdd,Nat.reduceEqDiff,reduceIte,reduceCtorEq,cU];refine jY.aW (jY.tw (w0:=p5) (enc:=fun x:o.uc m=>R9 x.1) (by simp[fv,cd]) (by kernel_rfl) (Sh IK h (tP (Ext.refl _))) (Ext.refl _) (sc.ok _ (tP (Ext.refl _)).size)
  (fun pre W=>ko p5 b5 cO dH ((pre.map Subtype.val).foldl (o.kN m) (-1,⟨-1,0⟩,[])) W) ?_ ⟨Mod.refl _ _,⟨none,0,0,E8,bs.nil _ _ _ _ _⟩,Io,Iq⟩ ?_ ?_)
 ·rintro pre W cu row ia a8 bd;refine ia.move (A:=fun k=>row=some k) (Mod.grown a8 fun k e=>e) (fun k c t f hk a=>?_) fun k a=>(bd k a).1;obtain⟨au,h1,U⟩:=(bd k a).2;rw[hk] at h1;injection h1 with h1;subst h1;cases U
 ·rintro pre x W ia cq;have rr:=o.Qb dE (pre.map Subtype.val) (-1,⟨-1,0⟩,[]);simp only[List.length_map,List.length_nil] at rr;have key:((pre++[x]).map Subtype.val).foldl (o.kN m) (-1,⟨-1,0⟩,[])=o.kN m ((pre.map Subtype.val).foldl (o.kN m) (-1,⟨-1,0⟩,[])) x.1:=by
   rw[List.map_append,List.foldl_append];rfl
  generalize (pre.map Subtype.val).foldl (o.kN m) (-1,⟨-1,0⟩,[])=s at ia rr key;have BL:=o.Kg dE x.1;have B3:=x.2;refine ei ?_;intro js ix gM aA dr;refine ei ?_;refine⟨aA.keeps _,aA.hl (Nat.le_trans (tP (Ext.refl _)).size ia.mod.size),fun ft wR=>?_⟩;obtain⟨l,aP,yR,fz⟩:=wR.mod;replace dr:=wR.cells dr;have s5:ko p5 b5 cO dH s ft:=(ia.ext aA).move fz (fun k c t f hk a=>by subst a;exact yR _ _ _ hk) fun k a=>by omega
  have X3:p5.heap.size≤ft.heap.size:=s5.mod.size;have ahB:ft.heap[bC]? = p5.heap[bC]? := s5.mod.block bC (cM sI) (by simp;omega);have Rz:ix∉[b5,cO,dH]:=by have:=ia.mod.size;simp;omega
  clear ia wR fz yR Io Iq E8 e3 QE Fc;generalize jB:(if x.1≠s.2.1 then s.1+1 else s.1)=at' at key;refine ei ?_;refine K.hQ [1,3,4,5,6] (fun _=>[]) (fun(_:Unit) cu=>ko p5 b5 cO dH (at',s.2) cu∧ep p5.heap.size [b5,cO,dH] [T.p] ft cu) ?_ ?_
  ·have ahx:=s5.aK;have Qk:=s5.bc;refine aa ?_;refine K.adj (sig:=o.Us) (by kernel_rfl) (o.Pf _) (o.Pf _) fun r bd=>?_;refine aa ?_;refine K.c4 (fun g1=>?_) (fun g1=>?_)
   ·have dg:x.1≠s.2.1:=fun e=>bd.1 g1 (by rw[e]);rw[if_pos dg] at jB;subst jB;refine aa ?_;intro mq eZ bK;refine aa ?_;exact⟨(),trivial,s5.jK eZ bK n34 E4,eZ.ym (by simp)⟩
   ·have heq:x.1=s.2.1:=o.abN _ _ (Classical.byContradiction fun aI=>by rw[bd.2 aI] at g1;cases g1);rw[if_neg (by simp[heq])] at jB;subst jB;refine aa ?_;exact⟨(),trivial,s5,(Ext.refl ft).ym⟩
  rintro _ S mq ⟨JA,QT⟩;replace dr:=ep.obj QT dr Rz (by decide);have IC:=JA.mod.block bC (cM sI) (by simp;omega);rw[sI] at IC;have Qk:=JA.bc;have Pz:∀b∈[b5,cO,dH],w.heap.size≤b:=fun b aD=>by
   have:=o2.size
   simp at aD;rcases aD with rfl | rfl | rfl<;>omega
  refine ei ?_;simp -dsimp only[cw];refine ei ?_;intro Hc ee bI;have RT:=JA.gS ee bI n35 E4;have Z4:=ep.trans QT (ee.ym (by simp));have ahC:=ee.obj IC (by omega);replace dr:=ee.obj dr (by simp at Rz;omega);have AT:Ext w Hc:=RT.mod.ext (tP (Ext.refl _)) fun k hk a=>by have:=Pz k a;omega
  clear IC Qk;obtain⟨oh,uJ⟩:=Int.eq_ofNat_of_zero_le B3.aZ;have rD:oh<m.procs.length:=by have:=B3.ad;omega
  obtain⟨a,rfl⟩:=ag.addr (by omega);obtain⟨ay,ct,dM,ej,eJ,hi⟩:=ag.at oh rD;obtain⟨_,_,rfl,_⟩:=eJ.form;obtain⟨_,_,rfl,lc⟩:=hi.form;have kF:o.pX m x.1=m.procs[oh].cB.length:=by
   unfold o.pX;rw[uJ,o.hX (by omega) (by omega)];simp
  rw[kF] at BL;refine aa ?_;refine K.dk oh uJ rD ?_;refine aa ?_;refine K.df 26 m.procs[oh].cB.length [1,3,4,5,6,25] (fun _=>[]) () (fun j _ cu=>ko p5 b5 cO dH (at',x.1,s.2.2++o.refsOf at' j) cu∧ep p5.heap.size [b5,cO,dH] [T.p] ft cu) bB bB ⟨by simpa[o.refsOf] using RT,Z4⟩ ?_;rintro j _ S kT aU ⟨BY,IM⟩;refine aa ?_;apply K.cond<;>intro g2
  ·obtain⟨bl,n,c,bQ,a1⟩:=BY.ex;have b3:=BY.aK;have RZ:=BY.mod.size;refine aa ?_;intro py ag8 jC bR da;refine aa ?_;have hlen:(s.2.2++o.refsOf at' j).length+1≤5000:=by
    simp only[List.length_append,o.refsOf,List.length_map,List.length_range];omega
   refine K.ud (ys:=[(⟨at',(j:Int)⟩:o.Ref)]) (a1.ext bR) (fun _=>rfl) (by simpa[o.Ref.enc] using gK da) rfl (by intro y u hu;simp[o.Ref.enc] at hu;rcases hu with rfl | rfl<;>rfl)
    (by simp only[List.length_cons,List.length_nil];omega) (by simp only[List.length_cons,List.length_nil];unfold maxLen;omega) (by have:=bR.size;omega) fun b8 VN h9 Fp _=>?_
   obtain⟨jI,nJ,rfl,_⟩:=h9.form;have ahq:VN.heap[b5]? = some (.cells #[.slice bl n c] T.z):=by
    rw[Fp.block b5 (cM (bR.obj bQ)) fun e=>?_]
    ·exact bR.obj bQ
    ·obtain⟨cur,ag⟩:=(a1.ext bR).aW b5 e.symm;exact absurd (ui ag (bR.obj bQ)) (by decide)
   refine aa ?_;intro ag2 lC dI;obtain⟨abf,Z5⟩:=(BY.ext bR).app (bR.obj bQ) (a1.ext bR) h9 Fp lC dI n34 n35;refine aa ?_;exact⟨by omega,bw,(),trivial,by rw[o.TT,←List.append_assoc];exact abf,ep.trans IM (ep.trans bR.ym Z5)⟩
  ·have kY:j=m.procs[oh].cB.length:=by omega
   refine aa ?_;refine⟨ep.keeps IM (fun b aD=>?_),ep.hl IM (Nat.le_trans (tP (Ext.refl _)).size X3) (tP (Ext.refl _)).size (fun b aD=>⟨Pz b aD,fun c t f hk aL=>?_⟩) (by decide),?_⟩
   ·simp at aD;rcases aD with rfl | rfl | rfl<;>omega
   ·simp at aD;rcases aD with rfl | rfl | rfl
    ·obtain⟨_,_,_,e,_⟩:=s5.ex
     have:=ui hk e;subst this;revert aL;decide
    ·have:=ui hk s5.aK;subst this;revert aL;decide
    ·have:=ui hk s5.bc;subst this;revert aL;decide
   ·show ko p5 b5 cO dH _ kT;rw[key]
    have:o.kN m s x.1=(at',x.1,s.2.2++o.refsOf at' j):=by unfold o.kN;rw[jB,kF,kY]
    rw[this];exact BY
 ·rintro D xs W nQ ck ia br;obtain⟨bl,n,c,bQ,a1⟩:=ia.ex;have wI:=o.aeW m;rw[ck] at a1;rw[wI] at a1;simp -dsimp only[cJ,cw,Nat.reduceAdd,Nat.reduceEqDiff,reduceIte,reduceCtorEq,cU];refine K.pQ bQ (Ext.refl _) rfl ?_;simp -dsimp only[cJ,cw,Nat.reduceAdd,Nat.reduceEqDiff,reduceIte,reduceCtorEq,cU];refine jY.ret br ?_;simp -dsimp only[cJ,cw,Nat.reduceAdd,Nat.reduceEqDiff,reduceIte,reduceCtorEq,cU];have ER:w.heap.size≤p5.heap.size:=(tP (Ext.refl _)).size;have bP:Ext w W:=ia.mod.ext (tP (Ext.refl _)) fun k hk a=>by
   have:=o2.size
   simp at a;rcases a with rfl | rfl | rfl<;>omega
  refine⟨(a1.mod (A:=fun k=>k=D) ((dK.e5 _ _ _).mod rfl) fun k hk a=>?_).low ER,bP.e5 (Nat.le_trans ER nQ) _⟩;subst a;obtain⟨cur,ag⟩:=a1.aW k hk;rw[br] at ag;injection ag with ag;cases ag
end Go.Proofs.R
end
section
namespace o
theorem Sa:∀(y:c3),∀u∈y.enc,u.oneCell'=true:=by intro y u hu;simp[c3.enc] at hu;rcases hu with rfl | rfl<;>rfl
theorem aeT:∀(y:Ref),∀u∈y.enc,u.oneCell'=true:=by intro y u hu;simp[Ref.enc] at hu;rcases hu with rfl | rfl<;>rfl
end o
namespace Go.Proofs.R
open Go Go.RowKit bt
theorem Da(cs:List Value)(m:o.Model)(w:World)(h:o.er w cs m)(a8:m.cX) :
  bu Tryz.prog F.tj #[.agg cs.toArray] w fun v w'=>bs o.c3.enc T.l 2 w.heap.size w' v (o.insts m)∧Ext w w':=by
 obtain⟨cy,bO,b9,c1,ch,c2,cm,bN,cA,bT,rfl,aj,h1,U,ag,aK,eG,du,dF,dV,eo⟩:=h.form;have aO:=a8.procs;have aP:=o.ta m;unfold o.dY at aO;refine bM E.tj ?_;refine bF ?_;refine aa ?_;intro av bC cL aA aq;refine aa ?_;refine K.df 4 m.procs.length [1] (fun x:gj×List o.c3=>[(3,.slice x.1.1 x.1.2.1 x.1.2.2)]) ((none,0,0),[]) (fun k x w'=>(Ext w w'∧w'.heap[bC]? = av.heap[bC]?)∧bs o.c3.enc T.l 2 w.heap.size w' (.slice x.1.1 x.1.2.1 x.1.2.2) x.2∧x.2++o.ic m (m.procs.drop k) k=o.insts m) bB bB ⟨⟨aA,rfl⟩,bs.nil _ _ _ _ _,by simp[o.insts]⟩ ?_;rw[aq];clear aq;rintro k ⟨v,l⟩ S aT hk ⟨⟨aC,aM⟩,eX,qC⟩;refine aa ?_;apply K.cond<;>intro g1
 ·have bh:k<m.procs.length:=by omega
  obtain⟨a,rfl⟩:=ag.addr (by omega);obtain⟨ay,ct,dM,ej,eJ,hi⟩:=ag.at k bh;obtain⟨_,_,rfl,_⟩:=eJ.form;obtain⟨_,_,rfl,_⟩:=hi.form;rw[o.Sb bh] at qC;have n3:=congrArg List.length qC;simp only[List.length_append] at n3;have sP:=o.A0 m m.procs[k];refine ei ?_;simp -dsimp only[cw];refine ei ?_;refine K.hQ [1,4] (fun x:gj=>[(3,.slice x.1 x.2.1 x.2.2)]) (fun x w'=>(Ext w w'∧w'.heap[bC]? = aT.heap[bC]?)∧bs o.c3.enc T.l 2 w.heap.size w' (.slice x.1 x.2.1 x.2.2) (l++o.hI k m.procs[k])) ?_ ?_
  ·refine aa ?_;apply K.cond<;>intro g2
   ·have bP:o.hI k m.procs[k]=[⟨(k:Int),0⟩]:=by unfold o.hI;rw[if_pos g2]
    rw[bP] at n3 ⊢;simp only[List.length_cons,List.length_nil] at n3;refine aa ?_;intro bf b5 fU aw bK;have eY:=eX.ext aw;have mC:=aw.obj aM;refine aa ?_;refine K.mr (y:=⟨(k:Int),0⟩) eY bK rfl (fun _=>rfl) o.Sa (by simp only;omega) (by unfold maxLen;simp only;omega) (aC.trans aw).size fun bl n c bq ey n0=>?_;refine aa ?_;exact⟨(bl,n,c),bB,⟨eY.mv (aC.trans aw) n0 (Nat.le_refl _),by rw[aM];exact eY.box n0 mC (by decide)⟩,ey⟩
   ·have bP:o.hI k m.procs[k]=[]:=by unfold o.hI;rw[if_neg g2]
    refine aa ?_;exact⟨v,bB,⟨aC,bw⟩,by rw[bP,List.append_nil];exact eX⟩
  rintro v3 S bf ⟨⟨aw,bK⟩,eY⟩;rw[aM] at bK;clear aM;refine aa ?_;refine K.DA [1,4] (fun x:gj×Nat=>[(3,.slice x.1.1 x.1.2.1 x.1.2.2),(5,.int .i64 ((x.2:Int)+1))]) (v3,0) (fun x w'=>(x.2≤o.elems m m.procs[k]∧Ext w w'∧w'.heap[bC]? = bf.heap[bC]?)∧bs o.c3.enc T.l 2 w.heap.size w' (.slice x.1.1 x.1.2.1 x.1.2.2) (l++o.hI k m.procs[k]++o.ih k x.2)) (fun x=>4 - x.2) bB ⟨⟨Nat.zero_le _,aw,rfl⟩,by simpa[o.ih] using eY⟩ ?_;rw[bK];clear bK;rintro⟨v4,j⟩ S bq ⟨⟨aU,aR,bI⟩,ey⟩;refine aa ?_;refine K.gn _ (fun w' e=>aeK _ m m.procs[k] _ _ w' (h.ext (aR.trans e))) ?_;refine aa ?_;intro bS bj;have cC:=bj.obj bI;have ea:=ey.ext bj;refine aa ?_;apply K.cond<;>intro g2
  ·have ef:j<o.elems m m.procs[k]:=by omega
   refine aa ?_;intro bX ix gM bk dr;have dn:=ea.ext bk;have mC:=bk.obj cC;have sN:=(aR.trans bj).trans bk;refine aa ?_;have jN:(l++o.hI k m.procs[k]++o.ih k j).length+1≤(o.insts m).length:=by
    simp only[List.length_append,o.ih,List.length_map,List.length_range] at n3 ⊢;omega
   refine K.mr (y:=⟨(k:Int),(j:Int)+1⟩) dn dr rfl (fun _=>rfl) o.Sa (Nat.le_trans (Nat.mul_le_mul_right 16 jN) (by omega)) (Nat.le_trans jN (by unfold maxLen;omega)) sN.size fun bl n c cn dX ji=>?_;refine aa ?_;exact⟨((bl,n,c),j+1),bB,⟨⟨by show j+1≤_;omega,dn.mv sN ji (Nat.le_refl _),dn.box ji mC (by decide)⟩,by rw[o.Tm,←List.append_assoc];exact dX⟩,by show 4 - (j+1)<4 - j;omega⟩
  ·have kY:j=o.elems m m.procs[k]:=by simp only at aU;omega
   refine aa ?_;exact⟨bh,bw,(v4,l++(o.hI k m.procs[k]++o.ih k j)),bB,⟨aR.trans bj,cC⟩,by rw[←List.append_assoc];exact ea,by rw[kY,←qC];simp⟩
 ·rw[List.drop_eq_nil_of_le (by omega)] at qC;refine aa ?_;refine⟨?_,aC⟩;simp only[o.ic,List.append_nil] at qC;rw[←qC];exact eX
theorem TP(cs:List Value)(m:o.Model)(w:World)(h:o.er w cs m)(a8:m.cX)(dE:o.vx m) :
  bu Tryz.prog F.zh #[.agg cs.toArray] w fun v w'=>bs o.Ref.enc T.p 2 w.heap.size w' v (o.refs m)∧Ext w w':=by
 obtain⟨cy,bO,b9,c1,ch,c2,cm,bN,cA,bT,rfl,aj,h1,U,ag,aK,eG,du,dF,dV,eo⟩:=h.form;have lA:=o.KQ dE;refine bM E.zh ?_;refine bF ?_;refine aa ?_;intro av bC cL aA aq;refine aa ?_;refine K.call (Da _ m av (h.ext aA) a8) ?_;rintro cr aT ⟨ad,aC⟩;have aM:=aC.obj aq;have lB:oE aT cr (o.insts m):=bs.lH (enc:=o.c3.enc) (fun _=>rfl) ad;obtain⟨eu,ci,rfl,bi⟩:=lB.form;have HQ:=aA.trans aC;refine aa ?_;refine K.df 5 (o.insts m).length [1,3] (fun x:gj×List o.Ref=>[(4,.slice x.1.1 x.1.2.1 x.1.2.2)]) ((none,0,0),[]) (fun k x w'=>(Ext aT w'∧bs o.Ref.enc T.p 2 aT.heap.size w' (.slice x.1.1 x.1.2.1 x.1.2.2) x.2)∧x.2++o.nx m ((o.insts m).drop k) k=o.refs m) bB bB ⟨⟨Ext.refl _,bs.nil _ _ _ _ _⟩,by simp[o.refs]⟩ ?_;rintro k ⟨v,l⟩ S bf hk ⟨⟨aw,eY⟩,yQ⟩;have bK:=aw.obj aM;refine aa ?_;apply K.cond<;>intro g1
 ·have bh:k<(o.insts m).length:=by omega
  have B3:=o.qK (o.insts m)[k] (List.getElem_mem _);obtain⟨oh,uJ⟩:=Int.eq_ofNat_of_zero_le B3.aZ;have rD:oh<m.procs.length:=by have:=B3.ad;omega
  obtain⟨a,rfl⟩:=ag.addr (by omega);obtain⟨lY,rfl⟩:=lB.addr (by omega);obtain⟨ay,ct,dM,ej,eJ,hi⟩:=ag.at oh rD;obtain⟨_,_,rfl,_⟩:=eJ.form;obtain⟨_,_,rfl,lc⟩:=hi.form;have kF:o.pX m (o.insts m)[k]=m.procs[oh].cB.length:=by
   unfold o.pX;rw[uJ,o.hX (by omega) (by omega)];simp
  rw[o.aeU bh,kF] at yQ;have n3:=congrArg List.length yQ;simp only[List.length_append] at n3;refine aa ?_;refine K.df 6 m.procs[oh].cB.length [1,3,5] (fun x:gj=>[(4,.slice x.1 x.2.1 x.2.2)]) v (fun j x w'=>Ext aT w'∧bs o.Ref.enc T.p 2 aT.heap.size w' (.slice x.1 x.2.1 x.2.2) (l++o.refsOf k j)) bB bB ⟨aw,by simpa[o.refsOf] using eY⟩ ?_;clear bK;rintro j v4 S bq aU ⟨aR,ey⟩;have bI:=aR.obj aM;have aif:=ej.ext HQ;refine aa ?_;refine K.dk oh uJ rD ?_;refine aa ?_;intro bS bj;have ea:=ey.ext bj;refine aa ?_;apply K.cond<;>intro g2
  ·have ef:j<m.procs[oh].cB.length:=by omega
   refine aa ?_;intro bX ix gM bk dr;have dn:=ea.ext bk;have sN:=(aR.trans bj).trans bk;refine aa ?_;have jN:(l++o.refsOf k j).length+1≤4500:=by
    simp only[List.length_append,o.refsOf,List.length_map,List.length_range] at n3 ⊢;omega
   refine K.mr (y:=⟨(k:Int),(j:Int)⟩) dn dr rfl (fun _=>rfl) o.aeT (by omega) (by unfold maxLen;omega) sN.size fun bl n c cn dX ji=>?_;refine aa ?_;exact⟨ef,bw,(bl,n,c),bB,dn.mv sN ji (Nat.le_refl _),by rw[o.TT,←List.append_assoc];exact dX⟩
  ·have kY:j=m.procs[oh].cB.length:=by omega
   refine aa ?_;exact⟨bh,bw,(v4,l++o.refsOf k j),bB,⟨aR.trans bj,ea⟩,by rw[kY,←yQ];simp⟩
 ·rw[List.drop_eq_nil_of_le (by omega)] at yQ;refine aa ?_;refine⟨?_,HQ.trans aw⟩;simp only[o.nx,List.append_nil] at yQ;rw[←yQ];exact eY.low HQ.size
end Go.Proofs.R
end
section
namespace bt
open Go
def dA(n:Int):List Value:=[.int .i64 n]
theorem j4:∀(y:Int),∀u∈dA y,u.oneCell'=true:=by intro y u hu;simp[dA] at hu;subst hu;rfl
instance aiE:k8 (Flat dA) (fun n=>[Value.int .i64 n]):=⟨fun _ _ _ h=>h⟩
end bt
end
section
set_option linter.unusedSimpArgs false
namespace Go.Proofs.R
open Go Go.RowKit bt
abbrev encI:Int→List Value:=fun n=>[Value.int .i64 n]
abbrev la(base:Nat)(w:World)(v:Value)(xs:List Int):Prop:=bs encI T.a 1 base w v xs
structure qa(base b:Nat)(w:World)(m:Value)(st:List Int):Prop where
 ex:∃xx,w.heap[b]? = some (.cells #[xx,m] T.ac)∧la base w xx st
 lt:b<base
 le:base≤w.heap.size
theorem qa.ext{base b:Nat}{w w':World}{m:Value}{st:List Int}(h:qa base b w m st)(he:Ext w w'):qa base b w' m st :=
 let ⟨xx,h1,U⟩:=h.ex
 ⟨⟨xx,he.obj h1,U.ext he⟩,h.lt,Nat.le_trans h.le he.size⟩
theorem Ik(st:List Int)(h:0<st.length):st.getLastD 0=st[st.length - 1]:=by
 rw[List.getLastD_eq_getLast?,List.getLast?_eq_getElem?,List.getElem?_eq_getElem (by omega)];rfl
theorem aga(base b:Nat)(w:World)(m:Value)(st:List Int)(h:qa base b w m st)(aj:0<st.length) :
  bu Tryz.prog F.AR #[.pointer (some ⟨b,0,none⟩)] w fun v w'=>v = .int .i64 (st.getLastD 0)∧Ext w w':=by
 obtain⟨xx,c7,a1⟩:=h.ex;obtain⟨bl,cap,rfl,ax,hm⟩:=a1.form;have ad:Ints w _ st:=bs.rZ (enc:=encI) (sz:=1) (fun _=>rfl) a1;obtain⟨a,rfl⟩:=ad.addr aj;unfold maxLen at hm;refine bM E.AR ?_;refine bF ?_;refine aH ?_;refine K.dk (st.length - 1) (by omega) (by omega) ?_;refine aH ?_;intro av he;refine aH ?_;rw[Ik _ aj];exact cg
theorem acb(x:o.Node)(cs:List Value)(s:o.Scope)(base b:Nat)(w:World)(m:Value)(st:List Int)(ar:x.ok)(h:o.e6 w cs s)(hm:qa base b w m st)(ag:x.op=3→0<st.length) :
  bu Tryz.prog F.d6 #[.pointer (some ⟨b,0,none⟩),.agg x.enc.toArray,.agg cs.toArray] w fun v w'=>v = .tuple #[.int .i64 (o.ie x s (st.getLastD 0)).1,.int .i64 (o.ie x s (st.getLastD 0)).2]∧Ext w w':=by
 obtain⟨a0,bO,dy,c1,a2,c2,a3,bN,a4,bT,rfl,qU,dO,dP,eg,gR,eG,du,dF,dV,eo⟩:=h.form;refine bM E.d6 ?_;refine bF ?_;simp -dsimp only[cw];refine oM ?_;refine K.new fun av bC cL aA aq=>?_;refine oM ?_;refine K.new fun aT ca dB aC aM=>?_;have he:=aA.trans aC;have ez:aT.heap[bC]? = some (.cells #[.int .i64 x.op,.int .i64 x.n] T.k):=aC.obj aq;clear aq;refine oM ?_;simp -dsimp only[cw];refine oM ?_;refine K.cut (fun a6 w'=>a6 0 = .pointer (some ⟨b,0,none⟩)∧a6 4 = .pointer (some ⟨bC,0,none⟩)∧a6 5 = .pointer (some ⟨ca,0,none⟩)∧w'=aT∧(x.op=2∨x.op=3∨x.op=4) ∧
  a6 8=if x.op=4 then .slice a4 s.locals.length bT else .slice dy s.vars.length c1) ?_ ?_
 ·refine aH ?_;apply K.cond<;>intro g1
  ·refine aH ?_;refine K.call (ON x.n 0 aT) ?_;rintro _ bf ⟨rfl,aw⟩;have hk:o.ie x s (st.getLastD 0)=if o.within x.n then (0,0) else (0,10):=by rw[o.ie,if_pos g1]
   have aL:(o.tell (· + ·) x.n 0).2=o.within x.n:=by
    unfold o.tell
    have:o.within 0=true:=rfl
    simp only[Int.add_zero,this,Bool.and_true,Bool.and_self];split<;>simp_all
   rw[hk,aL];refine aH ?_;refine K.c4 (fun g2=>?_) (fun g2=>?_)
   all_goals
    refine aH ?_;rw[g2];exact cg
  refine aH ?_;apply K.cond<;>intro g4
  ·refine aH ?_;refine⟨trivial,trivial,trivial,trivial,.inr (.inr g4),by rw[if_pos g4]⟩
  refine aH ?_;apply K.cond<;>intro g2
  ·refine aH ?_;refine⟨trivial,trivial,trivial,trivial,.inl g2,by rw[if_neg g4]⟩
  refine aH ?_;apply K.cond<;>intro g3
  ·refine aH ?_;refine⟨trivial,trivial,trivial,trivial,.inr (.inl g3),by rw[if_neg g4]⟩
  refine aH ?_;refine K.gm (c:=[_,_]) ez (Ext.refl _) rfl ?_;refine aH ?_;refine K.gm (c:=[_,_,_,_,_,_]) aM (Ext.refl _) rfl ?_;refine aH ?_;refine K.call (acd x _ s aT ar (h.ext he)) ?_;rintro _ bf ⟨rfl,aw⟩;refine aH ?_;have hk:o.ie x s (st.getLastD 0)=o.kK x s:=by rw[o.ie,if_neg g1,if_neg (by omega)]
  rw[hk];exact cg
 ·rintro S w' ck ⟨iG,nz,mL,rfl,j7,Uk⟩;have hk:o.ie x s (st.getLastD 0)=(let q:=o.fq (if x.op=4 then s.locals else s.vars) x.n s;if q.2.2=false then (0,8) else if (x.op=3∧(q.2.1=0∨st.getLastD 0≠q.2.1))∨(x.op≠3∧q.2.1≠0) then (0,9) else (q.1,0)):=by
   rw[o.ie,if_neg (by omega),if_pos j7]
  rw[hk];clear hk;have aS:o.gJ w' (S 8) (if x.op=4 then s.locals else s.vars):=by
   rw[Uk];split
   ·exact gR.ext he
   ·exact dO.ext he
  generalize (if x.op=4 then s.locals else s.vars)=l at aS ⊢;obtain⟨Ll,eW⟩:∃Ll,S 8=Ll:=⟨_,rfl⟩;rw[eW] at aS;clear Uk;refine cY (And.intro iG (And.intro nz (And.intro mL eW))) ?_;refine K.gm (c:=[_,_,_,_,_,_]) aM (Ext.refl _) rfl ?_;refine cY (And.intro iG (And.intro nz mL)) ?_;refine K.call (ags _ l x.n _ s w' aS (h.ext he)) ?_;rintro _ bf ⟨rfl,aw⟩;generalize o.fq l x.n s=q;obtain⟨vh,xq,KB⟩:=q;refine cY (And.intro iG (And.intro nz mL)) ?_;refine K.c4 (fun g1=>?_) (fun g1=>?_);rotate_left
  ·refine aH ?_;simp only[g1,if_true];exact cg
  have m3:=(hm.ext he).ext aw;refine cY (And.intro iG (And.intro nz mL)) ?_;apply K.cond<;>intro g2
  ·refine cY (And.intro iG (And.intro nz mL)) ?_;apply K.cond<;>intro g3
   ·refine cY (And.intro iG (And.intro nz mL)) ?_;simp only[g1,Bool.true_eq_false,if_false];rw[if_pos (.inl ⟨g2,.inl g3⟩)];exact cg
   refine cY (And.intro iG (And.intro nz mL)) ?_;refine K.call (aga base b bf m st m3 (ag g2)) ?_;rintro _ bq ⟨rfl,aR⟩;refine cY (And.intro iG (And.intro nz mL)) ?_;apply K.cond<;>intro g4
   ·refine cY (And.intro iG (And.intro nz mL)) ?_;simp only[g1,Bool.true_eq_false,if_false];rw[if_neg (by omega)];exact cg
   ·refine aH ?_;simp only[g1,Bool.true_eq_false,if_false];rw[if_pos (.inl ⟨g2,.inr g4⟩)];exact cg
  ·refine cY (And.intro iG (And.intro nz mL)) ?_;apply K.cond<;>intro g4
   all_goals
    refine aH ?_;simp only[g1,Bool.true_eq_false,if_false]
   ·rw[if_neg (by omega)];exact cg
   ·rw[if_pos (.inr ⟨g2,g4⟩)];exact cg
end Go.Proofs.R
end
section
set_option linter.unusedSimpArgs false
namespace Go.Proofs.R
open Go Go.RowKit bt
theorem K.aeo{P:Program}{x:Value}{args:List Value}{w:World}{aF:Value→Prop}{t}(v:Value)(h:∀w',Ext w w'→tO P x args w' (fun u bZ=>u=v∧Ext w' bZ) ⟨⟩)(hk:aF v):Al P x args w aF t:=by
 unfold Al;refine⟨v,fun w' he=>?_,hk⟩
 have:=h w' he
 unfold tO at this;obtain⟨f,first,cap,e,aN,bd⟩:=this;exact⟨f,first,cap,e,aN,bd.mono fun _ _ ⟨h1,U⟩=>⟨h1,he.trans U⟩⟩
theorem xN.ext{w w':World}{v:Value}{g:Int→Int→Int×Bool}(he:Ext w w')(h:xN w v g):xN w' v g:=by
 rcases h with h | ⟨c,f,p,h1,U,ag⟩
 ·exact .inl h
 ·exact .inr ⟨c,f,p,h1,he.obj U,ag⟩
def K7(f:o.Node→List Int→Int×Int)(two:o.oH→List Int→Int×Int)(leaf:o.Node→List Int→Int×Int):Prop :=
 ∀x st,f x st=match o.fX x.op with | some au=>two au (st.drop (st.length - au.parts.toNat)) | none=>leaf x st
theorem Td{x:Int}{au:o.oH}(h:o.fX x=some au):1≤au.parts∧au.parts≤2:=by
 unfold o.fX at h
 repeat' split at h
 all_goals first | (cases h;exact⟨by decide,by decide⟩) | cases h
theorem afZ(f:o.Node→List Int→Int×Int)(two:o.oH→List Int→Int×Int)(leaf:o.Node→List Int→Int×Int)(aN:K7 f two leaf)
  (x:o.Node)(base b:Nat)(w:World)(m k7 v2:Value)(st:List Int)(hm:qa base b w m st)(a1:oI w m)(sG:st.length≤24)
  (Jf:0≤o.eK x.op→o.eK x.op≤st.length→o.fX x.op=none→∀w' c6 t,Ext w w'→(∀bZ,Ext w' bZ→c6 (.tuple #[.int .i64 (leaf x st).1,.int .i64 (leaf x st).2]) bZ)→vv Tryz.prog k7 [.agg x.enc.toArray] w' c6 t)
  (JE:∀au e1 fQ w' c6 t,Ext w w'→o.fX x.op=some au→Ai w' au e1→au.parts≤st.length→Ints w' fQ (st.drop (st.length - au.parts.toNat)) →
   (∀bZ,Ext w' bZ→c6 (.tuple #[.int .i64 (two au (st.drop (st.length - au.parts.toNat))).1,.int .i64 (two au (st.drop (st.length - au.parts.toNat))).2]) bZ)→tO Tryz.prog v2 [e1,fQ] w' c6 t) :
  bu Tryz.prog F.AQ #[.pointer (some ⟨b,0,none⟩),.agg x.enc.toArray,k7,v2] w fun v w' =>
   v = .int .i64 (o.stepG f x st).1∧Mod (fun k=>k=b∨base≤k) w w'∧((o.stepG f x st).1=0→qa base b w' m (o.stepG f x st).2):=by
 obtain⟨xx,c7,fI⟩:=hm.ex;obtain⟨bl,cap,rfl,Br,gB⟩:=fI.form;have ad:Ints w _ st:=bs.rZ (enc:=encI) (sz:=1) (fun _=>rfl) fI;unfold maxLen at gB;refine bM E.AQ ?_;refine bF ?_;simp -dsimp only[cw];refine oM ?_;refine K.new fun av bC cL aA aq=>?_;refine oM ?_;simp -dsimp only[cw];refine oM ?_;refine K.gn _ (fun w' e=>adX x.op m w' (a1.ext (aA.trans e))) ?_;refine oM ?_;intro aT aC;have fl:=aA.trans aC;refine oM ?_;simp -dsimp only[cw];generalize aI:o.eK x.op=n;have jE : -1≤n∧n≤2:=by rw[←aI];unfold o.eK; (repeat' split)<;>omega
 refine aH ?_;apply K.cond<;>intro g1
 ·refine aH ?_;have ay:o.stepG f x st=(3,st):=by unfold o.stepG;rw[aI,if_pos g1]
  rw[ay];exact⟨rfl,fl.mod,fun h=>by cases h⟩
 refine aH ?_;apply K.cond<;>intro g2
 ·refine aH ?_;have ay:o.stepG f x st=(4,st):=by unfold o.stepG;rw[aI,if_neg g1,if_pos g2]
  rw[ay];exact⟨rfl,fl.mod,fun h=>by cases h⟩
 refine oM ?_;simp -dsimp only[cw];refine oM ?_;simp -dsimp only[cw];refine oM ?_;have ec:o.stepG f x st=if (f x st).2≠0 then ((f x st).2,st) else if (st.take (st.length - n.toNat)++[(f x st).1]).length > 12 then (12,st) else (0,st.take (st.length - n.toNat)++[(f x st).1]):=by
  unfold o.stepG;rw[aI,if_neg g1,if_neg g2]
 rw[ec];clear ec;have uG:=aN x st;generalize bd:f x st=r at uG ⊢;refine K.cut (fun a6 w'=>a6 0 = .pointer (some ⟨b,0,none⟩)∧a6 9 = .int .i64 n∧a6 10 = .int .i64 r.1∧a6 11 = .int .i64 r.2∧Ext w w') ?_ ?_
 ·refine aH ?_;intro bf aw;obtain⟨es,q,nt,pO,y3⟩:=(a1.ext (fl.trans aw)).look x.op;refine aH ?_;refine K.lD nt pO ?_;cases j7:o.fX x.op with
  | none =>
   simp only[j7] at y3 uG;subst y3;simp only[k4,Option.map_none,Option.getD_none,Option.isSome_none,if_true];refine aH ?_;refine K.new fun bq cO fo aR bI=>?_;refine⟨aR,?_⟩;refine aH ?_;refine K.k6 (cs:=#[.int .i64 0,.int .i64 0,.int .i64 0,.nilFunc]) bI rfl rfl (by simp[Value.oneCell']) fun bS fx cC=>?_;have bj:Ext bf bS:=fx.ext aR fo;clear bI fx aR;refine aH ?_;refine K.gm (c:=[_,_]) (aC.obj aq) (fj) rfl ?_;refine aH ?_;refine Jf (by omega) (by omega) j7 _ _ _ ((fl.trans aw).trans bj) fun bX bk=>?_;refine aH ?_;rw[uG];exact⟨trivial,trivial,rfl,rfl,((fl.trans aw).trans bj).trans bk⟩
  | some au =>
   simp only[j7] at y3 uG;obtain⟨i,e1,rfl,u,rfl,br⟩:=y3;obtain⟨b9,ch⟩:=Td j7;have on:=(o.CV j7).1;simp only[k4,Option.map_some,Option.getD_some,Option.isSome_some,if_true];refine aH ?_;refine K.new fun bq cO fo aR bI=>?_;refine⟨aR,?_⟩;refine aH ?_;refine K.k6 (cs:=#[.int .i64 au.parts,.int .i64 au.il,.int .i64 au.makes,u]) bI rfl rfl (by rcases br with ⟨f,rfl,_⟩ | ⟨c,f,p,rfl,_⟩<;>simp[Value.oneCell']) fun bS fx cC=>?_;have bj:Ext bf bS:=fx.ext aR fo;clear bI fx aR;have IY:=(fl.trans aw).trans bj;have ahX:Ai bf au (.agg #[.int .i64 au.parts,.int .i64 au.il,.int .i64 au.makes,u]):=⟨u,rfl,br⟩;obtain⟨p,rfl⟩:=Int.eq_ofNat_of_zero_le (show 0≤n by omega);have aO:au.parts.toNat=p:=by omega
   refine aH ?_;refine K.gm (c:=[_,_,_,_]) cC (Ext.refl _) rfl ?_;refine aH ?_;refine K.afD (st.length - p) (by simp -dsimp only[cJ,cw,Nat.reduceAdd,Nat.reduceEqDiff,reduceIte,reduceCtorEq,cU];rw[Int.ofNat_sub (by omega)]) ⟨by omega,by omega⟩ ?_;have aL:=ad.tail (st.length - p) (by omega);rw[aO] at uG;refine aH ?_;refine K.aeo _ (fun w' e=>JE au _ _ w' _ _ (IY.trans e) j7 ⟨u,rfl,br.ext (bj.trans e)⟩ (by omega) (by rw[aO];exact aL.ext Flat.ext (IY.trans e)) fun bZ ba=>⟨rfl,ba⟩) ?_;refine aH ?_;intro bX bk;refine aH ?_;rw[uG,aO];exact⟨trivial,trivial,rfl,rfl,IY.trans bk⟩
 ·clear aq aA aC fl;rintro S bf ck ⟨iG,Dh,Dg,zF,aw⟩;simp -dsimp only[cw];refine cY (And.intro iG (And.intro Dh (And.intro Dg zF))) ?_;apply K.cond<;>intro g3;rotate_left
  ·refine cY zF ?_;rw[if_pos g3];exact⟨rfl,aw.mod,fun h=>absurd h g3⟩
  obtain⟨p,rfl⟩:=Int.eq_ofNat_of_zero_le (show 0≤n by omega);have oY:¬r.2≠0:=by simpa using g3
  rw[if_neg oY];have gB:(st.take (st.length - p)++[r.1]).length=st.length - p+1:=by simp[List.length_take]
  have h8:=hm.ext aw;have eY:la base bf (.slice bl st.length cap) st:=fI.ext aw;refine oM ?_;simp -dsimp only[cw];refine cY (And.intro iG (And.intro Dh (And.intro Dg zF))) ?_;intro bq aR;have ey:la base bq (.slice bl st.length cap) st:=eY.ext aR;refine cY (And.intro iG (And.intro Dh (And.intro Dg zF))) ?_;refine K.rY (st.length - p) (by simp -dsimp only[cJ,cw,Nat.reduceAdd,Nat.reduceEqDiff,reduceIte,reduceCtorEq,cU];rw[Int.ofNat_sub (by omega)]) (by omega) ?_;refine cY (And.intro iG (And.intro Dh (And.intro Dg zF))) ?_;refine K.kt (cs:=[r.1].flatMap encI) (by simp[List.range,List.range.loop,ew,lay,fv,cd,Value.cells,encI]) fun bS dH mB bj cC=>?_;refine⟨bj,?_⟩;refine aH ?_;have ea:la base bS (.slice bl (st.length - p) cap) (st.take (st.length - p)):=bs.head (enc:=encI) (sz:=1) (xs:=st) (fun _=>rfl) (bs.ext bj ey) (st.length - p) (Nat.sub_le _ _);have cq:(st.take (st.length - p)).length=st.length - p:=by simp[List.length_take]
  have C2:((st.take (st.length - p)).length+[r.1].length)*8≤140737488355328:=by rw[cq];simp only[List.length_cons,List.length_nil];omega
  have aeh:(st.take (st.length - p)).length+[r.1].length≤maxLen:=by rw[cq];simp only[List.length_cons,List.length_nil,maxLen];omega
  have dO:∀y,∀u∈encI y,u.oneCell'=true:=fun y u h=>by simp[encI] at h;subst h;rfl
  refine K.ra (xs:=st.take (st.length - p)) (ys:=[r.1]) ea (fun _=>rfl) (gK cC) rfl dO C2 aeh (by have:=hm.le;have:=aw.size;have:=aR.size;have:=bj.size;omega) fun v6 bX dn jM=>?_;have Bj:bS.heap[b]? = some (.cells #[.slice bl st.length cap,m] T.ac):=bj.obj (aR.obj (aw.obj c7));have gM:bX.heap[b]? = some (.cells #[.slice bl st.length cap,m] T.ac):=by
   refine(jM.block b (cM Bj) fun e=>?_).trans Bj
   have:=(ea.lt b e.symm).1
   have:=hm.lt
   omega
  refine aH ?_;refine K.st1 gM (by simp) (by obtain⟨bl,cap,e,_⟩:=dn.form;rw[e];rfl) fun cn ek da=>?_;have sW:Mod (fun k=>k=b∨base≤k) w cn :=
   (((aw.trans aR).trans bj).mod.trans (Mod.grown jM fun k hk=>.inr (ea.lt k hk).1)).trans (ek.mod (.inl rfl))
  have kE:qa base b cn m (st.take (st.length - p)++[r.1]) :=
   ⟨⟨v6,da,dn.wr ek hm.lt⟩,hm.lt,Nat.le_trans hm.le sW.size⟩
  obtain⟨ve,ahd,rfl,dr,_⟩:=dn.form;rw[gB];have ah9:((st.take (st.length - p)++[r.1]).length:Int)=st.length - p+1:=by rw[gB];omega
  refine cY (And.intro iG (And.intro Dh (And.intro Dg zF))) ?_;apply K.cond<;>intro g4
  ·refine aH ?_;simp only[Int.toNat_natCast,gB];rw[if_pos (by omega)];exact⟨rfl,sW,fun h=>by cases h⟩
  ·refine aH ?_;simp only[Int.toNat_natCast,gB];rw[if_neg (by omega)];exact⟨rfl,sW,fun _=>kE⟩
end Go.Proofs.R
end