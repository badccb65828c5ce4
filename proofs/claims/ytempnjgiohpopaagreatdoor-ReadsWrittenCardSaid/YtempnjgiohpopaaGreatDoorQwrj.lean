/- Texts joined: LiteR CodeR ProcE ProcQ LibR ProcF ProcG ProcH ExprD ExprE. -/
import Derived.Test.YtempnjgiohpopaaGreatDoorQwrd
import Derived.Test.YtempnjgiohpopaaGreatDoorQwrg
import Derived.Test.YtempnjgiohpopaaGreatDoorQwrh
import Derived.Test.YtempnjgiohpopaaGreatDoorQwri
import Derived.RangeFuncLeaves
import Derived.RangeFuncWrites
set_option linter.all false
set_option maxRecDepth 100000
set_option maxHeartbeats 4000000
section
namespace bt
open Go Go.RowKit
inductive qU where
 | ta (g:Operand) (p:Nat) (a b:eS)
 | te (x:qU) (y:eS)
 | ly (x:eS) (y:qU)
 | aV (id:Nat) (x:qU)
def k4(P:Program)(n:Nat):Code→Option qU
 | .rangeFunc g c6 a b=>match c6.toList,comp P n a,comp P n b with
  | [p],some nZ,some hx=>if p<n then some (.ta g p nZ hx) else none
  | _,_,_=>none
 | .seq x y=>match comp P n x with
  | some uX=>(k4 P n y).map (.ly uX)
  | none=>match k4 P n x,comp P n y with
   | some rx,some w4=>some (.te rx w4)
   | _,_=>none
 | .block id x=>(k4 P n x).map (.aV id)
 | _=>none
structure xI where
 n:Nat
 res:List lK
 code:qU
def yf(P:Program)(f:FuncId):Option xI :=
 match P.funcs[f]? with
 | some fn=>match fn.body with
  | some c=>match k4 P fn.ntmps c,ub P fn.results.toList with
   | some lc,some r=>some ⟨fn.ntmps,r,lc⟩
   | _,_=>none
  | none=>none
 | none=>none
structure DT(iw:World→World→Prop)(B:Nat):Prop where
 trans:∀{a b c:World},iw a b→iw b c→iw a c
 put:∀(W:World) (l:Nat) (aq o':Obj),B≤l→W.heap[l]? = some aq→aq.isCells=false→iw W (W.putObj l o')
def rX(hM:Nat)(cO:List TypeId)(W ct:World):Prop:=Below hM W ct∧∀(k:Nat) (c:Array Value) (t:TypeId) (f:Nat×Nat),W.heap[k]? = some (.cells c t f)→t∈cO→ct.heap[k]? = W.heap[k]?
theorem rX.ok{hM B:Nat}(cO:List TypeId)(h:hM≤B):DT (rX hM cO) B where
 trans h k:=⟨h.1.trans k.1,fun i c t f ad aK=>by rw[←h.2 i c t f ad aK];exact k.2 i c t f ((h.2 i c t f ad aK).trans ad) aK⟩
 put W l aq o' aQ a8 av:=⟨(Below.refl hM W).grown (grownBy_putObj' W l o') (by have:=(Array.getElem?_eq_some_iff.1 a8).1;omega) (fun k e=>by cases e;omega),fun k c t f hk _=>by
  have dc:l≠k:=fun e=>by subst e;rw[a8] at hk;injection hk with hk;subst hk;cases av
  exact World.putObj_heap_other (Ne.symm dc)⟩
theorem Ext.gZ{hM:Nat}{cO:List TypeId}{W ct:World}(h:Ext W ct)(aN:hM≤W.heap.size):rX hM cO W ct:=⟨Below.mono h aN,fun k c t f hk _=>h.heap (cL hk)⟩
def aeS{α:Type}(iw:World→World→Prop)(B:Nat)(eA:List α→World→Prop)(oj:dM→List α→World→Prop)(xs:List α)(W:World):dM→Fr→World→Prop
 | .normal,_,ct=>KeepsFrom B W ct∧iw W ct∧eA xs ct
 | .fC _,_,_=>False
 | e,_,ct=>KeepsFrom B W ct∧oj e xs ct
def vv(B:Nat)(W ct:World):Prop := ∃l,B≤l∧(∃aq,W.heap[l]? = some aq∧aq.isCells=false)∧W.grownBy ct (some l)
def Vo(P:Program)(g:Value)(p:Nat)(a b:eS)(Q:Nat→dM→Fr→World→Prop)(S:Fr)(w:World):Prop :=
 ∃(α:Type) (enc:α→Value) (kI:Nat) (hx:Array Value) (iw:World→World→Prop) (ou p0:List α→Prop) (N:Nat) (w0:World),g = .func (.func kI) #[] hx∧okF P kI=true∧SeqStopsK Fence.wide 0 P kI hx (fun x=>#[enc x]) iw ou p0 N w0∧Ext w0 w∧DT iw w.heap.size ∧
 ∃(eA:List α→World→Prop) (oj:dM→List α→World→Prop),OwnFrom w.heap.size eA∧(∀e,OwnFrom w.heap.size (oj e))∧eA [] w ∧
  (∀pre x W,eA pre W→pre.length<N→dL P a (tk (fun Aj jh=>KeepsFrom w.heap.size W jh∧iw W jh∧∀fp,vv w.heap.size jh fp→dL P b (aeS iw w.heap.size eA oj (pre++[x]) fp) Aj fp) (fun _ _ _=>False)) (b5 S p (enc x)) W) ∧
  (∀D xs W,w.heap.size≤D→ou xs→eA xs W→W.heap[D]? = some (.deferred (some []))→Q D .normal S W) ∧
  (∀D e pre W,e≠.normal→w.heap.size≤D→p0 pre→oj e pre W→W.heap[D]? = some (.deferred (some []))→Q D e S W)
theorem aeT{α:Type}{enc:α→Value}{P:Program}{g:Operand}{p:Nat}{vA body:Code}{Q:Exit→Act→World→Prop}{a:Act}{w w0:World}{kI:Nat}{hx:Array Value}{iw:World→World→Prop}{N:Nat}{ou p0:List α→Prop}
  (a6:a.eval g = .func (.func kI) #[] hx)(dd:okF P kI=true)(sJ:SeqStopsK Fence.wide 0 P kI hx (fun x=>#[enc x]) iw ou p0 N w0)(he:Ext w0 w)(sk:DT iw w.heap.size)
  (eA:List α→World→Prop)(oj:Code→List α→World→Prop)(bM:OwnFrom w.heap.size eA)(uk:∀c,OwnFrom w.heap.size (oj c))(aj:eA [] w)
  (Jl:∀l pre x W,eA pre W→pre.length<N→vA.wpIn (mI (some l)) 1 P (Exit.then (fun dy jh=>KeepsFrom w.heap.size W jh∧iw W jh ∧
   ∀fp,vv w.heap.size jh fp→body.wpIn (mI (some l)) 1 P (ownPostG w.heap.size iw eA oj (pre++[x]) fp) dy fp) (fun _ _ _=>False)) { tmps:=a.tmps.setIfInBounds p (enc x),defers:=[] } W)
  (Bj:∀D xs W,w.heap.size≤D→ou xs→eA xs W→W.heap[D]? = some (.deferred (some []))→Q .normal { a with defers:={ target:=.collected D,args:=#[] } :: a.defers } W)
  (Fu:∀D c pre W,w.heap.size≤D→p0 pre→oj c pre W→W.heap[D]? = some (.deferred (some []))→c.wpIn Fence.wide 3 P Q { a with defers:={ target:=.collected D,args:=#[] } :: a.defers } W) :
  (Code.rangeFunc g #[p] vA body).wpIn Fence.wide 3 P Q a w:=by
 refine wpIn_rangeFunc fun fn qm=>?_;obtain⟨l4,rm⟩:∃l4:LoopState→Option Code→Loop,l4=fun st Ke=>{ state:=st,pending:=Ke,fn,tmps:=a.tmps,params:=#[p],assign:=vA,body,defers:=w.heap.size }:=⟨_,rfl⟩;obtain⟨w1,nW⟩:∃w1,(w.alloc (.deferred (some []))).alloc (.loop (l4 .ready none))=w1:=⟨_,rfl⟩;have RK:w1.heap.size=w.heap.size+2:=by rw[←nW];simp
 have na:w1.heap[w.heap.size+1]? = some (.loop (l4 .ready none)):=by
  rw[←nW]
  have:=World.alloc_heap_new (w.alloc (.deferred (some []))) (.loop (l4 .ready none))
  rwa[World.size_alloc] at this
 have wj:w1.heap[w.heap.size]? = some (.deferred (some [])):=by rw[←nW];exact(Below.heap_alloc _ _ _ (by simp)).trans (World.alloc_heap_new w _)
 have Fh:eA [] w1:=by rw[←nW];exact bM.alloc _ (bM.alloc _ aj)
 have cK:Below w0.heap.size w0 w1:=by rw[←nW];exact(he.alloc _).alloc _
 have low:∀{A B:World} {row:Option Nat},(∀r,row=some r→w1.heap.size≤r∧∃aq:Obj,A.heap[r]? = some aq∧aq.isWalk=true)→(∀r,row=some r→w.heap.size≤r∧∃aq:Obj,A.heap[r]? = some aq∧aq.isCells=false) :=
  fun bk r e=>by obtain⟨U,aq,a8,hw⟩:=bk r e;exact⟨by omega,aq,a8,Obj.not_cells_of_walk hw⟩
 refine⟨w.heap.size+1,[{ target:=.collected w.heap.size,args:=#[] }],w1,{ target:=.fn (.func kI) hx,args:=#[.func (.yield (w.heap.size+1)) #[] #[]] },w1,kI,
  #[.func (.yield (w.heap.size+1)) #[] #[]]++hx,w1,?_,?_,fun _ _=>trivial,?_,fun _=>by decide,?_⟩
 ·rw[←nW,rm];exact run_enterLoop_outer _ _ _ _ _
 ·simp only[resolve,a6];simp[go_sem]
 ·simp[invoke,go_sem,C8 dd]
 refine CallsIn.mono (Hq (r:=none) (callsIn_wide.1 (sJ (w.heap.size+1)
  (fun pre W=>eA pre W∧W.heap[w.heap.size+1]? = some (.loop (l4 .ready none))∧W.heap[w.heap.size]? = some (.deferred (some [])))
  (fun pre W => ∃c,oj c pre W∧W.heap[w.heap.size+1]? = some (.loop (l4 .done (some c)))∧W.heap[w.heap.size]? = some (.deferred (some [])))
  w1 cK ?_ ?_ ?_ ⟨Fh,na,wj⟩))) ?_
 ·exact fun s A B row ay wo bk=>⟨bM s A B row ay.1 wo (low (B:=B) bk),(grownBy_keeps wo (fun r e=>(bk r e).2) ay.2.1 rfl).trans ay.2.1,(grownBy_keeps wo (fun r e=>(bk r e).2) ay.2.2 rfl).trans ay.2.2⟩
 ·intro s A B row ay wo bk;obtain⟨c,av,U,ai⟩:=ay;exact⟨c,uk c s A B row av wo (low (B:=B) bk),(grownBy_keeps wo (fun r e=>(bk r e).2) U rfl).trans U,(grownBy_keeps wo (fun r e=>(bk r e).2) ai rfl).trans ai⟩
 ·rintro pre x W ⟨ad,U,ai⟩ hlen;have cB:=run_yield (P:=P) (args:=#[enc x]) U (by rw[rm];rfl);rw[rm] at cB;refine⟨fn,_,vA,body,cB,TK (r:=none) (m:=0 - 1) ?_⟩;refine(roundIn_of_wpIn (F:=Fence.wide) (n:=1) (l:=w.heap.size+1) qm ?_) |> fun h=>⟨trivial,fun c cs _=>h.2 c cs (room_wide _)⟩
  have bU:(#[p]:Array Tmp).zip #[enc x]=#[(p,enc x)]:=by apply Array.ext';simp[Array.toList_zip]
  have Zh:=Jl (w.heap.size+1) pre x W ad hlen;simp only[bU];refine wpIn_mono Zh fun e dy jh h=>?_;cases e with
  | normal =>
   obtain⟨eO,gA,kS⟩:=h;have fl:=eO.same _ _ (by omega) U rfl;have d1:=eO.same _ _ (Nat.le_refl _) ai rfl;refine⟨_,run_beginRound fl (by rw[rm]),?_⟩;have ck:=(Array.getElem?_eq_some_iff.1 fl).1;have fD:(jh.putObj (w.heap.size+1) (.loop { l4 .ready none with state:=.busy })).heap[w.heap.size+1]? = some (.loop { l4 .ready none with state:=.busy }):=World.putObj_heap_same ck;have d2:(jh.putObj (w.heap.size+1) (.loop { l4 .ready none with state:=.busy })).heap[w.heap.size]? = some (.deferred (some [])):=(World.putObj_heap_other (by omega)).trans d1;have b4:iw jh (jh.putObj (w.heap.size+1) (.loop { l4 .ready none with state:=.busy })):=sk.put _ _ _ _ (by omega) fl rfl;refine wpIn_mono (kS _ ⟨_,by omega,⟨_,fl,rfl⟩,grownBy_putObj' _ _ _⟩) fun e a3 mh aO=>?_;have fin:∀(jump:Option Code),KeepsFrom w.heap.size (jh.putObj (w.heap.size+1) (.loop { l4 .ready none with state:=.busy })) mh →
     (Instr.endRound (w.heap.size+1) jump).run P mh = .ok (.bool jump.isNone) (mh.putObj (w.heap.size+1) (.loop (l4 (if jump.isNone then .ready else .done) jump))) ∧
     mh.heap[w.heap.size+1]? = some (.loop { l4 .ready none with state:=.busy }) ∧
     (mh.putObj (w.heap.size+1) (.loop (l4 (if jump.isNone then .ready else .done) jump))).heap[w.heap.size+1]? = some (.loop (l4 (if jump.isNone then .ready else .done) jump)) ∧
     (mh.putObj (w.heap.size+1) (.loop (l4 (if jump.isNone then .ready else .done) jump))).heap[w.heap.size]? = some (.deferred (some [])):=fun jump mz=>by
    have hc:=mz.same _ _ (by omega) fD rfl
    have:=run_endRound (P:=P) jump hc
    rw[rm] at this ⊢;exact⟨this,by rw[rm] at hc;exact hc,World.putObj_heap_same (Array.getElem?_eq_some_iff.1 hc).1,(World.putObj_heap_other (by omega)).trans (mz.same _ _ (Nat.le_refl _) d2 rfl)⟩
   cases e with
   | normal =>
    obtain⟨eb,dY,eg⟩:=aO;obtain⟨f1,f2,f3,f4⟩:=fin none eb;exact⟨_,_,f1,.inl ⟨rfl,⟨bM.putObj _ eg (by omega) f2 rfl,f3,f4⟩,sk.trans (sk.trans (sk.trans gA b4) dY) (sk.put _ _ _ _ (by omega) f2 rfl)⟩⟩
   | ret =>
    obtain⟨eb,eg⟩:=aO;obtain⟨f1,f2,f3,f4⟩:=fin (some .ret) eb;exact⟨_,_,f1,.inr ⟨rfl,.ret,(uk _).putObj _ eg (by omega) f2 rfl,f3,f4⟩⟩
   | exit id =>
    obtain⟨eb,eg⟩:=aO;obtain⟨f1,f2,f3,f4⟩:=fin (some (.exit id)) eb;exact⟨_,_,f1,.inr ⟨rfl,.exit id,(uk _).putObj _ eg (by omega) f2 rfl,f3,f4⟩⟩
   | goto t =>
    obtain⟨eb,eg⟩:=aO;obtain⟨f1,f2,f3,f4⟩:=fin (some (.goto t)) eb;exact⟨_,_,f1,.inr ⟨rfl,.goto t,(uk _).putObj _ eg (by omega) f2 rfl,f3,f4⟩⟩
   | _=>exact aO.elim
  | _=>exact h.elim
 ·rintro e fp ⟨⟨v,rfl⟩,(⟨xs,ch,ad,U,ai⟩ | ⟨pre,Zf,c,ad,U,ai⟩)⟩
  ·exact⟨none,_,by have:=run_endLoop (P:=P) U (by rw[rm];simp);rw[rm] at this;exact this,Bj _ xs _ (Nat.le_refl _) ch (bM.putObj _ ad (by omega) U rfl) ((World.putObj_heap_other (by omega)).trans ai)⟩
  ·exact⟨some c,_,by have:=run_endLoop (P:=P) U (by rw[rm];simp);rw[rm] at this;exact this,Fu _ c pre _ (Nat.le_refl _) Zf ((uk c).putObj _ ad (by omega) U rfl) ((World.putObj_heap_other (by omega)).trans ai)⟩
def o4(P:Program):qU→(Option Nat→dM→Fr→World→Prop)→Fr→World→Prop
 | .ta g p a b,Q,S,w=>Vo P (a7 S g) p a b (fun D=>Q (some D)) S w
 | .te x y,Q,S,w=>o4 P x (fun aq=>tk (fun S w=>dL P y (Q aq) S w) (Q aq)) S w
 | .ly x y,Q,S,w=>dL P x (tk (fun S w=>o4 P y Q S w) (Q none)) S w
 | .aV id x,Q,S,w=>o4 P x (fun aq=>x1 id (Q aq)) S w
def marks:Option Nat→List Deferred
 | none=>[]
 | some D=>[{ target:=.collected D,args:=#[] }]
def SB(n:Nat)(Q:Option Nat→dM→Fr→World→Prop):Exit→Act→World→Prop
 | .normal,a,w => ∃aq S,Fits (marks aq) a S n∧Q aq .normal S w
 | .exit i,a,w => ∃aq S,Fits (marks aq) a S n∧Q aq (.exit i) S w
 | .ret,a,w => ∃aq S,Fits (marks aq) a S n∧Q aq .ret S w
 | .panic c,a,w => ∃aq S,Fits (marks aq) a S n∧Q aq (.fC c) S w
 | _,_,_=>False
theorem acv{n:Nat}{Q:Option Nat→dM→Fr→World→Prop}{aq:Option Nat}{e:Exit}{a:Act}{w:World}(h:FP (marks aq) n (Q aq) e a w):SB n Q e a w:=by
 cases e with
 | normal=>obtain⟨S,h1,U⟩:=h;exact⟨aq,S,h1,U⟩
 | exit i=>obtain⟨S,h1,U⟩:=h;exact⟨aq,S,h1,U⟩
 | ret=>obtain⟨S,h1,U⟩:=h;exact⟨aq,S,h1,U⟩
 | panic c=>obtain⟨S,h1,U⟩:=h;exact⟨aq,S,h1,U⟩
 | _=>exact h.elim
theorem Gd{P:Program}(hm:P.follows .mixedOrders=true){n:Nat}:∀(c:Code) (rc:qU),k4 P n c=some rc→∀(Q:Option Nat→dM→Fr→World→Prop) (a:Act) (S:Fr) (w:World),Fits [] a S n→o4 P rc Q S w→c.wpIn Fence.wide 3 P (SB n Q) a w
 | .rangeFunc g c6 vA b,rc,h,Q,a,S,w,aJ,aU=>by
  simp only[k4] at h;split at h
  ·rename_i p nZ hx uI br aD;split at h
   ·rename_i aO;injection h with h;subst h
    obtain⟨α,enc,kI,aiT,iw,ou,p0,N,w0,a6,dd,sJ,he,sk,eA,oj,bM,uk,aj,Zl,Bj,Fu⟩:=aU;have aaO:c6=#[p]:=by rw[←Array.toArray_toList (xs:=c6),uI]
    subst aaO;refine aeT (by rw[aJ.eval];exact a6) dd sJ he sk eA (fun c=>match c with | .ret=>oj .ret | .exit id=>oj (.exit id) | _=>fun _ _=>False) bM ?_ aj ?_ ?_ ?_
    ·intro c;split
     ·exact uk _
     ·exact uk _
     ·exact fun s W ct row h _ _=>h.elim
    ·intro l pre x W ad aQ;have uz:Fits [] ({ tmps:=a.tmps.setIfInBounds p (enc x),defers:=[] }:Act) (b5 S p (enc x)) n:=by
      refine⟨rfl,by simp[aJ.2.1],fun t=>?_⟩
      have:=aJ.2.2 t
      simp only[b5];by_cases aK:t=p
      ·subst aK;simp[aJ.2.1,aO]
      ·have U:(a.tmps.setIfInBounds p (enc x))[t]? = a.tmps[t]? := Array.getElem?_setIfInBounds_ne (Ne.symm aK);rw[if_neg aK,←this];simp[Array.getD_eq_getD_getElem?,U]
     refine wpIn_mono (sound (ds:=[]) (r:=some l) hm vA nZ br _ _ _ W uz (Zl pre x W ad aQ)) fun e dq ct aF=>?_;cases e with
     | normal =>
      obtain⟨a1,dR,h1,U,ai⟩:=aF;refine⟨h1,U,fun fp aL=>?_⟩;refine wpIn_mono (sound (ds:=[]) (r:=some l) hm b hx aD _ _ _ fp dR (ai fp aL)) fun e a2 mh aF=>?_;cases e with
      | normal=>obtain⟨a1,_,h1,U,ai⟩:=aF;exact⟨h1,U,ai⟩
      | ret=>obtain⟨a1,_,h1,U⟩:=aF;exact⟨h1,U⟩
      | exit id=>obtain⟨a1,_,h1,U⟩:=aF;exact⟨h1,U⟩
      | panic c=>obtain⟨a1,_,h1⟩:=aF;exact h1.elim
      | _=>exact aF.elim
     | ret=>obtain⟨a1,_,h1⟩:=aF;exact h1.elim
     | exit id=>obtain⟨a1,_,h1⟩:=aF;exact h1.elim
     | panic c=>obtain⟨a1,_,h1⟩:=aF;exact h1.elim
     | _=>exact aF.elim
    ·intro D xs W nE ch ad bs;exact⟨some D,S,⟨by rw[aJ.1];rfl,aJ.2⟩,Bj D xs W nE ch ad bs⟩
    ·intro D c pre W nE ch ad bs;have QQ:Fits (marks (some D)) { a with defers:={ target:=.collected D,args:=#[] } :: a.defers } S n:=⟨by rw[aJ.1];rfl,aJ.2⟩;split at ad
     ·exact wpIn_ret ⟨some D,S,QQ,Fu D .ret pre W (by simp) nE ch ad bs⟩
     ·exact wpIn_exit ⟨some D,S,QQ,Fu D (.exit _) pre W (by simp) nE ch ad bs⟩
     ·exact ad.elim
   ·cases h
  ·cases h
 | .seq x y,rc,h,Q,a,S,w,aJ,aU=>by
  simp only[k4] at h;split at h
  ·rename_i uX aw;obtain⟨T1,cB,rfl⟩:=Option.map_eq_some_iff.1 h;refine wpIn_seq (wpIn_mono (sound (ds:=[]) (r:=none) (m:=3) hm x uX aw _ a S w aJ aU) fun e dq w' aF=>?_);cases e with
   | normal=>obtain⟨a1,dR,aF⟩:=aF;exact Gd hm y T1 cB Q dq a1 w' dR aF
   | exit i=>obtain⟨a1,dR,aF⟩:=aF;exact⟨none,a1,dR,aF⟩
   | ret=>obtain⟨a1,dR,aF⟩:=aF;exact⟨none,a1,dR,aF⟩
   | panic c=>obtain⟨a1,dR,aF⟩:=aF;exact⟨none,a1,dR,aF⟩
   | _=>exact aF.elim
  ·split at h
   ·rename_i rx w4 aw cB;injection h with h;subst h
    refine wpIn_seq (wpIn_mono (Gd hm x rx aw _ a S w aJ aU) fun e dq w' aF=>?_);cases e with
    | normal =>
     obtain⟨aq,a1,dR,aF⟩:=aF;exact wpIn_mono (sound (ds:=marks aq) (r:=none) (m:=3) hm y w4 cB (Q aq) dq a1 w' dR aF) fun e Om bY h=>acv h
    | exit i=>obtain⟨aq,a1,dR,aF⟩:=aF;exact⟨aq,a1,dR,aF⟩
    | ret=>obtain⟨aq,a1,dR,aF⟩:=aF;exact⟨aq,a1,dR,aF⟩
    | panic c=>obtain⟨aq,a1,dR,aF⟩:=aF;exact⟨aq,a1,dR,aF⟩
    | _=>exact aF.elim
   ·cases h
 | .block id b,rc,h,Q,a,S,w,aJ,aU=>by
  simp only[k4] at h;obtain⟨Kr,aD,rfl⟩:=Option.map_eq_some_iff.1 h;refine wpIn_block (wpIn_mono (Gd hm b Kr aD _ a S w aJ aU) fun e dq w' aF=>?_);cases e with
  | normal=>obtain⟨aq,a1,dR,aF⟩:=aF;exact⟨aq,a1,dR,aF⟩
  | ret=>obtain⟨aq,a1,dR,aF⟩:=aF;exact⟨aq,a1,dR,aF⟩
  | panic c=>obtain⟨aq,a1,dR,aF⟩:=aF;exact⟨aq,a1,dR,aF⟩
  | exit i =>
   obtain⟨aq,a1,dR,aF⟩:=aF;simp only[x1] at aF;simp only[Exit.inBlock];split at aF
   ·rename_i ad;rw[if_pos ad];exact⟨aq,a1,dR,aF⟩
   ·rename_i ad;rw[if_neg ad];exact⟨aq,a1,dR,aF⟩
  | _=>exact aF.elim
 | .skip,rc,h,_,_,_,_,_,_=>by simp[k4] at h
 | .region _ _ _,rc,h,_,_,_,_,_,_=>by simp[k4] at h
 | .cond _ _ _,rc,h,_,_,_,_,_,_=>by simp[k4] at h
 | .loop _,rc,h,_,_,_,_,_,_=>by simp[k4] at h
 | .exit _,rc,h,_,_,_,_,_,_=>by simp[k4] at h
 | .ret,rc,h,_,_,_,_,_,_=>by simp[k4] at h
 | .scope _,rc,h,_,_,_,_,_,_=>by simp[k4] at h
 | .label _,rc,h,_,_,_,_,_,_=>by simp[k4] at h
 | .goto _,rc,h,_,_,_,_,_,_=>by simp[k4] at h
 | .refuse _,rc,h,_,_,_,_,_,_=>by simp[k4] at h
def EF(res:List lK)(R:Value→World→Prop):Option Nat→dM→Fr→World→Prop
 | none,e,S,w=>AT res R e S w
 | some D,.normal,S,w=>w.heap[D]? = some (.deferred (some []))∧ni res S (e1 w D (.deferred none)) fun vs=>R (fS vs) (e1 w D (.deferred none))
 | some D,.ret,S,w=>w.heap[D]? = some (.deferred (some []))∧ni res S (e1 w D (.deferred none)) fun vs=>R (fS vs) (e1 w D (.deferred none))
 | some _,.exit _,_,_=>False
 | some _,.fC _,_,_=>False
theorem ae6{P:Program}{D:Nat}{w:World}(h:w.heap[D]? = some (.deferred (some []))):(Instr.takeDeferred D).run P w = .ok [] (e1 w D (.deferred none)):=by
 simp[Instr.takeDeferred,Sem.run_bind,getObj,setObj,Sem.run,h,Result.andThen,e1]
theorem XT{P:Program}{f:FuncId}{L:xI}(hm:P.follows .mixedOrders=true)(av:yf P f=some L){args:List Value}{w:World}{R:Value→World→Prop}(br:args.length≤L.n)
  (h:o4 P L.code (EF L.res R) (gU args 0) w):bq P f args.toArray w R:=by
 unfold yf at av;split at av
 ·rename_i fn qm;split at av
  ·rename_i c aD;split at av
   ·rename_i lc r h1 U;injection av with av;subst av
    refine(callsIn_wide (n:=3)).1 (callsIn_of_wp_marks (F:=Fence.wide) qm aD trivial (wpIn_mono (Gd hm c lc h1 _ _ (gU args 0) w ?_ h) ?_))
    ·refine⟨rfl,?_,fun t=>?_⟩
     ·have:=br;simp only at this;simp;omega
     ·rw[EP];simp only[Nat.zero_le,if_true,Nat.sub_zero];by_cases aK:t<args.length
      ·simp[Array.getD_eq_getD_getElem?,Array.getElem?_append,aK]
      ·simp only[Array.getD_eq_getD_getElem?,Array.getElem?_append,List.size_toArray,if_neg aK,List.getElem?_eq_none (Nat.le_of_not_lt aK),Option.getD_none];rw[Array.getElem?_replicate];split<;>rfl
    ·have fin:∀(aq:Option Nat) (S:Fr) (dq:Act) (w':World),Fits (marks aq) dq S fn.ntmps→(EF r R aq .normal S w')→LeavesInM Fence.wide 3 P fn dq.tmps (fun e w' => ∃v,e = .returned v∧R v w') dq.defers .returning w':=by
      intro aq S dq w' aJ aF;rw[aJ.1];cases aq with
      | none =>
       obtain⟨vs,ai,aL⟩:=pN aJ _ _ _ U aF;exact⟨_,s9 ai,_,rfl,aL⟩
      | some D =>
       obtain⟨bs,aF⟩:=aF;obtain⟨vs,ai,aL⟩:=pN aJ _ _ _ U aF;exact⟨by simp,.inl ⟨D,_,rfl,ae6 bs,⟨_,s9 ai,_,rfl,aL⟩⟩⟩
     intro e dq w' aF;cases e with
     | normal=>obtain⟨aq,S,aJ,aF⟩:=aF;exact fin aq S dq w' aJ aF
     | ret =>
      obtain⟨aq,S,aJ,aF⟩:=aF;refine fin aq S dq w' aJ ?_;cases aq<;>exact aF
     | exit i=>obtain⟨aq,S,aJ,aF⟩:=aF;cases aq<;>exact aF.elim
     | panic c=>obtain⟨aq,S,aJ,aF⟩:=aF;cases aq<;>exact aF.elim
     | _=>exact aF.elim
   ·cases av
  ·cases av
 ·cases av
end bt
namespace bt
open Go Go.RowKit
section
variable{P:Program}{S:Fr}{w:World}
theorem jL.start{f:FuncId}{L:xI}(hm:P.follows .mixedOrders=true)(av:yf P f=some L){args:List Value}{w:World}{R:Value→World→Prop}(br:args.length≤L.n)(h:o4 P L.code (EF L.res R) (gU args 0) w):bq P f args.toArray w R:=XT hm av br h
theorem jL.ly{x:eS}{y:qU}{Q:Option Nat→dM→Fr→World→Prop}(h:dQ P x (hR (fun S w=>o4 P y Q S w) (Q none) ⟨⟩) S w ⟨⟩):o4 P (.ly x y) Q S w:=by unfold dQ hR at h;exact h
theorem jL.te{x:qU}{y:eS}{Q:Option Nat→dM→Fr→World→Prop}(h:o4 P x (fun aq=>hR (fun S w=>dQ P y (Q aq) S w ⟨⟩) (Q aq) ⟨⟩) S w):o4 P (.te x y) Q S w:=by unfold dQ hR at h;exact h
theorem jL.aV{id:Nat}{x:qU}{Q:Option Nat→dM→Fr→World→Prop}(h:o4 P x (fun aq=>oz id (Q aq) ⟨⟩) S w):o4 P (.aV id x) Q S w:=by unfold oz at h;exact h
theorem jL.ret{res:List lK}{R:Value→World→Prop}{D:Nat}(bs:w.heap[D]? = some (.deferred (some [])))(h:hB res S (e1 w D (.deferred none)) (fun vs=>R (fS vs) (e1 w D (.deferred none))) ⟨⟩):EF res R (some D) .ret S w:=by
 unfold hB at h;exact⟨bs,h⟩
theorem jL.ta{α:Type}{enc:α→Value}{g:Operand}{p:Nat}{a b:eS}{Q:Option Nat→dM→Fr→World→Prop}{kI:Nat}{hx:Array Value}{iw:World→World→Prop}{ou p0:List α→Prop}{N:Nat}{w0:World}
  (a6:a7 S g = .func (.func kI) #[] hx)(dd:okF P kI=true)(sJ:SeqStopsK Fence.wide 0 P kI hx (fun x=>#[enc x]) iw ou p0 N w0)(he:Ext w0 w)(sk:DT iw w.heap.size)
  (eA:List α→World→Prop)(bM:OwnFrom w.heap.size eA)(aj:eA [] w)
  (Jl:∀pre x W,eA pre W→pre.length<N→dQ P a (hR (fun Aj jh=>KeepsFrom w.heap.size W jh∧iw W jh∧∀fp,vv w.heap.size jh fp →
   dQ P b (hR (fun _ ct=>KeepsFrom w.heap.size fp ct∧iw fp ct∧eA (pre++[x]) ct) (fun _ _ _=>False) ⟨⟩) Aj fp ⟨⟩) (fun _ _ _=>False) ⟨⟩) (b5 S p (enc x)) W ⟨⟩)
  (Bj:∀D xs W,w.heap.size≤D→ou xs→eA xs W→W.heap[D]? = some (.deferred (some []))→Q (some D) .normal S W):o4 P (.ta g p a b) Q S w:=by
 refine⟨α,enc,kI,hx,iw,ou,p0,N,w0,a6,dd,sJ,he,sk,eA,fun _ _ _=>False,bM,fun _ _ _ _ _ h _ _=>h.elim,aj,fun pre x W ad aQ=>?_,Bj,fun D e pre W _ _ _ h _=>h.elim⟩;have h:=Jl pre x W ad aQ;unfold dQ hR at h;refine pP a _ _ _ W (fun e Aj jh _ h1=>?_) h;cases e with
 | normal =>
  obtain⟨eO,gA,kS⟩:=h1;refine⟨eO,gA,fun fp bk=>?_⟩;have U:=kS fp bk;refine pP b _ _ _ fp (fun e lN mh _ ai=>?_) U;cases e with
  | normal=>exact ai
  | exit _=>exact ai.elim
  | ret=>exact ai.elim
  | fC _=>exact ai.elim
 | exit _=>exact h1.elim
 | ret=>exact h1.elim
 | fC _=>exact h1.elim
theorem vv.cells{B:Nat}{W ct:World}(h:vv B W ct){k:Nat}{c:Array Value}{t:TypeId}{f:Nat×Nat}(hk:W.heap[k]? = some (.cells c t f)):ct.heap[k]? = some (.cells c t f):=by
 obtain⟨l,aQ,⟨aq,a8,av⟩,a6⟩:=h;rw[a6.block k (cL hk) fun e=>by injection e with e;subst e;rw[a8] at hk;injection hk with hk;subst hk;cases av];exact hk
theorem vv.mod{B:Nat}{W ct:World}(h:vv B W ct):∃l,B≤l∧(∀c t f,W.heap[l]? ≠ some (.cells c t f))∧Mod (fun k=>k=l) W ct:=by
 obtain⟨l,aQ,⟨aq,a8,av⟩,a6⟩:=h;exact⟨l,aQ,(fun c t f e=>by rw[a8] at e;injection e with e;subst e;cases av),Mod.grown a6 fun k e=>by injection e with e;exact e.symm⟩
theorem Ext.keeps{W ct:World}(h:Ext W ct)(B:Nat):KeepsFrom B W ct:=⟨h.size,fun k aq _ hk _=>h.obj hk⟩
theorem Mod.keeps{A:Nat→Prop}{B:Nat}{W ct:World}(h:Mod A W ct)(eC:∀k,B≤k→A k→∃c t f,W.heap[k]? = some (.cells c t f)):KeepsFrom B W ct :=
 ⟨h.size,fun k aq kj hk av=>h.obj (fun a=>by obtain⟨c,t,f,e⟩:=eC k kj a;rw[hk] at e;injection e with e;subst e;cases av) hk⟩
theorem Mod.gZ{A:Nat→Prop}{hM:Nat}{cO:List TypeId}{W ct:World}(h:Mod A W ct)(aN:hM≤W.heap.size)(aj:∀k,k<hM→¬A k)(eC:∀k c t f,A k→W.heap[k]? = some (.cells c t f)→t∉cO):rX hM cO W ct :=
 ⟨⟨h.os,h.tape,h.output,h.size,fun k hk=>h.block k (by omega) (aj k hk)⟩,fun k c t f hk aK=>h.block k (cL hk) fun a=>eC k c t f a hk aK⟩
theorem Mod.high{A:Nat→Prop}{w W ct:World}{row:Option Nat}(h:Mod A w W)(a6:W.grownBy ct row)(bk:∀r,row=some r→w.heap.size≤r):Mod A w ct :=
 h.comp (Mod.grown (A:=fun k=>row=some k) a6 fun k e=>e) (fun _ _ a=>a) fun i ad e=>by have:=bk i e;omega
def ec(aZ:Nat)(cR:List Nat)(cO:List TypeId)(W ct:World):Prop:=Mod (fun k=>k∈cR∨(aZ≤k∧∃c t f,t∈cO∧W.heap[k]? = some (.cells c t f))) W ct
theorem Ext.tZ{aZ:Nat}{cR:List Nat}{cO:List TypeId}{W ct:World}(h:Ext W ct):ec aZ cR cO W ct:=h.mod
theorem ec.trans{aZ:Nat}{cR:List Nat}{cO:List TypeId}{a b c:World}(h:ec aZ cR cO a b)(k:ec aZ cR cO b c):ec aZ cR cO a c :=
 ⟨k.os.trans h.os,k.tape.trans h.tape,k.output.trans h.output,Nat.le_trans h.size k.size,fun i ad aN=>by
  have e:=h.block i ad aN;refine(k.block i (Nat.lt_of_lt_of_le ad h.size) fun a=>aN ?_).trans e;rcases a with a | ⟨dy,c,t,f,a2,a3⟩
  ·exact .inl a
  ·exact .inr ⟨dy,c,t,f,a2,by rw[←e];exact a3⟩⟩
theorem dH.tZ{aZ b:Nat}{cR:List Nat}{cO:List TypeId}{W ct:World}(h:dH b W ct)(aD:b∈cR):ec aZ cR cO W ct:=(h.mod (A:=fun k=>k=b) rfl).GA fun k e=>.inl (e ▸ aD)
theorem ec.grown{α:Type}{enc:α→List Value}{sz aZ:Nat}{e:TypeId}{cR:List Nat}{cO:List TypeId}{W ct:World}{v:Value}{xs:List α}(a8:bp enc e sz aZ W v xs)(a6:W.grownBy ct v.ownBlock)(he:e∈cO):ec aZ cR cO W ct :=
 (Mod.grown (A:=fun k=>v.ownBlock=some k) a6 fun k e=>e).GA fun k hk=>by
  obtain⟨cur,h⟩:=a8.aV k hk;exact .inr ⟨(a8.lt k hk).1,_,_,_,he,h⟩
theorem ec.keeps{aZ B:Nat}{cR:List Nat}{cO:List TypeId}{W ct:World}(h:ec aZ cR cO W ct)(kj:∀b∈cR,b<B):KeepsFrom B W ct :=
 Mod.keeps h fun k hk a=>by
  rcases a with a | ⟨_,c,t,f,_,a⟩
  ·have:=kj k a;omega
  ·exact⟨c,t,f,a⟩
theorem ec.gZ{aZ hM:Nat}{cR:List Nat}{cO lA:List TypeId}{W ct:World}(h:ec aZ cR cO W ct)(aN:hM≤W.heap.size)(aj:hM≤aZ)(aD:∀b∈cR,hM≤b∧∀c t f,W.heap[b]? = some (.cells c t f)→t∉lA)(aK:∀t∈cO,t∉lA):rX hM lA W ct :=
 Mod.gZ h aN (fun k hk a=>by
  rcases a with a | ⟨a,_⟩
  ·have:=(aD k a).1;omega
  ·omega) fun k c t f a hk=>by
  rcases a with a | ⟨_,lR,hf,oD,dy,a2⟩
  ·exact(aD k a).2 c t f hk
  ·rw[hk] at a2;injection a2 with a2;injection a2 with _ a2;subst a2;exact aK _ dy
theorem ec.from{cR:List Nat}{cO:List TypeId}{w W ct:World}(h:Mod (fun k=>k∈cR) w W)(c:ec w.heap.size cR cO W ct):Mod (fun k=>k∈cR) w ct :=
 h.comp c (fun _ _ a=>a) fun k hk a=>by
  rcases a with a | ⟨a,_⟩
  ·exact a
  ·omega
theorem ec.obj{aZ:Nat}{cR:List Nat}{cO:List TypeId}{W ct:World}(h:ec aZ cR cO W ct){k:Nat}{c:Array Value}{t:TypeId}{f:Nat×Nat}(hk:W.heap[k]? = some (.cells c t f))(aD:k∉cR)(aK:t∉cO):ct.heap[k]? = some (.cells c t f):=by
 rw[Mod.block h k (cL hk) fun a=>?_]
 ·exact hk
 ·rcases a with a | ⟨_,lR,hf,oD,dy,a2⟩
  ·exact aD a
  ·rw[hk] at a2;injection a2 with a2;injection a2 with _ a2;subst a2;exact aK dy
end
end bt
end
section
namespace Go.Proofs.R
open Go bt Go.Proofs
def D.c2:xI:=⟨37,[.tmp 2], (.ly (.bC [aC 1 (.box T.b (ab 0)),ag 2 (.const aM)]) (.ly (.bC [aC 3 (.new T.qX aM)]) (.ly (.bC [aY 8 (.cA [ak,ak] [(0,1),(1,1)] [(0,(ah (-1)))]),aC 4 (.new T.a ak),aC 5 (.new T.l (.agg #[ak,ak])),hS (.st (ab 4) (ah (-1))),cc 2 5 8]) (.te (.ly (.bC [bl 9 5 1,aX 10 F.be [9]]) (.aV 0 (.ta (ab 10) 11 (.bC [aC 6 (.new T.l (.agg #[ak,ak])),cc 2 6 11]) (.aV 1 (.seq (J [bl 12 2 6,bl 13 2 5,bj .neq T.l 14 12 13] (aB 14 (.bC [ae 15 4,ax .add T.a 16 15 1,ys 4 16]) .skip)) (J [bl 17 2 6,cc 2 5 17] (J [af 18 3 1,ae 19 18,af 20 0 6,ae 21 20,bm 22 5 19 21,af 23 4 22,ae 24 23,bH 25 24,ag 26 (ah 0)] (.aV 2 (.loop (J [bj .lss T.a 27 26 25] (fm 27 2
 (.seq (.aV 3 (J [I 28 26,I 7 28] (.bC [ae 29 3,ae 30 4,I 31 7,aY 32 (.cA [ak,ak] [(0,1),(1,1)] [(0,(ab 30)),(1,(ab 31))]),aC 33 (.cQ T.p 1 2 [ak,ak] [(0,(ab 32))]),aC 34 (.app T.qX T.p 2 16 (ab 29) (ab 33)),ys 3 34]))) (fx T.a 35 26))))))))))))) (J [ae 36 3,I 2 36] .ret)))))⟩
theorem GQ.c2:yf Tryz.prog F.c2=some D.c2:=by kernel_rfl
def D.b8:xI:=⟨13,[.tmp 4], (.ly (.bC [aC 2 (.box T.pd (ab 0)),ag 4 (.const aM)]) (.te (.ly (.bC [I 6 1]) (.aV 0 (.ta (ab 6) 7 (.bC [aC 5 (.new T.l (.agg #[ak,ak])),cc 2 5 7]) (.aV 1 (.bC [ae 8 2,bl 9 2 5,aC 10 (.cQ T.l 1 2 [ak,ak] [(0,(ab 9))]),aC 11 (.app T.pd T.l 2 16 (ab 8) (ab 10)),ys 2 11]))))) (J [ae 12 2,I 4 12] .ret)))⟩
theorem GQ.b8:yf Tryz.prog F.b8=some D.b8:=by kernel_rfl
end Go.Proofs.R
end
section
namespace o
open Go Go.RowKit bt
theorem O0(x:cW):sa Ua x.enc:=⟨⟨_,rfl⟩,⟨_,rfl⟩,trivial⟩
theorem abB(x y:cW)(h:x.enc=y.enc):x=y:=by cases x;cases y;simpa[cW.enc] using h
abbrev tK(m:Model):={x:cW // x.of m}
end o
namespace bt
open Go Go.RowKit
theorem Ext.YR{w w':World}(h:Ext w w'):w.grownBy w' none:=⟨h.os,h.tape,h.output,h.size,fun k hk _=>h.heap hk⟩
end bt
namespace Go.Proofs.R
open Go Go.RowKit bt
theorem XO(cs:List Value)(m:o.Model)(p:o.dj)(cr dL:Value)(w:World)(h:o.ew w cs m) :
  bq Tryz.prog F.AL #[.agg cs.toArray,.agg (p.enc cr dL).toArray] w fun v w'=>v = .int .i64 (o.elems m p)∧Ext w w':=by
 obtain⟨cv,bN,b9,c1,cq,c2,cm,bK,cw,bQ,rfl,aj,h1,U,ai,aL,eG,dt,dB,dT,er⟩:=h.form;refine bI E.AL ?_;refine bF ?_;refine aa ?_;intro w1 bz cK az al;refine aa ?_;intro aR b4 dw aA aI;have cP:∀{w'},Ext aR w'→Ext w w':=fun e=>(az.trans aA).trans e;refine aa ?_;rw[o.elems];apply K.cond<;>intro g1
 ·refine aa ?_;rw[o.gK (.inl (by omega))];exact⟨bu,cP (Ext.refl _)⟩
 refine aa ?_;apply K.cond<;>intro g2
 ·refine aa ?_;rw[o.gK (.inr (by omega))];exact⟨bu,cP (Ext.refl _)⟩
 have ad:(p.over - 1).toNat<m.scalars.length:=by omega
 obtain⟨a,rfl⟩:=aj.addr (by omega);rw[o.h0 (by omega) (by omega)];refine aa ?_;refine K.dr (p.over - 1).toNat (by omega) ad ?_;refine aa ?_;apply K.cond<;>intro g3
 ·refine aa ?_;refine⟨?_,cP (Ext.refl _)⟩;rw[if_pos (by omega)];rfl
 refine aa ?_;apply K.cond<;>intro g4
 ·refine aa ?_;refine⟨?_,cP (Ext.refl _)⟩;rw[if_pos (by omega)];rfl
 refine aa ?_;refine⟨?_,cP (Ext.refl _)⟩;rw[if_neg (by omega)];congr 1;omega
theorem aey(cs:List Value)(m:o.Model)(p:o.dj)(cr dL:Value)(w:World)(h:o.ew w cs m) :
  bq Tryz.prog F.Cl #[.agg cs.toArray,.agg (p.enc cr dL).toArray] w fun v w'=>v = .int .i64 (o.elems m p)∧Ext w w':=by
 obtain⟨cv,bN,b9,c1,cq,c2,cm,bK,cw,bQ,rfl,aj,h1,U,ai,aL,eG,dt,dB,dT,er⟩:=h.form;refine bI E.Cl ?_;refine bF ?_;refine aa ?_;intro w1 bz cK az al;refine aa ?_;intro aR b4 dw aA aI;have cP:∀{w'},Ext aR w'→Ext w w':=fun e=>(az.trans aA).trans e;refine aa ?_;rw[o.elems];apply K.cond<;>intro g1
 ·refine aa ?_;rw[o.gK (.inl (by omega))];exact⟨bu,cP (Ext.refl _)⟩
 refine aa ?_;apply K.cond<;>intro g2
 ·refine aa ?_;rw[o.gK (.inr (by omega))];exact⟨bu,cP (Ext.refl _)⟩
 have ad:(p.over - 1).toNat<m.scalars.length:=by omega
 obtain⟨a,rfl⟩:=aj.addr (by omega);rw[o.h0 (by omega) (by omega)];refine aa ?_;refine K.dr (p.over - 1).toNat (by omega) ad ?_;refine aa ?_;apply K.cond<;>intro g3
 ·refine aa ?_;refine⟨?_,cP (Ext.refl _)⟩;rw[if_pos (by omega)];rfl
 refine aa ?_;apply K.cond<;>intro g4
 ·refine aa ?_;refine⟨?_,cP (Ext.refl _)⟩;rw[if_pos (by omega)];rfl
 refine aa ?_;refine⟨?_,cP (Ext.refl _)⟩;rw[if_neg (by omega)];congr 1;omega
def RU(x:o.cW):Value:=.agg x.enc.toArray
theorem R1{rO w0:World}{b:Nat}{cs:List Value}{m:o.Model}(av:w0.heap[b]? = some (.cells cs.toArray T.b))(h:o.ew rO cs m)(pt:Ext rO w0) :
  SeqStopsK Fence.wide 0 Tryz.prog F.pe #[.pointer (some ⟨b,0,none⟩)] (fun x:o.tK m=>#[RU x.1]) (rX rO.heap.size [T.g,T.b]) (fun xs=>xs.map Subtype.val=o.insts m) (fun _=>True) (o.insts m).length w0:=by
 intro l iL Vd W aD qi ahk cB aae;have IL:Ext rO W:=pt.trans aD;have Qy:=Ext.obj (w:=w0) aD av;obtain⟨cv,bN,b9,c1,cq,c2,cm,bK,cw,bQ,rfl,aj,h1,U,ai,aL,eG,dt,dB,dT,er⟩:=h.form;refine callsIn_wide.2 (Calls.mono (show bq Tryz.prog F.pe #[.func (.yield l) #[] #[],.pointer (some ⟨b,0,none⟩)] W (fun _ ct=>(∃xs,xs.map Subtype.val=o.insts m∧iL xs ct)∨(∃pre:List (o.tK m),True∧Vd pre ct)) from ?_) fun e ct ⟨v,bT,bg⟩=>⟨⟨v,bT⟩,bg⟩);have Qc:∀{pre:List (o.tK m)} {w w':World},iL pre w→Ext w w'→iL pre w':=fun {pre w w'} aT e=>qi pre w w' none aT e.YR (fun r e=>by cases e);refine bI E.pe ?_;refine bF ?_;refine aa ?_;refine K.da 9 m.procs.length [0,1,7,8] (fun _=>[]) ([]:List (o.tK m)) (fun k pre w'=>(Ext rO w'∧w'.heap[b]? = some (.cells #[.slice cv m.scalars.length bN,.slice b9 m.vars.length c1,.slice cq m.aH.length c2,.slice cm m.procs.length bK,.slice cw m.props.length bQ] T.b)∧iL pre w')∧pre.map Subtype.val++o.iY m (m.procs.drop k) k=o.insts m) bw bw ⟨⟨IL,Qy,aae⟩,by simp[o.insts]⟩ ?_;clear Qy av;rintro k pre S w1 hk ⟨⟨az,QA,Q2⟩,sH⟩;refine aa ?_;apply K.cond<;>intro g1
 ·have bb:k<m.procs.length:=by omega
  obtain⟨a,rfl⟩:=ai.addr (by omega);obtain⟨ay,cr,dL,en,eJ,gX⟩:=ai.at k bb;obtain⟨_,_,rfl,_⟩:=eJ.form;obtain⟨_,_,rfl,_⟩:=gX.form;rw[o.RW bb] at sH;have we:=cL QA;refine ei ?_;simp -dsimp only[cu];refine ei ?_;simp -dsimp only[cu];refine ei ?_;intro zN b4 dw lg qk;refine ei ?_;intro aR abh aI;have aA:=abh.ext lg dw;have QB:=aA.obj QA;have wq:=Qc Q2 aA;have fs:∀(q:List (o.tK m)) (r:List o.cW),q.map Subtype.val++r=o.insts m→r≠[]→q.length<(o.insts m).length:=fun q r e bk=>by
   rw[←e,List.length_append,List.length_map]
   have:=List.length_pos_iff.2 bk
   omega
  have sw:=o.AS m m.procs[k];refine ei ?_;refine K.hE [0,1,3,4,7,8,9] (fun _=>[]) (fun(CS:List (o.tK m)) w'=>(Ext rO w'∧w'.heap[b4]? = aR.heap[b4]? ∧ w'.heap[b]? = aR.heap[b]? ∧ iL CS w')∧CS.map Subtype.val=pre.map Subtype.val++o.hN k m.procs[k]) ?_ ?_
  ·refine aa ?_;apply K.cond<;>intro g2
   ·have bT:o.hN k m.procs[k]=[⟨(k:Int),0⟩]:=by unfold o.hN;rw[if_pos g2]
    rw[bT] at sH;refine aa ?_;refine K.yield (cB pre ⟨⟨(k:Int),0⟩,by simp,by simpa using bb,by simp⟩ aR wq (fs pre _ (by simpa[List.append_assoc] using sH) (by simp))) ?_;rintro e ba (⟨rfl,wu,wx⟩ | ⟨rfl,wu⟩)
    ·refine⟨.bool true,rfl,?_⟩;refine aa ?_;exact⟨_,trivial,⟨Below.trans (Ext.trans az aA) wx.1,wx.2 b4 _ _ _ aI (by simp),wx.2 b _ _ _ QB (by simp),wu⟩,by simp[bT]⟩
    ·refine⟨.bool false,rfl,?_⟩;refine aa ?_;exact .inr ⟨_,trivial,wu⟩
   ·have bT:o.hN k m.procs[k]=[]:=by unfold o.hN;rw[if_neg g2]
    refine aa ?_;exact⟨pre,trivial,⟨az.trans aA,bu,bu,wq⟩,by simp[bT]⟩
  rintro Kg S ba ⟨⟨au,bG,QC,wu⟩,aaI⟩;rw[aI] at bG;rw[QB] at QC;refine aa ?_;refine K.call (XO _ m m.procs[k] _ _ ba (h.ext au)) ?_;rintro _ bo ⟨rfl,aP⟩;have aaf:=Qc wu aP;have QD:=aP.obj QC;have nI:=au.trans aP;have Ru:Kg.map Subtype.val++o.ir k (o.elems m m.procs[k])++o.iY m (m.procs.drop (k+1)) (k+1)=o.insts m:=by rw[aaI,←sH];simp
  refine aa ?_;refine K.da 27 (o.elems m m.procs[k]) [0,1,3,7,8,9,26] (fun _=>[]) Kg (fun j CS w'=>(Ext rO w'∧w'.heap[b]? = bo.heap[b]? ∧ iL CS w')∧CS.map Subtype.val=Kg.map Subtype.val++o.ir k j) bw bw ⟨⟨nI,rfl,aaf⟩,by simp[o.ir]⟩ ?_;rintro j Kh S bR aT ⟨⟨bf,E2,Q3⟩,yL⟩;rw[QD] at E2;refine aa ?_;apply K.cond<;>intro g3
  ·have ef:j<o.elems m m.procs[k]:=by omega
   have ck:Kh.length<(o.insts m).length:=by
    have bT:=congrArg List.length Ru;have bg:=congrArg List.length yL;simp only[List.length_append,List.length_map,o.ir,List.length_range] at bT bg;omega
   refine aa ?_;refine K.yield (cB Kh ⟨⟨(k:Int),(j:Int)+1⟩,by simp,by simpa using bb,by constructor<;>simp<;>omega⟩ bR Q3 ck) ?_;rintro e bW (⟨rfl,I2,Bs⟩ | ⟨rfl,I2⟩)
   ·refine⟨.bool true,rfl,?_⟩;refine aa ?_;exact⟨ef,bu,_,trivial,⟨Below.trans bf Bs.1,by rw[Bs.2 b _ _ _ E2 (by simp),E2,QD],I2⟩,by simp[yL,o.S6]⟩
   ·refine⟨.bool false,rfl,?_⟩;refine aa ?_;exact .inr ⟨_,trivial,I2⟩
  ·have kL:j=o.elems m m.procs[k]:=by omega
   subst kL;refine aa ?_;exact⟨bb,bu,Kh,trivial,⟨bf,E2,Q3⟩,by rw[yL];exact Ru⟩
 ·refine aa ?_;rw[List.drop_eq_nil_of_le (by omega)] at sH;exact .inl ⟨pre,by simpa[o.iY] using sH,Q2⟩
end Go.Proofs.R
end
section
namespace o
open Go
def cW.key(x:cW):Int:=5*x.proc+x.elem
def chain:cW→List cW→Prop
 | _,[]=>True
 | a,x :: r=>x≠a∧chain x r
theorem OS:∀(l:List cW) (a:cW),(a :: l).Pairwise (fun x y=>x.key<y.key)→chain a l
 | [],_,_=>trivial
 | x :: r,a,h=>by
  obtain⟨h1,U⟩:=List.pairwise_cons.1 h;refine⟨fun e=>?_,OS r x U⟩
  have:=h1 x (by simp)
  rw[e] at this;exact absurd this (Int.lt_irrefl _)
theorem R0{m:Model}:∀(l:List dj) (i:Nat),(iY m l i).Pairwise (fun x y=>x.key<y.key)∧∀x∈iY m l i,5*(i:Int)≤x.key
 | [],_=>⟨List.Pairwise.nil,fun x aw=>by simp[iY] at aw⟩
 | p :: r,i=>by
  obtain⟨h1,U⟩:=R0 r (i+1);have a8:∀x∈hN i p,x=⟨(i:Int),0⟩:=fun x aw=>by
   unfold hN at aw;split at aw
   ·simpa using aw
   ·cases aw
  have aU:∀x∈ir i (elems m p),∃k:Nat,k<4∧x=⟨(i:Int),(k:Int)+1⟩:=fun x aw=>by
   unfold ir at aw;obtain⟨k,hk,rfl⟩:=List.mem_map.1 aw
   have:=List.mem_range.1 hk
   have:=AS m p
   exact⟨k,by omega,rfl⟩
  have nf:(ir i (elems m p)).Pairwise (fun x y=>x.key<y.key):=by
   unfold ir;rw[List.pairwise_map];exact List.Pairwise.imp (fun {a b} A6=>by simp only[cW.key];omega) List.pairwise_lt_range
  have adQ:(hN i p).Pairwise (fun x y=>x.key<y.key):=by
   unfold hN;split
   ·exact List.pairwise_singleton _ _
   ·exact List.Pairwise.nil
  simp only[iY];refine⟨List.pairwise_append.2 ⟨List.pairwise_append.2 ⟨adQ,nf,fun a br b aD=>?_⟩,h1,fun a br b aD=>?_⟩,fun x aw=>?_⟩
  ·obtain rfl:=a8 a br;obtain⟨k,_,rfl⟩:=aU b aD;simp only[cW.key];omega
  ·have dw:=U b aD;rcases List.mem_append.1 br with br | br
   ·obtain rfl:=a8 a br;simp only[cW.key];simp at dw;unfold cW.key at dw;omega
   ·obtain⟨k,hk,rfl⟩:=aU a br;unfold cW.key at dw ⊢;simp at dw ⊢;omega
  ·rcases List.mem_append.1 aw with aw | aw
   ·rcases List.mem_append.1 aw with aw | aw
    ·obtain rfl:=a8 x aw;simp[cW.key]
    ·obtain⟨k,hk,rfl⟩:=aU x aw;unfold cW.key;simp;omega
   ·have:=U x aw
    simp at this;omega
theorem abD(m:Model):chain ⟨-1,0⟩ (insts m):=by
 obtain⟨h1,U⟩:=R0 (m:=m) m.procs 0;refine OS _ _ (List.pairwise_cons.2 ⟨fun x aw=>?_,h1⟩)
 have:=U x aw
 unfold cW.key at this ⊢;simp at this ⊢;omega
theorem PX(m:Model):∀(l:List cW) (i:Nat) (a:cW) (out:List Ref),chain a l→(l.foldl (ku m) ((i:Int) - 1,a,out)).2.2=out++nh m l i
 | [],_,_,_,_=>by simp[nh]
 | x :: r,i,a,out,h=>by
  simp only[List.foldl_cons];have e:ku m ((i:Int) - 1,a,out) x=(((i+1:Nat):Int) - 1,x,out++refsOf i (pL m x)):=by
   unfold ku;simp only;rw[if_pos h.1];congr 1
   ·omega
   ·congr 2;congr 1;omega
  rw[e,PX m r (i+1) x _ h.2];simp[nh]
theorem aeL(m:Model):((insts m).foldl (ku m) (-1,⟨-1,0⟩,[])).2.2=refs m:=by
 have:=PX m (insts m) 0 ⟨-1,0⟩ [] (abD m)
 simpa[refs] using this
structure vi(m:Model):Prop where
 procs:m.procs.length≤30
 cJ:∀p∈m.procs,p.cJ.length≤30
theorem J4{m:Model}(h:vi m)(x:cW):pL m x≤30:=by
 unfold pL;split
 ·rename_i p aO;refine h.cJ p ?_;unfold nth at aO;by_cases aj:0≤x.proc
  ·rw[if_pos aj] at aO;exact List.mem_of_getElem? aO
  ·rw[if_neg aj] at aO;cases aO
 ·omega
theorem PW{m:Model}(h:vi m):∀(l:List cW) (s:Int×cW×List Ref),s.1≤(l.foldl (ku m) s).1∧(l.foldl (ku m) s).1≤s.1+l.length∧(l.foldl (ku m) s).2.2.length≤s.2.2.length+30*l.length
 | [],s=>by simp
 | x :: r,s=>by
  obtain⟨h1,U,ai⟩:=PW h r (ku m s x);simp only[List.foldl_cons,List.length_cons];have aN:=J4 h x;have bT:s.1≤(ku m s x).1∧(ku m s x).1≤s.1+1:=by unfold ku;simp only;split<;>omega
  have bg:(ku m s x).2.2.length≤s.2.2.length+30:=by unfold ku refsOf;simp only[List.length_append,List.length_map,List.length_range];omega
  omega
theorem TA{m:Model}(h:vi m):∀(l:List cW) (i:Nat),(nh m l i).length≤30*l.length
 | [],_=>by simp[nh]
 | x :: r,i=>by
  have:=TA h r (i+1)
  have:=J4 h x
  simp only[nh,List.length_append,refsOf,List.length_map,List.length_range,List.length_cons];omega
theorem KA{m:Model}(h:vi m):(refs m).length≤4500:=by
 have:=TA h (insts m) 0
 have:=sO m
 have:=h.procs
 unfold refs;omega
structure NL(m:Model)(r:Ref)(i p k:Nat):Prop where
 ad:i<(insts m).length
 zv:r.inst=i
 ip:(insts m)[i].proc=p
 aO:p<m.procs.length
 zx:r.cmd=k
 hk:k<m.procs[p].cJ.length
theorem TB{m:Model}:∀(l:List cW) (i0:Nat) (r:Ref),r∈nh m l i0→∃j,∃aT:j<l.length,r.inst=((i0+j:Nat):Int)∧∃k:Nat,k<pL m l[j]∧r.cmd=k
 | [],_,_,h=>by simp[nh] at h
 | x :: l,i0,r,h=>by
  simp only[nh,List.mem_append] at h;rcases h with h | h
  ·unfold refsOf at h;obtain⟨k,hk,rfl⟩:=List.mem_map.1 h;exact⟨0,by simp,by simp,k,by simpa using hk,rfl⟩
  ·obtain⟨j,aT,h1,k,U,ai⟩:=TB l (i0+1) r h;exact⟨j+1,by simpa using aT,by rw[h1];congr 1;omega,k,by simpa using U,ai⟩
theorem aeK{m:Model}{r:Ref}(h:r∈refs m):∃i p k,NL m r i p k:=by
 obtain⟨j,aT,h1,k,U,ai⟩:=TB _ _ _ h;have aw:=qw (insts m)[j] (List.getElem_mem _);obtain⟨p,aO⟩:=Int.eq_ofNat_of_zero_le aw.aZ;have qt:p<m.procs.length:=by have:=aw.ad;omega
 refine⟨j,p,k,aT,by rw[h1];simp,aO,qt,ai,?_⟩;unfold pL at U;rw[aO,h0 (by omega) (by omega)] at U;simpa using U
end o
end
section
namespace bt
open Go Go.RowKit
def OC(cO t:TypeId)(sz b:Nat)(z:Array Value):xI:=⟨13,[.tmp 4],
 (.ly (.bC [aC 2 (.box cO (ab 0)),ag 4 (.const (.slice none 0 0))])
 (.te (.ly (.bC [I 6 1])
 (.aV 0 (.ta (ab 6) 7 (.bC [aC 5 (.new t (.agg z)),hS (.qL sz (ab 5) (ab 7))]) (.aV 1 (.bC [ae 8 2,lF 9 (.iZ sz (ab 5)),aC 10 (.cQ t 1 sz z.toList [(0,(ab 9))]),aC 11 (.app cO t sz b (ab 8) (ab 10)),ys 2 11])))))
 (.seq (.bC [ae 12 2,I 4 12])
 .ret)))⟩
theorem Sp:∀(vs pre post:List Value),vs.length≤post.length→(vs.zipIdx pre.length).foldl (fun cs (x:Value×Nat)=>cs.set (0+x.2) x.1) (pre++post)=pre++vs++post.drop vs.length
 | [],pre,post,_=>by simp
 | v :: vs,pre,[],h=>by simp at h
 | v :: vs,pre,p :: post,h=>by
  have gf:=Sp vs (pre++[v]) post (by simpa using h);simp only[List.length_append,List.length_cons,List.length_nil] at gf;simp only[List.zipIdx_cons,List.foldl_cons,List.length_cons,List.drop_succ_cons];rw[show(pre++p :: post).set (0+pre.length) v=(pre++[v])++post from by simp,gf];simp
theorem Yp{S:Fr}{sz:Nat}{z cs:List Value}{t:Nat}(aK:S t = .agg cs.toArray)(av:cs.length=sz)(bU:z.length=sz)(aj:0<sz):ey S ((List.range 1).map fun i=>(i*sz,sz)) [(0,.tmp t)] z=some cs:=by
 have e:lay z 0 (.agg cs.toArray)=cs:=by
  have:=Sp cs [] z (by omega)
  simp only[List.nil_append,List.length_nil] at this;unfold lay;simp only[Value.cells];rw[this,List.drop_eq_nil_of_le (by omega),List.append_nil]
 have bT:(a7 S (.tmp t)).cells.size=sz:=by
  show(S t).cells.size=sz;rw[aK];simp[Value.cells,av]
 have bg:((List.range 1).map fun i=>(i*sz,sz))[0]? = some (0,sz):=by simp
 unfold ey;simp only[bg];rw[if_pos ⟨bT,by omega⟩];unfold ey;show some (lay z 0 (S t))=_;rw[aK,e]
section
variable{α:Type}{P:Program}{f:FuncId}{t cO:TypeId}{sz b:Nat}{enc:α→List Value}{z:Array Value}
theorem VR(hm:P.follows .mixedOrders=true)(e0:yf P f=some (OC cO t sz b z))(bU:z.size=sz)(hlen:∀x,(enc x).length=sz)(sG:∀x,∀u∈enc x,u.oneCell'=true)(c3:0<sz)
  {kI:Nat}{hx:Array Value}{hM:Nat}{lA:List TypeId}{ou p0:List α→Prop}{N:Nat}{w0 w:World}(dd:okF P kI=true)
  (sJ:SeqStopsK Fence.wide 0 P kI hx (fun x=>#[.agg (enc x).toArray]) (rX hM lA) ou p0 N w0)(he:Ext w0 w)(wz:hM≤w.heap.size)(aK:t∉lA)(BP:cO∉lA)(dc:cO≠t)(fQ:N*b≤140737488355328)(Qe:N≤maxLen) :
  bq P f #[.slice none 0 0,.func (.func kI) #[] hx] w fun v w'=>(∃xs,ou xs∧bp enc t sz w.heap.size w' v xs)∧Ext w w':=by
 refine jL.start hm e0 (args:=[_,_]) (Nat.le_of_ble_eq_true rfl) ?_;dsimp only[OC,ab,ah,bS,aY,lF,aC,db,hS,qO,I,ag,af,ae,bm,ys,bH];refine jL.ly ?_;refine aa ?_;intro w1 bz cK az al;refine aa ?_;refine jL.te (jL.ly ?_);simp -dsimp only[cI,cu,Nat.reduceAdd,Nat.reduceEqDiff,reduceIte,reduceCtorEq,cS];refine jL.aV (jL.ta (w0:=w0) (enc:=fun x=>.agg (enc x).toArray) (by simp[fr,cb]) dd sJ (he.trans az) (rX.ok lA (Nat.le_trans wz az.size))
  (fun pre W=>Mod (fun k=>k=bz) w1 W∧∃(bh:Option Addr) (n c:Nat),W.heap[bz]? = some (.cells #[.slice bh n c] cO)∧bp enc t sz w1.heap.size W (.slice bh n c) pre) ?_ ⟨Mod.refl _ _,none,0,0,al,bp.nil _ _ _ _ _⟩ ?_ ?_)
 ·rintro pre W ct row ⟨hm,bh,n,c,aD,a8⟩ a6 bk;refine⟨hm.high a6 fun r e=>(bk r e).1,bh,n,c,?_,a8.mod (Mod.grown (A:=fun k=>row=some k) a6 fun k e=>e) fun k hk a=>?_⟩
  ·rw[a6.block bz (cL aD) fun e=>?_]
   ·exact aD
   ·obtain⟨aq,h1,U⟩:=(bk bz e.symm).2;rw[aD] at h1;injection h1 with h1;subst h1;cases U
  ·obtain⟨cur,ai⟩:=a8.aV k hk;obtain⟨aq,h1,U⟩:=(bk k a).2;rw[ai] at h1;injection h1 with h1;subst h1;cases U
 ·rintro pre x W ⟨hm,bh,n,c,mr,a8⟩ ck;have Ra:=cL al;have aih:=hm.size
  try (simp -dsimp only[cI,cu,Nat.reduceAdd,Nat.reduceEqDiff,reduceIte,reduceCtorEq,cS])
  refine K.new fun jh dz lV bf cx=>?_
  try (simp -dsimp only[cI,cu,Nat.reduceAdd,Nat.reduceEqDiff,reduceIte,reduceCtorEq,cS])
  refine K.kW cx bU (by simpa using hlen x) (by simpa using sG x) fun fp hw aI=>?_
  try (simp -dsimp only[cI,cu,Nat.reduceAdd,Nat.reduceEqDiff,reduceIte,reduceCtorEq,cS])
  have bg:=hw.ext bf lV;refine⟨bg.keeps _,bg.gZ (by omega),fun mh wE=>?_⟩;obtain⟨l,aQ,yH,hW⟩:=wE.mod;have bG:=wE.cells aI;have fG:=wE.cells (bg.obj mr);have eM:bp enc t sz w1.heap.size mh (.slice bh n c) pre:=(a8.ext bg).mod hW fun k hk a=>by
   subst a;obtain⟨cur,ai⟩:=(a8.ext bg).aV k hk;exact yH _ _ _ ai
  try (simp -dsimp only[cI,cu,Nat.reduceAdd,Nat.reduceEqDiff,reduceIte,reduceCtorEq,cS])
  refine K.pC fG (Ext.refl _) rfl ?_
  try (simp -dsimp only[cI,cu,Nat.reduceAdd,Nat.reduceEqDiff,reduceIte,reduceCtorEq,cS])
  refine K.iZ (fZ bG) (hlen x) ?_
  try (simp -dsimp only[cI,cu,Nat.reduceAdd,Nat.reduceEqDiff,reduceIte,reduceCtorEq,cS])
  refine K.kg (Yp (cs:=enc x) (by simp[cb]) (hlen x) (by simpa using bU) c3) fun G5 He Ir aP bJ=>?_
  try (simp -dsimp only[cI,cu,Nat.reduceAdd,Nat.reduceEqDiff,reduceIte,reduceCtorEq,cS])
  have aam:pre.length+1≤N:=ck;refine K.tM (ys:=[x]) (eM.ext aP) hlen (by simpa using fZ bJ) rfl sG (Nat.le_trans (Nat.mul_le_mul_right b aam) fQ) (by simp only[List.length_cons,List.length_nil];omega) (by have:=hW.size;have:=aP.size;have:=bg.size;omega) fun b3 p1 ek iC jq=>?_;obtain⟨jw,nz,rfl,_⟩:=ek.form;have fh:=aP.obj fG;have Bb:p1.heap[bz]? = some (.cells #[.slice bh n c] cO):=by
   rw[iC.block bz (cL fh) fun e=>?_]
   ·exact fh
   ·obtain⟨cur,ai⟩:=(eM.ext aP).aV bz e.symm;rw[fh] at ai;injection ai with ai;injection ai with _ ai;exact dc ai
  try (simp -dsimp only[cI,cu,Nat.reduceAdd,Nat.reduceEqDiff,reduceIte,reduceCtorEq,cS])
  refine K.rL Bb (by simp) rfl fun kB gd dm=>?_
  try (simp -dsimp only[cI,cu,Nat.reduceAdd,Nat.reduceEqDiff,reduceIte,reduceCtorEq,cS])
  have fB:∀k,(Value.slice bh n c).ownBlock=some k→w1.heap.size≤k:=fun k hk=>(eM.lt k hk).1;have acE:Mod (fun k=>(Value.slice bh n c).ownBlock=some k∨k=bz) G5 kB:=(Mod.grown (A:=fun k=>(Value.slice bh n c).ownBlock=some k) iC fun k e=>e).comp (A':=fun k=>k=bz) (gd.mod rfl) (fun _ _ a=>.inl a) (fun _ _ a=>.inr a);have JY:Mod (fun k=>(Value.slice bh n c).ownBlock=some k∨k=bz) mh kB:=aP.mod.comp acE (A:=fun _=>False) (fun _ _ h=>h.elim) (fun _ _ h=>h);refine⟨JY.keeps fun k hk a=>?_,JY.gZ (by have:=hW.size;have:=bg.size;omega) (fun k hk a=>?_) (fun k lR hf oD a hk uK=>?_),?_,jw,_,nz,dm,?_⟩
  ·rcases a with a | a
   ·obtain⟨cur,ai⟩:=eM.aV k a;exact⟨_,_,_,ai⟩
   ·subst a;exact⟨_,_,_,fG⟩
  ·rcases a with a | a
   ·have:=fB k a;have:=az.size;omega
   ·omega
  ·rcases a with a | a
   ·obtain⟨cur,ai⟩:=eM.aV k a;rw[ai] at hk;injection hk with hk;injection hk with _ hk;subst hk;exact aK uK
   ·subst a;rw[fG] at hk;injection hk with hk;injection hk with _ hk;subst hk;exact BP uK
  ·refine(hm.comp (B:=fun k=>k=bz) (A':=fun k=>(Value.slice bh n c).ownBlock=some k∨k=bz∨k=l) ?_ (fun _ _ a=>a) fun k hk a=>?_)
   ·exact(bg.mod (A:=fun _=>False)).comp (hW.comp JY (fun _ _ a=>(Or.inr (Or.inr a):_∨_∨_)) (fun _ _ a=>by rcases a with a | a;exact .inl a;exact .inr (.inl a))) (fun _ _ h=>h.elim) (fun _ _ h=>h)
   ·rcases a with a | a | a
    ·have:=fB k a;omega
    ·exact a
    ·omega
  ·refine ek.mod (gd.mod (A:=fun k=>k=bz) rfl) fun k hk a=>?_;subst a;obtain⟨cur,ai⟩:=ek.aV k hk;rw[Bb] at ai;injection ai with ai;injection ai with _ ai;exact dc ai
 ·rintro D xs W nE ch ⟨hm,bh,n,c,mr,a8⟩ bs;simp -dsimp only[cI,cu,Nat.reduceAdd,Nat.reduceEqDiff,reduceIte,reduceCtorEq,cS];refine K.pC mr (Ext.refl _) rfl ?_;simp -dsimp only[cI,cu,Nat.reduceAdd,Nat.reduceEqDiff,reduceIte,reduceCtorEq,cS];refine jL.ret bs ?_;simp -dsimp only[cI,cu,Nat.reduceAdd,Nat.reduceEqDiff,reduceIte,reduceCtorEq,cS];have bT:Ext w W:=hm.ext az fun k hk e=>by omega
  refine⟨⟨xs,ch,(a8.mod (A:=fun k=>k=D) ((dH.e1 _ _ _).mod rfl) fun k hk a=>?_).low az.size⟩,bT.e1 (Nat.le_trans az.size nE) _⟩;subst a;obtain⟨cur,ai⟩:=a8.aV k hk;rw[bs] at ai;injection ai with ai;cases ai
end
end bt
end
section
namespace bt
open Go Go.RowKit
theorem bp.map{α β:Type}{enc:β→List Value}{g:α→β}{e:TypeId}{sz base:Nat}{w:World}{v:Value}{xs:List α}(h:bp (fun x=>enc (g x)) e sz base w v xs):bp enc e sz base w v (xs.map g):=by
 unfold bp at *;rw[List.length_map,List.flatMap_map];exact h
theorem bp.lz{α:Type}{enc:α→List Value}{e:TypeId}{sz base:Nat}{w:World}{v:Value}{xs:List α}(c3:∀x,(enc x).length=sz)(h:bp enc e sz base w v xs):bB sz (Flat enc) w v xs:=bp.o0 c3 h
theorem bp.new{α:Type}{enc:α→List Value}{e:TypeId}{sz:Nat}{w w':World}{v:Value}{xs:List α}(c3:∀x,(enc x).length=sz)(h:bp enc e sz w.heap.size w' v xs):dW w (fun w=>bB sz (Flat enc) w v xs) w':=fun aR m =>
 bp.o0 c3 (bp.mod h m fun k hk a=>by have:=(h.lt k hk).1;omega)
end bt
namespace Go.Proofs.R
open Go Go.RowKit bt
abbrev oh(w:World)(v:Value)(l:List o.cW):Prop:=bB 2 (Flat o.cW.enc) w v l
abbrev NM(w:World)(v:Value)(l:List o.Ref):Prop:=bB 2 (Flat o.Ref.enc) w v l
theorem R8(cs:List Value)(m:o.Model)(w:World)(h:o.ew w cs m) :
  bq Tryz.prog F.be #[.agg cs.toArray] w fun v w'=>(∃b,v = .func (.func F.pe) #[] #[.pointer (some ⟨b,0,none⟩)]∧w'.heap[b]? = some (.cells cs.toArray T.b))∧Ext w w':=by
 obtain⟨cv,bN,b9,c1,cq,c2,cm,bK,cw,bQ,rfl,_⟩:=h.form;refine bI E.be ?_;refine bF ?_;refine aa ?_;intro w1 bz cK az al;refine aa ?_;exact⟨⟨bz,rfl,al⟩,az⟩
theorem JH(cs:List Value)(m:o.Model)(w:World)(h:o.ew w cs m)(a6:m.cT) :
  bq Tryz.prog F.nu #[.agg cs.toArray] w fun v w'=>bp o.cW.enc T.l 2 w.heap.size w' v (o.insts m)∧Ext w w':=by
 obtain⟨cv,bN,b9,c1,cq,c2,cm,bK,cw,bQ,rfl,_⟩:=h.form;have aO:=a6.procs;have aQ:=o.sO m;unfold o.dZ at aO;refine bI E.nu ?_;refine bF ?_;refine aa ?_;intro w1 bz cK az al;refine aa ?_;refine K.call (R8 _ m w1 (h.ext az)) ?_;rintro _ aR ⟨⟨b,rfl,aI⟩,aA⟩;have cP:Ext w aR:=az.trans aA;refine aa ?_;refine K.call (f:=F.AE) (R:=fun v w'=>bp o.cW.enc T.l 2 aR.heap.size w' v (o.insts m)∧Ext aR w') ?_ ?_
 ·refine bI E.AE ?_;refine bF ?_;refine aa ?_;refine K.call (VR (α:=o.tK m) (enc:=fun x=>x.1.enc) kN GQ.b8 rfl (fun _=>rfl) (fun x u hu=>by simp[o.cW.enc] at hu;rcases hu with rfl | rfl<;>rfl) (by decide) (by kernel_rfl)
   (R1 aI h cP) (Ext.refl _) cP.size (by decide) (by decide) (by decide) (by omega) (by unfold maxLen;omega)) ?_
  rintro v ba ⟨⟨xs,sM,a8⟩,au⟩;refine aa ?_;exact⟨by rw[←sM];exact a8.map,au⟩
 ·rintro v ba ⟨a8,au⟩;refine aa ?_;exact⟨a8.low cP.size,cP.trans au⟩
structure kc(w1:World)(bZ cE dz:Nat)(s:Int×o.cW×List o.Ref)(W:World):Prop where
 mod:Mod (fun k=>k∈[bZ,cE,dz]) w1 W
 ex:∃bh n c,W.heap[bZ]? = some (.cells #[.slice bh n c] T.qX)∧bp o.Ref.enc T.p 2 w1.heap.size W (.slice bh n c) s.2.2
 aL:W.heap[cE]? = some (.cells #[.int .i64 s.1] T.a)
 bn:W.heap[dz]? = some (.cells s.2.1.enc.toArray T.l)
theorem kc.move{w1:World}{bZ cE dz:Nat}{s:Int×o.cW×List o.Ref}{W ct:World}{A:Nat→Prop}(h:kc w1 bZ cE dz s W)(m:Mod A W ct)(eC:∀k c t f,W.heap[k]? = some (.cells c t f)→¬A k)(iW:∀k,A k→w1.heap.size≤k):kc w1 bZ cE dz s ct:=by
 obtain⟨bh,n,c,e,a8⟩:=h.ex;refine⟨h.mod.comp m (fun _ _ a=>a) fun k hk a=>absurd (iW k a) (by omega),⟨bh,n,c,m.obj (eC _ _ _ _ e) e,a8.mod m fun k hk a=>?_⟩,m.obj (eC _ _ _ _ h.aL) h.aL,m.obj (eC _ _ _ _ h.bn) h.bn⟩;obtain⟨cur,ai⟩:=a8.aV k hk;exact eC _ _ _ _ ai a
theorem kc.ext{w1:World}{bZ cE dz:Nat}{s:Int×o.cW×List o.Ref}{W ct:World}(h:kc w1 bZ cE dz s W)(e:Ext W ct):kc w1 bZ cE dz s ct:=h.move (A:=fun _=>False) e.mod (fun _ _ _ _ _ h=>h) fun _ h=>h.elim
theorem tV{W:World}{k:Nat}{c lR:Array Value}{t hf:TypeId}{f oD:Nat×Nat}(h:W.heap[k]? = some (.cells c t f))(bA:W.heap[k]? = some (.cells lR hf oD)):t=hf:=by
 rw[h] at bA;injection bA with bA;injection bA
theorem kc.jy{w1:World}{bZ cE dz:Nat}{s:Int×o.cW×List o.Ref}{W ct:World}{n:Int}(h:kc w1 bZ cE dz s W)(hw:dH cE W ct)(av:ct.heap[cE]? = some (.cells #[.int .i64 n] T.a))(n34:bZ≠cE)(n45:dz≠cE):kc w1 bZ cE dz (n,s.2) ct:=by
 obtain⟨bh,k,c,e,a8⟩:=h.ex;refine⟨h.mod.comp (A':=fun k=>k=cE) (hw.mod rfl) (fun _ _ a=>a) fun k hk a=>by simp[a],⟨bh,k,c,hw.obj e n34,a8.mod (hw.mod (A:=fun k=>k=cE) rfl) fun k hk a=>?_⟩,av,hw.obj h.bn n45⟩;subst a;obtain⟨cur,ai⟩:=a8.aV k hk;exact absurd (tV ai h.aL) (by decide)
theorem kc.gJ{w1:World}{bZ cE dz:Nat}{s:Int×o.cW×List o.Ref}{W ct:World}{x:o.cW}(h:kc w1 bZ cE dz s W)(hw:dH dz W ct)(av:ct.heap[dz]? = some (.cells x.enc.toArray T.l))(n35:bZ≠dz)(n45:dz≠cE):kc w1 bZ cE dz (s.1,x,s.2.2) ct:=by
 obtain⟨bh,k,c,e,a8⟩:=h.ex;refine⟨h.mod.comp (A':=fun k=>k=dz) (hw.mod rfl) (fun _ _ a=>a) fun k hk a=>by simp[a],⟨bh,k,c,hw.obj e n35,a8.mod (hw.mod (A:=fun k=>k=dz) rfl) fun k hk a=>?_⟩,hw.obj h.aL (Ne.symm n45),av⟩;subst a;obtain⟨cur,ai⟩:=a8.aV k hk;exact absurd (tV ai h.bn) (by decide)
theorem kc.app{w1:World}{bZ cE dz:Nat}{s:Int×o.cW×List o.Ref}{W ct Eb:World}{bh jw:Option Addr}{n c iF lR:Nat}{l:List o.Ref}(h:kc w1 bZ cE dz s W)(he:W.heap[bZ]? = some (.cells #[.slice bh n c] T.qX))
  (a8:bp o.Ref.enc T.p 2 w1.heap.size W (.slice bh n c) s.2.2)(kO:bp o.Ref.enc T.p 2 w1.heap.size ct (.slice jw iF lR) l)(a6:W.grownBy ct (Value.slice bh n c).ownBlock)(hw:dH bZ ct Eb)
  (av:Eb.heap[bZ]? = some (.cells #[.slice jw iF lR] T.qX))(n34:bZ≠cE)(n35:bZ≠dz):kc w1 bZ cE dz (s.1,s.2.1,l) Eb∧ec w1.heap.size [bZ,cE,dz] [T.p] W Eb:=by
 have de:ec w1.heap.size [bZ,cE,dz] [T.p] W ct:=ec.grown a8 a6 (by simp);have JM:∀{k:Nat} {c:Array Value} {t:TypeId},W.heap[k]? = some (.cells c t)→t≠T.p→ct.heap[k]? = some (.cells c t):=fun {k c t} hk aK=>by
  rw[a6.block k (cL hk) fun e=>?_]
  ·exact hk
  ·obtain⟨cur,ai⟩:=a8.aV k e.symm;exact aK (tV hk ai)
 have P9:=de.trans (hw.tZ (by simp));refine⟨⟨ec.from h.mod P9,⟨jw,iF,lR,av,kO.mod (hw.mod (A:=fun k=>k=bZ) rfl) fun k hk a=>?_⟩,hw.obj (JM h.aL (by decide)) (Ne.symm n34),hw.obj (JM h.bn (by decide)) (Ne.symm n35)⟩,P9⟩;subst a;obtain⟨cur,ai⟩:=kO.aV k hk;exact absurd (tV ai (JM he (by decide))) (by decide)
theorem aeM(cs:List Value)(m:o.Model)(w:World)(h:o.ew w cs m)(dF:o.vi m) :
  bq Tryz.prog F.c2 #[.agg cs.toArray] w fun v w'=>bp o.Ref.enc T.p 2 w.heap.size w' v (o.refs m)∧Ext w w':=by
 obtain⟨cv,bN,b9,c1,cq,c2,cm,bK,cw,bQ,rfl,aj,h1,U,ai,aL,eG,dt,dB,dT,er⟩:=h.form;have pr:=o.sO m;have qt:=dF.procs;refine jL.start kN GQ.c2 (args:=[_]) (Nat.le_of_ble_eq_true rfl) ?_;dsimp only[D.c2,ab,ah,bS,aY,lF,aC,db,hS,qO,I,ag,af,ae,bm,ys,bH,ak,aM,cG,bj,ax,dp,cg,J,aB,bl,cc,gO,bx,aX,fm,fx,aW,ar,ao,List.map_cons,List.map_nil];refine jL.ly ?_;refine aa ?_;intro Gy bz cK oI Bh;refine aa ?_;refine jL.ly ?_;refine aa ?_;intro Gz bZ fG nK mr;refine aa ?_;refine jL.ly ?_;refine aa ?_;intro vc cE fh lh hp;refine aa ?_;intro wd dz lV nL QF;have EV:dz≠cE:=by have:=cL hp;omega
 replace hp:=nL.obj hp;refine aa ?_;intro ags FB eZ;have ZI:=FB.obj QF EV;refine aa ?_;intro wf FC E3;replace E3:wf.heap[dz]? = some (.cells (⟨-1,0⟩:o.cW).enc.toArray T.l):=E3;have DA:=cL Bh;have DB:=cL mr;have aj0:=cL hp;have HN:Ext Gy wf:=FC.ext (FB.ext ((nK.trans lh).trans nL) (by have:=nK.size;omega)) (by have:=nK.size;have:=lh.size;omega);have Pu:Ext Gz ags:=FB.ext (lh.trans nL) (by omega);have Pv:Ext Gz wf:=FC.ext Pu (by have:=lh.size;omega);have Qr:=Pv.obj mr;have Zg:=HN.obj Bh;replace eZ:=FC.obj eZ (Ne.symm EV);have n34:bZ≠cE:=by omega
 have n35:bZ≠dz:=by have:=lh.size;omega
 have ajW:=nK.size;have ajZ:=lh.size;clear ZI QF hp FB FC Pu Pv mr Bh nK lh nL;refine jL.te (jL.ly ?_);refine aa ?_;refine K.call (R8 _ m wf (h.ext (oI.trans HN))) ?_;rintro _ pR ⟨⟨agX,rfl,IB⟩,Bm⟩;have tu:∀{w'},Ext pR w'→Ext w w':=fun e=>((oI.trans HN).trans Bm).trans e;have EZ:=Bm.obj Qr;have Ip:=Bm.obj Zg;have Ib:=Bm.obj eZ;have Ie:=Bm.obj E3;have aiP:=cL EZ;have aiQ:=cL Ib;have aiR:=cL Ie;simp -dsimp only[cI,cu,Nat.reduceAdd,Nat.reduceEqDiff,reduceIte,reduceCtorEq,cS];refine jL.aV (jL.ta (w0:=pR) (enc:=fun x:o.tK m=>RU x.1) (by simp[fr,cb]) (by kernel_rfl) (R1 IB h (tu (Ext.refl _))) (Ext.refl _) (rX.ok _ (tu (Ext.refl _)).size)
  (fun pre W=>kc pR bZ cE dz ((pre.map Subtype.val).foldl (o.ku m) (-1,⟨-1,0⟩,[])) W) ?_ ⟨Mod.refl _ _,⟨none,0,0,EZ,bp.nil _ _ _ _ _⟩,Ib,Ie⟩ ?_ ?_)
 ·rintro pre W ct row nS a6 bk;refine nS.move (A:=fun k=>row=some k) (Mod.grown a6 fun k e=>e) (fun k c t f hk a=>?_) fun k a=>(bk k a).1;obtain⟨aq,h1,U⟩:=(bk k a).2;rw[hk] at h1;injection h1 with h1;subst h1;cases U
 ·rintro pre x W nS ck;have rb:=o.PW dF (pre.map Subtype.val) (-1,⟨-1,0⟩,[]);simp only[List.length_map,List.length_nil] at rb;have key:((pre++[x]).map Subtype.val).foldl (o.ku m) (-1,⟨-1,0⟩,[])=o.ku m ((pre.map Subtype.val).foldl (o.ku m) (-1,⟨-1,0⟩,[])) x.1:=by
   rw[List.map_append,List.foldl_append];rfl
  generalize (pre.map Subtype.val).foldl (o.ku m) (-1,⟨-1,0⟩,[])=s at nS rb key;have BB:=o.J4 dF x.1;have wH:=x.2;refine ei ?_;intro jh ie gG az dm;refine ei ?_;refine⟨az.keeps _,az.gZ (Nat.le_trans (tu (Ext.refl _)).size nS.mod.size),fun fp wE=>?_⟩;obtain⟨l,aQ,yH,fu⟩:=wE.mod;replace dm:=wE.cells dm;have sK:kc pR bZ cE dz s fp:=(nS.ext az).move fu (fun k c t f hk a=>by subst a;exact yH _ _ _ hk) fun k a=>by omega
  have XM:pR.heap.size≤fp.heap.size:=sK.mod.size;have ahn:fp.heap[bz]? = pR.heap[bz]? := sK.mod.block bz (cL Ip) (by simp;omega);have Rk:ie∉[bZ,cE,dz]:=by have:=nS.mod.size;simp;omega
  clear nS wE fu yH Ib Ie EZ eZ Qr E3;generalize jq:(if x.1≠s.2.1 then s.1+1 else s.1)=at' at key;refine ei ?_;refine K.hE [1,3,4,5,6] (fun _=>[]) (fun(_:Unit) ct=>kc pR bZ cE dz (at',s.2) ct∧ec pR.heap.size [bZ,cE,dz] [T.p] fp ct) ?_ ?_
  ·have ahj:=sK.aL;have P6:=sK.bn;refine aa ?_;refine K.ac0 (sig:=o.Ua) (by kernel_rfl) (o.O0 _) (o.O0 _) fun r bk=>?_;refine aa ?_;refine K.cX (fun g1=>?_) (fun g1=>?_)
   ·have dc:x.1≠s.2.1:=fun e=>bk.1 g1 (by rw[e]);rw[if_pos dc] at jq;subst jq;refine aa ?_;intro mh eV bG;refine aa ?_;exact⟨(),trivial,sK.jy eV bG n34 EV,eV.tZ (by simp)⟩
   ·have heq:x.1=s.2.1:=o.abB _ _ (Classical.byContradiction fun aN=>by rw[bk.2 aN] at g1;cases g1);rw[if_neg (by simp[heq])] at jq;subst jq;refine aa ?_;exact⟨(),trivial,sK,(Ext.refl fp).tZ⟩
  rintro _ S mh ⟨Jr,QG⟩;replace dm:=ec.obj QG dm Rk (by decide);have Iq:=Jr.mod.block bz (cL Ip) (by simp;omega);rw[Ip] at Iq;have P6:=Jr.bn;have Pj:∀b∈[bZ,cE,dz],w.heap.size≤b:=fun b aD=>by
   have:=oI.size
   simp at aD;rcases aD with rfl | rfl | rfl<;>omega
  refine ei ?_;simp -dsimp only[cu];refine ei ?_;intro G5 ed bJ;have RF:=Jr.gJ ed bJ n35 EV;have ZK:=ec.trans QG (ed.tZ (by simp));have aho:=ed.obj Iq (by omega);replace dm:=ed.obj dm (by simp at Rk;omega);have AM:Ext w G5:=RF.mod.ext (tu (Ext.refl _)) fun k hk a=>by have:=Pj k a;omega
  clear Iq P6;obtain⟨nY,uC⟩:=Int.eq_ofNat_of_zero_le wH.aZ;have rl:nY<m.procs.length:=by have:=wH.ad;omega
  obtain⟨a,rfl⟩:=ai.addr (by omega);obtain⟨ay,cr,dL,en,eJ,gX⟩:=ai.at nY rl;obtain⟨_,_,rfl,_⟩:=eJ.form;obtain⟨_,_,rfl,lc⟩:=gX.form;have kn:o.pL m x.1=m.procs[nY].cJ.length:=by
   unfold o.pL;rw[uC,o.h0 (by omega) (by omega)];simp
  rw[kn] at BB;refine aa ?_;refine K.dr nY uC rl ?_;refine aa ?_;refine K.da 26 m.procs[nY].cJ.length [1,3,4,5,6,25] (fun _=>[]) () (fun j _ ct=>kc pR bZ cE dz (at',x.1,s.2.2++o.refsOf at' j) ct∧ec pR.heap.size [bZ,cE,dz] [T.p] fp ct) bw bw ⟨by simpa[o.refsOf] using RF,ZK⟩ ?_;rintro j _ S kB aT ⟨BO,ID⟩;refine aa ?_;apply K.cond<;>intro g2
  ·obtain⟨bh,n,c,bO,a8⟩:=BO.ex;have b8:=BO.aL;have aiq:=BO.mod.size;refine aa ?_;intro pc agV jr bP c5;refine aa ?_;have hlen:(s.2.2++o.refsOf at' j).length+1≤5000:=by
    simp only[List.length_append,o.refsOf,List.length_map,List.length_range];omega
   refine K.tM (ys:=[(⟨at',(j:Int)⟩:o.Ref)]) (a8.ext bP) (fun _=>rfl) (by simpa[o.Ref.enc] using fZ c5) rfl (by intro y u hu;simp[o.Ref.enc] at hu;rcases hu with rfl | rfl<;>rfl)
    (by simp only[List.length_cons,List.length_nil];omega) (by simp only[List.length_cons,List.length_nil];unfold maxLen;omega) (by have:=bP.size;omega) fun b3 Vt hX Fg _=>?_
   obtain⟨jw,nz,rfl,_⟩:=hX.form;have ahd:Vt.heap[bZ]? = some (.cells #[.slice bh n c] T.qX):=by
    rw[Fg.block bZ (cL (bP.obj bO)) fun e=>?_]
    ·exact bP.obj bO
    ·obtain⟨cur,ai⟩:=(a8.ext bP).aV bZ e.symm;exact absurd (tV ai (bP.obj bO)) (by decide)
   refine aa ?_;intro agR ln dP;obtain⟨aa4,ZL⟩:=(BO.ext bP).app (bP.obj bO) (a8.ext bP) hX Fg ln dP n34 n35;refine aa ?_;exact⟨by omega,bu,(),trivial,by rw[o.TC,←List.append_assoc];exact aa4,ec.trans ID (ec.trans bP.tZ ZL)⟩
  ·have kL:j=m.procs[nY].cJ.length:=by omega
   refine aa ?_;refine⟨ec.keeps ID (fun b aD=>?_),ec.gZ ID (Nat.le_trans (tu (Ext.refl _)).size XM) (tu (Ext.refl _)).size (fun b aD=>⟨Pj b aD,fun c t f hk aK=>?_⟩) (by decide),?_⟩
   ·simp at aD;rcases aD with rfl | rfl | rfl<;>omega
   ·simp at aD;rcases aD with rfl | rfl | rfl
    ·obtain⟨_,_,_,e,_⟩:=sK.ex
     have:=tV hk e;subst this;revert aK;decide
    ·have:=tV hk sK.aL;subst this;revert aK;decide
    ·have:=tV hk sK.bn;subst this;revert aK;decide
   ·show kc pR bZ cE dz _ kB;rw[key]
    have:o.ku m s x.1=(at',x.1,s.2.2++o.refsOf at' j):=by unfold o.ku;rw[jq,kn,kL]
    rw[this];exact BO
 ·rintro D xs W nE ch nS bs;obtain⟨bh,n,c,bO,a8⟩:=nS.ex;have wm:=o.aeL m;rw[ch] at a8;rw[wm] at a8;simp -dsimp only[cI,cu,Nat.reduceAdd,Nat.reduceEqDiff,reduceIte,reduceCtorEq,cS];refine K.pC bO (Ext.refl _) rfl ?_;simp -dsimp only[cI,cu,Nat.reduceAdd,Nat.reduceEqDiff,reduceIte,reduceCtorEq,cS];refine jL.ret bs ?_;simp -dsimp only[cI,cu,Nat.reduceAdd,Nat.reduceEqDiff,reduceIte,reduceCtorEq,cS];have EM:w.heap.size≤pR.heap.size:=(tu (Ext.refl _)).size;have bT:Ext w W:=nS.mod.ext (tu (Ext.refl _)) fun k hk a=>by
   have:=oI.size
   simp at a;rcases a with rfl | rfl | rfl<;>omega
  refine⟨(a8.mod (A:=fun k=>k=D) ((dH.e1 _ _ _).mod rfl) fun k hk a=>?_).low EM,bT.e1 (Nat.le_trans EM nE) _⟩;subst a;obtain⟨cur,ai⟩:=a8.aV k hk;rw[bs] at ai;injection ai with ai;cases ai
end Go.Proofs.R
end
section
namespace o
theorem RV:∀(y:cW),∀u∈y.enc,u.oneCell'=true:=by intro y u hu;simp[cW.enc] at hu;rcases hu with rfl | rfl<;>rfl
theorem aeI:∀(y:Ref),∀u∈y.enc,u.oneCell'=true:=by intro y u hu;simp[Ref.enc] at hu;rcases hu with rfl | rfl<;>rfl
end o
namespace Go.Proofs.R
open Go Go.RowKit bt
theorem C6(cs:List Value)(m:o.Model)(w:World)(h:o.ew w cs m)(a6:m.cT) :
  bq Tryz.prog F.sX #[.agg cs.toArray] w fun v w'=>bp o.cW.enc T.l 2 w.heap.size w' v (o.insts m)∧Ext w w':=by
 obtain⟨cv,bN,b9,c1,cq,c2,cm,bK,cw,bQ,rfl,aj,h1,U,ai,aL,eG,dt,dB,dT,er⟩:=h.form;have aO:=a6.procs;have aQ:=o.sO m;unfold o.dZ at aO;refine bI E.sX ?_;refine bF ?_;refine aa ?_;intro w1 bz cK az al;refine aa ?_;refine K.da 4 m.procs.length [1] (fun x:fU×List o.cW=>[(3,.slice x.1.1 x.1.2.1 x.1.2.2)]) ((none,0,0),[]) (fun k x w'=>(Ext w w'∧w'.heap[bz]? = w1.heap[bz]?)∧bp o.cW.enc T.l 2 w.heap.size w' (.slice x.1.1 x.1.2.1 x.1.2.2) x.2∧x.2++o.iY m (m.procs.drop k) k=o.insts m) bw bw ⟨⟨az,rfl⟩,bp.nil _ _ _ _ _,by simp[o.insts]⟩ ?_;rw[al];clear al;rintro k ⟨v,l⟩ S aR hk ⟨⟨aA,aI⟩,ej,qn⟩;refine aa ?_;apply K.cond<;>intro g1
 ·have bb:k<m.procs.length:=by omega
  obtain⟨a,rfl⟩:=ai.addr (by omega);obtain⟨ay,cr,dL,en,eJ,gX⟩:=ai.at k bb;obtain⟨_,_,rfl,_⟩:=eJ.form;obtain⟨_,_,rfl,_⟩:=gX.form;rw[o.RW bb] at qn;have ps:=congrArg List.length qn;simp only[List.length_append] at ps;have sw:=o.AS m m.procs[k];refine ei ?_;simp -dsimp only[cu];refine ei ?_;refine K.hE [1,4] (fun x:fU=>[(3,.slice x.1 x.2.1 x.2.2)]) (fun x w'=>(Ext w w'∧w'.heap[bz]? = aR.heap[bz]?)∧bp o.cW.enc T.l 2 w.heap.size w' (.slice x.1 x.2.1 x.2.2) (l++o.hN k m.procs[k])) ?_ ?_
  ·refine aa ?_;apply K.cond<;>intro g2
   ·have bT:o.hN k m.procs[k]=[⟨(k:Int),0⟩]:=by unfold o.hN;rw[if_pos g2]
    rw[bT] at ps ⊢;simp only[List.length_cons,List.length_nil] at ps;refine aa ?_;intro ba bZ fG au bG;have eM:=ej.ext au;have mr:=au.obj aI;refine aa ?_;refine K.mi (y:=⟨(k:Int),0⟩) eM bG rfl (fun _=>rfl) o.RV (by simp only;omega) (by unfold maxLen;simp only;omega) (aA.trans au).size fun bh n c bo ev mw=>?_;refine aa ?_;exact⟨(bh,n,c),bw,⟨eM.kH (aA.trans au) mw (Nat.le_refl _),by rw[aI];exact eM.box mw mr (by decide)⟩,ev⟩
   ·have bT:o.hN k m.procs[k]=[]:=by unfold o.hN;rw[if_neg g2]
    refine aa ?_;exact⟨v,bw,⟨aA,bu⟩,by rw[bT,List.append_nil];exact ej⟩
  rintro v3 S ba ⟨⟨au,bG⟩,eM⟩;rw[aI] at bG;clear aI;refine aa ?_;refine K.Dt [1,4] (fun x:fU×Nat=>[(3,.slice x.1.1 x.1.2.1 x.1.2.2),(5,.int .i64 ((x.2:Int)+1))]) (v3,0) (fun x w'=>(x.2≤o.elems m m.procs[k]∧Ext w w'∧w'.heap[bz]? = ba.heap[bz]?)∧bp o.cW.enc T.l 2 w.heap.size w' (.slice x.1.1 x.1.2.1 x.1.2.2) (l++o.hN k m.procs[k]++o.ir k x.2)) (fun x=>4 - x.2) bw ⟨⟨Nat.zero_le _,au,rfl⟩,by simpa[o.ir] using eM⟩ ?_;rw[bG];clear bG;rintro⟨v4,j⟩ S bo ⟨⟨aT,aP,bJ⟩,ev⟩;refine aa ?_;refine K.fX _ (fun w' e=>aey _ m m.procs[k] _ _ w' (h.ext (aP.trans e))) ?_;refine aa ?_;intro bR bf;have cx:=bf.obj bJ;have ek:=ev.ext bf;refine aa ?_;apply K.cond<;>intro g2
  ·have ef:j<o.elems m m.procs[k]:=by omega
   refine aa ?_;intro bW ie gG bc dm;have dn:=ek.ext bc;have mr:=bc.obj cx;have su:=(aP.trans bf).trans bc;refine aa ?_;have iW:(l++o.hN k m.procs[k]++o.ir k j).length+1≤(o.insts m).length:=by
    simp only[List.length_append,o.ir,List.length_map,List.length_range] at ps ⊢;omega
   refine K.mi (y:=⟨(k:Int),(j:Int)+1⟩) dn dm rfl (fun _=>rfl) o.RV (Nat.le_trans (Nat.mul_le_mul_right 16 iW) (by omega)) (Nat.le_trans iW (by unfold maxLen;omega)) su.size fun bh n c cj dX iV=>?_;refine aa ?_;exact⟨((bh,n,c),j+1),bw,⟨⟨by show j+1≤_;omega,dn.kH su iV (Nat.le_refl _),dn.box iV mr (by decide)⟩,by rw[o.S6,←List.append_assoc];exact dX⟩,by show 4 - (j+1)<4 - j;omega⟩
  ·have kL:j=o.elems m m.procs[k]:=by simp only at aT;omega
   refine aa ?_;exact⟨bb,bu,(v4,l++(o.hN k m.procs[k]++o.ir k j)),bw,⟨aP.trans bf,cx⟩,by rw[←List.append_assoc];exact ek,by rw[kL,←qn];simp⟩
 ·rw[List.drop_eq_nil_of_le (by omega)] at qn;refine aa ?_;refine⟨?_,aA⟩;simp only[o.iY,List.append_nil] at qn;rw[←qn];exact ej
theorem aeE(cs:List Value)(m:o.Model)(w:World)(h:o.ew w cs m)(a6:m.cT)(dF:o.vi m) :
  bq Tryz.prog F.Cj #[.agg cs.toArray] w fun v w'=>bp o.Ref.enc T.p 2 w.heap.size w' v (o.refs m)∧Ext w w':=by
 obtain⟨cv,bN,b9,c1,cq,c2,cm,bK,cw,bQ,rfl,aj,h1,U,ai,aL,eG,dt,dB,dT,er⟩:=h.form;have lj:=o.KA dF;refine bI E.Cj ?_;refine bF ?_;refine aa ?_;intro w1 bz cK az al;refine aa ?_;refine K.call (C6 _ m w1 (h.ext az) a6) ?_;rintro cn aR ⟨ad,aA⟩;have aI:=aA.obj al;have lk:oh aR cn (o.insts m):=bp.lz (enc:=o.cW.enc) (fun _=>rfl) ad;obtain⟨et,ci,rfl,bi⟩:=lk.form;have HH:=az.trans aA;refine aa ?_;refine K.da 5 (o.insts m).length [1,3] (fun x:fU×List o.Ref=>[(4,.slice x.1.1 x.1.2.1 x.1.2.2)]) ((none,0,0),[]) (fun k x w'=>(Ext aR w'∧bp o.Ref.enc T.p 2 aR.heap.size w' (.slice x.1.1 x.1.2.1 x.1.2.2) x.2)∧x.2++o.nh m ((o.insts m).drop k) k=o.refs m) bw bw ⟨⟨Ext.refl _,bp.nil _ _ _ _ _⟩,by simp[o.refs]⟩ ?_;rintro k ⟨v,l⟩ S ba hk ⟨⟨au,eM⟩,yG⟩;have bG:=au.obj aI;refine aa ?_;apply K.cond<;>intro g1
 ·have bb:k<(o.insts m).length:=by omega
  have wH:=o.qw (o.insts m)[k] (List.getElem_mem _);obtain⟨nY,uC⟩:=Int.eq_ofNat_of_zero_le wH.aZ;have rl:nY<m.procs.length:=by have:=wH.ad;omega
  obtain⟨a,rfl⟩:=ai.addr (by omega);obtain⟨ic,rfl⟩:=lk.addr (by omega);obtain⟨ay,cr,dL,en,eJ,gX⟩:=ai.at nY rl;obtain⟨_,_,rfl,_⟩:=eJ.form;obtain⟨_,_,rfl,lc⟩:=gX.form;have kn:o.pL m (o.insts m)[k]=m.procs[nY].cJ.length:=by
   unfold o.pL;rw[uC,o.h0 (by omega) (by omega)];simp
  rw[o.aeJ bb,kn] at yG;have ps:=congrArg List.length yG;simp only[List.length_append] at ps;refine aa ?_;refine K.da 6 m.procs[nY].cJ.length [1,3,5] (fun x:fU=>[(4,.slice x.1 x.2.1 x.2.2)]) v (fun j x w'=>Ext aR w'∧bp o.Ref.enc T.p 2 aR.heap.size w' (.slice x.1 x.2.1 x.2.2) (l++o.refsOf k j)) bw bw ⟨au,by simpa[o.refsOf] using eM⟩ ?_;clear bG;rintro j v4 S bo aT ⟨aP,ev⟩;have bJ:=aP.obj aI;have ah5:=en.ext HH;refine aa ?_;refine K.dr nY uC rl ?_;refine aa ?_;intro bR bf;have ek:=ev.ext bf;refine aa ?_;apply K.cond<;>intro g2
  ·have ef:j<m.procs[nY].cJ.length:=by omega
   refine aa ?_;intro bW ie gG bc dm;have dn:=ek.ext bc;have su:=(aP.trans bf).trans bc;refine aa ?_;have iW:(l++o.refsOf k j).length+1≤4500:=by
    simp only[List.length_append,o.refsOf,List.length_map,List.length_range] at ps ⊢;omega
   refine K.mi (y:=⟨(k:Int),(j:Int)⟩) dn dm rfl (fun _=>rfl) o.aeI (by omega) (by unfold maxLen;omega) su.size fun bh n c cj dX iV=>?_;refine aa ?_;exact⟨ef,bu,(bh,n,c),bw,dn.kH su iV (Nat.le_refl _),by rw[o.TC,←List.append_assoc];exact dX⟩
  ·have kL:j=m.procs[nY].cJ.length:=by omega
   refine aa ?_;exact⟨bb,bu,(v4,l++o.refsOf k j),bw,⟨aP.trans bf,ek⟩,by rw[kL,←yG];simp⟩
 ·rw[List.drop_eq_nil_of_le (by omega)] at yG;refine aa ?_;refine⟨?_,HH.trans au⟩;simp only[o.nh,List.append_nil] at yG;rw[←yG];exact eM.low HH.size
end Go.Proofs.R
end
section
namespace bt
open Go
def dk(n:Int):List Value:=[.int .i64 n]
theorem kG:∀(y:Int),∀u∈dk y,u.oneCell'=true:=by intro y u hu;simp[dk] at hu;subst hu;rfl
instance aiv:j6 (Flat dk) (fun n=>[Value.int .i64 n]):=⟨fun _ _ _ h=>h⟩
end bt
end
section
set_option linter.unusedSimpArgs false
namespace Go.Proofs.R
open Go Go.RowKit bt
abbrev encI:Int→List Value:=fun n=>[Value.int .i64 n]
abbrev kZ(base:Nat)(w:World)(v:Value)(xs:List Int):Prop:=bp encI T.a 1 base w v xs
structure pX(base b:Nat)(w:World)(m:Value)(st:List Int):Prop where
 ex:∃xj,w.heap[b]? = some (.cells #[xj,m] T.nu)∧kZ base w xj st
 lt:b<base
 le:base≤w.heap.size
theorem pX.ext{base b:Nat}{w w':World}{m:Value}{st:List Int}(h:pX base b w m st)(he:Ext w w'):pX base b w' m st :=
 let ⟨xj,h1,U⟩:=h.ex
 ⟨⟨xj,he.obj h1,U.ext he⟩,h.lt,Nat.le_trans h.le he.size⟩
theorem H7(st:List Int)(h:0<st.length):st.getLastD 0=st[st.length - 1]:=by
 rw[List.getLastD_eq_getLast?,List.getLast?_eq_getElem?,List.getElem?_eq_getElem (by omega)];rfl
theorem afZ(base b:Nat)(w:World)(m:Value)(st:List Int)(h:pX base b w m st)(aj:0<st.length) :
  bq Tryz.prog F.AK #[.pointer (some ⟨b,0,none⟩)] w fun v w'=>v = .int .i64 (st.getLastD 0)∧Ext w w':=by
 obtain⟨xj,df,a8⟩:=h.ex;obtain⟨bh,cap,rfl,av,hm⟩:=a8.form;have ad:Ints w _ st:=bp.o0 (enc:=encI) (sz:=1) (fun _=>rfl) a8;obtain⟨a,rfl⟩:=ad.addr aj;unfold maxLen at hm;refine bI E.AK ?_;refine bF ?_;refine aG ?_;refine K.dr (st.length - 1) (by omega) (by omega) ?_;refine aG ?_;intro w1 he;refine aG ?_;rw[H7 _ aj];exact cd
theorem abX(x:o.Node)(cs:List Value)(s:o.Scope)(base b:Nat)(w:World)(m:Value)(st:List Int)(aw:x.ok)(h:o.e2 w cs s)(hm:pX base b w m st)(ai:x.op=3→0<st.length) :
  bq Tryz.prog F.d6 #[.pointer (some ⟨b,0,none⟩),.agg x.enc.toArray,.agg cs.toArray] w fun v w'=>v = .tuple #[.int .i64 (o.iq x s (st.getLastD 0)).1,.int .i64 (o.iq x s (st.getLastD 0)).2]∧Ext w w':=by
 obtain⟨a0,bN,dy,c1,a2,c2,a3,bK,a4,bQ,rfl,qI,eb,dY,eg,gr,eG,dt,dB,dT,er⟩:=h.form;refine bI E.d6 ?_;refine bF ?_;simp -dsimp only[cu];refine ov ?_;refine K.new fun w1 bz cK az al=>?_;refine ov ?_;refine K.new fun aR b4 dw aA aI=>?_;have he:=az.trans aA;have eO:aR.heap[bz]? = some (.cells #[.int .i64 x.op,.int .i64 x.n] T.k):=aA.obj al;clear al;refine ov ?_;simp -dsimp only[cu];refine ov ?_;refine K.cut (fun a1 w'=>a1 0 = .pointer (some ⟨b,0,none⟩)∧a1 4 = .pointer (some ⟨bz,0,none⟩)∧a1 5 = .pointer (some ⟨b4,0,none⟩)∧w'=aR∧(x.op=2∨x.op=3∨x.op=4) ∧
  a1 8=if x.op=4 then .slice a4 s.locals.length bQ else .slice dy s.vars.length c1) ?_ ?_
 ·refine aG ?_;apply K.cond<;>intro g1
  ·refine aG ?_;refine K.call (Oy x.n 0 aR) ?_;rintro _ ba ⟨rfl,au⟩;have hk:o.iq x s (st.getLastD 0)=if o.within x.n then (0,0) else (0,10):=by rw[o.iq,if_pos g1]
   have aK:(o.tell (· + ·) x.n 0).2=o.within x.n:=by
    unfold o.tell
    have:o.within 0=true:=rfl
    simp only[Int.add_zero,this,Bool.and_true,Bool.and_self];split<;>simp_all
   rw[hk,aK];refine aG ?_;refine K.cX (fun g2=>?_) (fun g2=>?_)
   all_goals
    refine aG ?_;rw[g2];exact cd
  refine aG ?_;apply K.cond<;>intro g4
  ·refine aG ?_;refine⟨trivial,trivial,trivial,trivial,.inr (.inr g4),by rw[if_pos g4]⟩
  refine aG ?_;apply K.cond<;>intro g2
  ·refine aG ?_;refine⟨trivial,trivial,trivial,trivial,.inl g2,by rw[if_neg g4]⟩
  refine aG ?_;apply K.cond<;>intro g3
  ·refine aG ?_;refine⟨trivial,trivial,trivial,trivial,.inr (.inl g3),by rw[if_neg g4]⟩
  refine aG ?_;refine K.gg (c:=[_,_]) eO (Ext.refl _) rfl ?_;refine aG ?_;refine K.gg (c:=[_,_,_,_,_,_]) aI (Ext.refl _) rfl ?_;refine aG ?_;refine K.call (abY x _ s aR aw (h.ext he)) ?_;rintro _ ba ⟨rfl,au⟩;refine aG ?_;have hk:o.iq x s (st.getLastD 0)=o.kT x s:=by rw[o.iq,if_neg g1,if_neg (by omega)]
  rw[hk];exact cd
 ·rintro S w' ch ⟨iu,nj,mC,rfl,ko,T2⟩;have hk:o.iq x s (st.getLastD 0)=(let q:=o.fj (if x.op=4 then s.locals else s.vars) x.n s;if q.2.2=false then (0,8) else if (x.op=3∧(q.2.1=0∨st.getLastD 0≠q.2.1))∨(x.op≠3∧q.2.1≠0) then (0,9) else (q.1,0)):=by
   rw[o.iq,if_neg (by omega),if_pos ko]
  rw[hk];clear hk;have aU:o.gF w' (S 8) (if x.op=4 then s.locals else s.vars):=by
   rw[T2];split
   ·exact gr.ext he
   ·exact eb.ext he
  generalize (if x.op=4 then s.locals else s.vars)=l at aU ⊢;obtain⟨K9,fq⟩:∃K9,S 8=K9:=⟨_,rfl⟩;rw[fq] at aU;clear T2;refine cV (And.intro iu (And.intro nj (And.intro mC fq))) ?_;refine K.gg (c:=[_,_,_,_,_,_]) aI (Ext.refl _) rfl ?_;refine cV (And.intro iu (And.intro nj mC)) ?_;refine K.call (agh _ l x.n _ s w' aU (h.ext he)) ?_;rintro _ ba ⟨rfl,au⟩;generalize o.fj l x.n s=q;obtain⟨zp,xd,Kn⟩:=q;refine cV (And.intro iu (And.intro nj mC)) ?_;refine K.cX (fun g1=>?_) (fun g1=>?_);rotate_left
  ·refine aG ?_;simp only[g1,if_true];exact cd
  have m3:=(hm.ext he).ext au;refine cV (And.intro iu (And.intro nj mC)) ?_;apply K.cond<;>intro g2
  ·refine cV (And.intro iu (And.intro nj mC)) ?_;apply K.cond<;>intro g3
   ·refine cV (And.intro iu (And.intro nj mC)) ?_;simp only[g1,Bool.true_eq_false,if_false];rw[if_pos (.inl ⟨g2,.inl g3⟩)];exact cd
   refine cV (And.intro iu (And.intro nj mC)) ?_;refine K.call (afZ base b ba m st m3 (ai g2)) ?_;rintro _ bo ⟨rfl,aP⟩;refine cV (And.intro iu (And.intro nj mC)) ?_;apply K.cond<;>intro g4
   ·refine cV (And.intro iu (And.intro nj mC)) ?_;simp only[g1,Bool.true_eq_false,if_false];rw[if_neg (by omega)];exact cd
   ·refine aG ?_;simp only[g1,Bool.true_eq_false,if_false];rw[if_pos (.inl ⟨g2,.inr g4⟩)];exact cd
  ·refine cV (And.intro iu (And.intro nj mC)) ?_;apply K.cond<;>intro g4
   all_goals
    refine aG ?_;simp only[g1,Bool.true_eq_false,if_false]
   ·rw[if_neg (by omega)];exact cd
   ·rw[if_pos (.inr ⟨g2,g4⟩)];exact cd
end Go.Proofs.R
end
section
set_option linter.unusedSimpArgs false
namespace Go.Proofs.R
open Go Go.RowKit bt
theorem K.aea{P:Program}{x:Value}{args:List Value}{w:World}{aE:Value→Prop}{t}(v:Value)(h:∀w',Ext w w'→ts P x args w' (fun u bY=>u=v∧Ext w' bY) ⟨⟩)(hk:aE v):Ag P x args w aE t:=by
 unfold Ag;refine⟨v,fun w' he=>?_,hk⟩
 have:=h w' he
 unfold ts at this;obtain⟨f,first,cap,e,aJ,bk⟩:=this;exact⟨f,first,cap,e,aJ,bk.mono fun _ _ ⟨h1,U⟩=>⟨h1,he.trans U⟩⟩
theorem xB.ext{w w':World}{v:Value}{g:Int→Int→Int×Bool}(he:Ext w w')(h:xB w v g):xB w' v g:=by
 rcases h with h | ⟨c,f,p,h1,U,ai⟩
 ·exact .inl h
 ·exact .inr ⟨c,f,p,h1,he.obj U,ai⟩
def KT(f:o.Node→List Int→Int×Int)(two:o.om→List Int→Int×Int)(leaf:o.Node→List Int→Int×Int):Prop :=
 ∀x st,f x st=match o.gn x.op with | some aq=>two aq (st.drop (st.length - aq.parts.toNat)) | none=>leaf x st
theorem SV{x:Int}{aq:o.om}(h:o.gn x=some aq):1≤aq.parts∧aq.parts≤2:=by
 unfold o.gn at h
 repeat' split at h
 all_goals first | (cases h;exact⟨by decide,by decide⟩) | cases h
theorem afN(f:o.Node→List Int→Int×Int)(two:o.om→List Int→Int×Int)(leaf:o.Node→List Int→Int×Int)(aJ:KT f two leaf)
  (x:o.Node)(base b:Nat)(w:World)(m kX v2:Value)(st:List Int)(hm:pX base b w m st)(a8:oo w m)(sj:st.length≤24)
  (I7:0≤o.e9 x.op→o.e9 x.op≤st.length→o.gn x.op=none→∀w' cY t,Ext w w'→(∀bY,Ext w' bY→cY (.tuple #[.int .i64 (leaf x st).1,.int .i64 (leaf x st).2]) bY)→vg Tryz.prog kX [.agg x.enc.toArray] w' cY t)
  (Jv:∀aq eP fH w' cY t,Ext w w'→o.gn x.op=some aq→Ad w' aq eP→aq.parts≤st.length→Ints w' fH (st.drop (st.length - aq.parts.toNat)) →
   (∀bY,Ext w' bY→cY (.tuple #[.int .i64 (two aq (st.drop (st.length - aq.parts.toNat))).1,.int .i64 (two aq (st.drop (st.length - aq.parts.toNat))).2]) bY)→ts Tryz.prog v2 [eP,fH] w' cY t) :
  bq Tryz.prog F.AJ #[.pointer (some ⟨b,0,none⟩),.agg x.enc.toArray,kX,v2] w fun v w' =>
   v = .int .i64 (o.stepG f x st).1∧Mod (fun k=>k=b∨base≤k) w w'∧((o.stepG f x st).1=0→pX base b w' m (o.stepG f x st).2):=by
 obtain⟨xj,df,fB⟩:=hm.ex;obtain⟨bh,cap,rfl,Bi,gV⟩:=fB.form;have ad:Ints w _ st:=bp.o0 (enc:=encI) (sz:=1) (fun _=>rfl) fB;unfold maxLen at gV;refine bI E.AJ ?_;refine bF ?_;simp -dsimp only[cu];refine ov ?_;refine K.new fun w1 bz cK az al=>?_;refine ov ?_;simp -dsimp only[cu];refine ov ?_;refine K.fX _ (fun w' e=>adK x.op m w' (a8.ext (az.trans e))) ?_;refine ov ?_;intro aR aA;have fL:=az.trans aA;refine ov ?_;simp -dsimp only[cu];generalize aN:o.e9 x.op=n;have jt : -1≤n∧n≤2:=by rw[←aN];unfold o.e9; (repeat' split)<;>omega
 refine aG ?_;apply K.cond<;>intro g1
 ·refine aG ?_;have ay:o.stepG f x st=(3,st):=by unfold o.stepG;rw[aN,if_pos g1]
  rw[ay];exact⟨rfl,fL.mod,fun h=>by cases h⟩
 refine aG ?_;apply K.cond<;>intro g2
 ·refine aG ?_;have ay:o.stepG f x st=(4,st):=by unfold o.stepG;rw[aN,if_neg g1,if_pos g2]
  rw[ay];exact⟨rfl,fL.mod,fun h=>by cases h⟩
 refine ov ?_;simp -dsimp only[cu];refine ov ?_;simp -dsimp only[cu];refine ov ?_;have ea:o.stepG f x st=if (f x st).2≠0 then ((f x st).2,st) else if (st.take (st.length - n.toNat)++[(f x st).1]).length > 12 then (12,st) else (0,st.take (st.length - n.toNat)++[(f x st).1]):=by
  unfold o.stepG;rw[aN,if_neg g1,if_neg g2]
 rw[ea];clear ea;have uz:=aJ x st;generalize bk:f x st=r at uz ⊢;refine K.cut (fun a1 w'=>a1 0 = .pointer (some ⟨b,0,none⟩)∧a1 9 = .int .i64 n∧a1 10 = .int .i64 r.1∧a1 11 = .int .i64 r.2∧Ext w w') ?_ ?_
 ·refine aG ?_;intro ba au;obtain⟨es,q,l0,lo,yW⟩:=(a8.ext (fL.trans au)).look x.op;refine aG ?_;refine K.lp l0 lo ?_;cases ko:o.gn x.op with
  | none =>
   simp only[ko] at yW uz;subst yW;simp only[kU,Option.map_none,Option.getD_none,Option.isSome_none,if_true];refine aG ?_;refine K.new fun bo cE fh aP bJ=>?_;refine⟨aP,?_⟩;refine aG ?_;refine K.kW (cs:=#[.int .i64 0,.int .i64 0,.int .i64 0,.nilFunc]) bJ rfl rfl (by simp[Value.oneCell']) fun bR ft cx=>?_;have bf:Ext ba bR:=ft.ext aP fh;clear bJ ft aP;refine aG ?_;refine K.gg (c:=[_,_]) (aA.obj al) (fc) rfl ?_;refine aG ?_;refine I7 (by omega) (by omega) ko _ _ _ ((fL.trans au).trans bf) fun bW bc=>?_;refine aG ?_;rw[uz];exact⟨trivial,trivial,rfl,rfl,((fL.trans au).trans bf).trans bc⟩
  | some aq =>
   simp only[ko] at yW uz;obtain⟨i,eP,rfl,u,rfl,bs⟩:=yW;obtain⟨b9,cq⟩:=SV ko;have on:=(o.CP ko).1;simp only[kU,Option.map_some,Option.getD_some,Option.isSome_some,if_true];refine aG ?_;refine K.new fun bo cE fh aP bJ=>?_;refine⟨aP,?_⟩;refine aG ?_;refine K.kW (cs:=#[.int .i64 aq.parts,.int .i64 aq.h4,.int .i64 aq.makes,u]) bJ rfl rfl (by rcases bs with ⟨f,rfl,_⟩ | ⟨c,f,p,rfl,_⟩<;>simp[Value.oneCell']) fun bR ft cx=>?_;have bf:Ext ba bR:=ft.ext aP fh;clear bJ ft aP;have IN:=(fL.trans au).trans bf;have ahM:Ad ba aq (.agg #[.int .i64 aq.parts,.int .i64 aq.h4,.int .i64 aq.makes,u]):=⟨u,rfl,bs⟩;obtain⟨p,rfl⟩:=Int.eq_ofNat_of_zero_le (show 0≤n by omega);have aO:aq.parts.toNat=p:=by omega
   refine aG ?_;refine K.gg (c:=[_,_,_,_]) cx (Ext.refl _) rfl ?_;refine aG ?_;refine K.afr (st.length - p) (by simp -dsimp only[cI,cu,Nat.reduceAdd,Nat.reduceEqDiff,reduceIte,reduceCtorEq,cS];rw[Int.ofNat_sub (by omega)]) ⟨by omega,by omega⟩ ?_;have aK:=ad.tail (st.length - p) (by omega);rw[aO] at uz;refine aG ?_;refine K.aea _ (fun w' e=>Jv aq _ _ w' _ _ (IN.trans e) ko ⟨u,rfl,bs.ext (bf.trans e)⟩ (by omega) (by rw[aO];exact aK.ext Flat.ext (IN.trans e)) fun bY bg=>⟨rfl,bg⟩) ?_;refine aG ?_;intro bW bc;refine aG ?_;rw[uz,aO];exact⟨trivial,trivial,rfl,rfl,IN.trans bc⟩
 ·clear al az aA fL;rintro S ba ch ⟨iu,Db,Da,zB,au⟩;simp -dsimp only[cu];refine cV (And.intro iu (And.intro Db (And.intro Da zB))) ?_;apply K.cond<;>intro g3;rotate_left
  ·refine cV zB ?_;rw[if_pos g3];exact⟨rfl,au.mod,fun h=>absurd h g3⟩
  obtain⟨p,rfl⟩:=Int.eq_ofNat_of_zero_le (show 0≤n by omega);have oE:¬r.2≠0:=by simpa using g3
  rw[if_neg oE];have gV:(st.take (st.length - p)++[r.1]).length=st.length - p+1:=by simp[List.length_take]
  have hW:=hm.ext au;have eM:kZ base ba (.slice bh st.length cap) st:=fB.ext au;refine ov ?_;simp -dsimp only[cu];refine cV (And.intro iu (And.intro Db (And.intro Da zB))) ?_;intro bo aP;have ev:kZ base bo (.slice bh st.length cap) st:=eM.ext aP;refine cV (And.intro iu (And.intro Db (And.intro Da zB))) ?_;refine K.rK (st.length - p) (by simp -dsimp only[cI,cu,Nat.reduceAdd,Nat.reduceEqDiff,reduceIte,reduceCtorEq,cS];rw[Int.ofNat_sub (by omega)]) (by omega) ?_;refine cV (And.intro iu (And.intro Db (And.intro Da zB))) ?_;refine K.kg (cs:=[r.1].flatMap encI) (by simp[List.range,List.range.loop,ey,lay,fr,cb,Value.cells,encI]) fun bR dz lV bf cx=>?_;refine⟨bf,?_⟩;refine aG ?_;have ek:kZ base bR (.slice bh (st.length - p) cap) (st.take (st.length - p)):=bp.head (enc:=encI) (sz:=1) (xs:=st) (fun _=>rfl) (bp.ext bf ev) (st.length - p) (Nat.sub_le _ _);have ck:(st.take (st.length - p)).length=st.length - p:=by simp[List.length_take]
  have CY:((st.take (st.length - p)).length+[r.1].length)*8≤140737488355328:=by rw[ck];simp only[List.length_cons,List.length_nil];omega
  have ad3:(st.take (st.length - p)).length+[r.1].length≤maxLen:=by rw[ck];simp only[List.length_cons,List.length_nil,maxLen];omega
  have eb:∀y,∀u∈encI y,u.oneCell'=true:=fun y u h=>by simp[encI] at h;subst h;rfl
  refine K.qZ (xs:=st.take (st.length - p)) (ys:=[r.1]) ek (fun _=>rfl) (fZ cx) rfl eb CY ad3 (by have:=hm.le;have:=au.size;have:=aP.size;have:=bf.size;omega) fun v6 bW dn iU=>?_;have Bb:bR.heap[b]? = some (.cells #[.slice bh st.length cap,m] T.nu):=bf.obj (aP.obj (au.obj df));have gG:bW.heap[b]? = some (.cells #[.slice bh st.length cap,m] T.nu):=by
   refine(iU.block b (cL Bb) fun e=>?_).trans Bb
   have:=(ek.lt b e.symm).1
   have:=hm.lt
   omega
  refine aG ?_;refine K.st1 gG (by simp) (by obtain⟨bh,cap,e,_⟩:=dn.form;rw[e];rfl) fun cj eo c5=>?_;have sE:Mod (fun k=>k=b∨base≤k) w cj :=
   (((au.trans aP).trans bf).mod.trans (Mod.grown iU fun k hk=>.inr (ek.lt k hk).1)).trans (eo.mod (.inl rfl))
  have km:pX base b cj m (st.take (st.length - p)++[r.1]) :=
   ⟨⟨v6,c5,dn.wr eo hm.lt⟩,hm.lt,Nat.le_trans hm.le sE.size⟩
  obtain⟨qF,ag0,rfl,dm,_⟩:=dn.form;rw[gV];have ah0:((st.take (st.length - p)++[r.1]).length:Int)=st.length - p+1:=by rw[gV];omega
  refine cV (And.intro iu (And.intro Db (And.intro Da zB))) ?_;apply K.cond<;>intro g4
  ·refine aG ?_;simp only[Int.toNat_natCast,gV];rw[if_pos (by omega)];exact⟨rfl,sE,fun h=>by cases h⟩
  ·refine aG ?_;simp only[Int.toNat_natCast,gV];rw[if_neg (by omega)];exact⟨rfl,sE,fun _=>km⟩
end Go.Proofs.R
end