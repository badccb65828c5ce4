/- Parts. -/
import Derived.Test.YtakmdjclehkglaaGreatDoorQamg
import Derived.RangeFuncWrites
set_option linter.all false
set_option maxRecDepth 100000
set_option maxHeartbeats 4000000
namespace ba
open Go Go.RowKit
inductive tt where
 | uI (g:Operand) (p:Nat) (a b:e6)
 | uK (x:tt) (y:e6)
 | jj (x:e6) (y:tt)
 | cy (id:Nat) (x:tt)
def ob(P:D_)(n:Nat):Code->H_ tt
 | .rangeFunc g dA a b=>match dA.toList,comp P n a,comp P n b with
  | [p],some qp,some hC=>if p<n then some (.uI g p qp hC) else none
  | _,_,_=>none
 | .seq x y=>match comp P n x with
  | some xK=>(ob P n y).map (.jj xK)
  | none=>match ob P n x,comp P n y with
   | some rx,some xL=>some (.uK rx xL)
   | _,_=>none
 | .block id x=>(ob P n x).map (.cy id)
 | _=>none
structure Ab where
 n:Nat
 res:List nz
 code:tt
def Au(P:D_)(f:E_):H_ Ab :=
 match P.funcs[f]? with
 | some fn=>match fn.body with
  | some c=>match ob P fn.ntmps c,yJ P fn.results.toList with
   | some lc,some r=>some ⟨fn.ntmps,r,lc⟩
   | _,_=>none
  | none=>none
 | none=>none
structure EL(iL:World->World->Prop)(B:Nat):Prop where
 trans:∀{a b c:World},iL a b->iL b c->iL a c
 put:∀(W:World) (l:Nat) (ae o':Obj),B<=l->W.heap[l]? = some ae->ae.isCells=false->iL W (W.putObj l o')
def nx(h3:Nat)(cH:C_ F_)(W b4:A_):Prop:=Below h3 W b4/\∀(k:Nat) (c:Array B_) (t:F_) (f:Nat×Nat),W.heap[k]? = some (.cells c t f)->t∈cH->b4.heap[k]? = W.heap[k]?
def nx.ok{h3 B:Nat}(cH:C_ F_)(h:h3<=B):EL (nx h3 cH) B where
 trans h k:=⟨h.1.trans k.1,λi c t f U aB=>by rw[<-h.2 i c t f U aB];exact k.2 i c t f ((h.2 i c t f U aB).trans U) aB⟩
 put W l ae o' aE aS an:=⟨(Below.refl h3 W).grown (grownBy_putObj' W l o') (by have:=(Array.getElem?_eq_some_iff.1 aS).1;omega) (λk e=>by cases e;omega),λk c t f hk _=>by
  have cv:l≠k:=λe=>by subst e;rw[aS] at hk;injection hk with hk;subst hk;cases an
  exact World.putObj_heap_other (Ne.symm cv)⟩
def Ext.iG{h3:Nat}{cH:C_ F_}{W b4:A_}(h:Ext W b4)(aw:h3<=W.heap.size):nx h3 cH W b4:=⟨Below.mono h aw,λk c t f hk _=>h.heap (cq hk)⟩
def as0{α:Type}(iL:A_->A_->Prop)(B:Nat)(da:C_ α->A_->Prop)(rG:fM->C_ α->A_->Prop)(xs:C_ α)(W:A_):fM->Fr->A_->Prop
 | .normal,_,b4=>KeepsFrom B W b4/\iL W b4/\da xs b4
 | .hD _,_,_=>False
 | e,_,b4=>KeepsFrom B W b4/\rG e xs b4
def uX(B:Nat)(W b4:A_):Prop := ∃l,B<=l/\(∃ae,W.heap[l]? = some ae/\ae.isCells=false)/\W.grownBy b4 (some l)
def agG(P:D_)(g:B_)(p:Nat)(a b:e6)(Q:Nat->fM->Fr->A_->Prop)(S:Fr)(w:A_):Prop :=
 ∃(α:Type) (enc:α->B_) (k9:Nat) (hC:Array B_) (iL:A_->A_->Prop) (oO qM:C_ α->Prop) (N:Nat) (w0:A_),g = .func (.func k9) #[] hC/\okF P k9=true/\SeqStopsK Fence.wide 0 P k9 hC (λx=>#[enc x]) iL oO qM N w0/\Ext w0 w/\EL iL w.heap.size /\
 ∃(da:C_ α->A_->Prop) (rG:fM->C_ α->A_->Prop),OwnFrom w.heap.size da/\(∀e,OwnFrom w.heap.size (rG e))/\da [] w /\
  (∀pre x W,da pre W->pre.length<N->dQ P a (wa (λuY iX=>KeepsFrom w.heap.size W iX/\iL W iX/\∀e9,uX w.heap.size iX e9->dQ P b (as0 iL w.heap.size da rG (pre++[x]) e9) uY e9) (λ_ _ _=>False)) (cg S p (enc x)) W) /\
  (∀D xs W,w.heap.size<=D->oO xs->da xs W->W.heap[D]? = some (.deferred (some []))->Q D .normal S W) /\
  (∀D e pre W,e≠.normal->w.heap.size<=D->qM pre->rG e pre W->W.heap[D]? = some (.deferred (some []))->Q D e S W)
def as2{α:Type}{enc:α->B_}{P:D_}{g:G_}{p:Nat}{Aj body:Code}{Q:Exit->Act->A_->Prop}{a:Act}{w w0:A_}{k9:Nat}{hC:Array B_}{iL:A_->A_->Prop}{N:Nat}{oO qM:C_ α->Prop}
  (aG:a.eval g = .func (.func k9) #[] hC)(c9:okF P k9=true)(uk:SeqStopsK Fence.wide 0 P k9 hC (λx=>#[enc x]) iL oO qM N w0)(he:Ext w0 w)(tS:EL iL w.heap.size)
  (da:C_ α->A_->Prop)(rG:Code->C_ α->A_->Prop)(aP:OwnFrom w.heap.size da)(yX:∀c,OwnFrom w.heap.size (rG c))(ad:da [] w)
  (GQ:∀l pre x W,da pre W->pre.length<N->Aj.wpIn (oK (some l)) 1 P (Exit.then (λdb iX=>KeepsFrom w.heap.size W iX/\iL W iX /\
   ∀e9,uX w.heap.size iX e9->body.wpIn (oK (some l)) 1 P (ownPostG w.heap.size iL da rG (pre++[x]) e9) db e9) (λ_ _ _=>False)) { tmps:=a.tmps.setIfInBounds p (enc x),defers:=[] } W)
  (AZ:∀D xs W,w.heap.size<=D->oO xs->da xs W->W.heap[D]? = some (.deferred (some []))->Q .normal { a with defers:={ target:=.collected D,args:=#[] } :: a.defers } W)
  (KO:∀D c pre W,w.heap.size<=D->qM pre->rG c pre W->W.heap[D]? = some (.deferred (some []))->c.wpIn Fence.wide 3 P Q { a with defers:={ target:=.collected D,args:=#[] } :: a.defers } W) :
  (Code.rangeFunc g #[p] Aj body).wpIn Fence.wide 3 P Q a w:=by
 refine wpIn_rangeFunc λfn lG=>?_;obtain⟨pf,vA⟩:∃pf:LoopState->H_ Code->Loop,pf=λst Tx=>{ state:=st,pending:=Tx,fn,tmps:=a.tmps,params:=#[p],assign:=Aj,body,defers:=w.heap.size }:=⟨_,rfl⟩;obtain⟨w1,iF⟩:∃w1,(w.alloc (.deferred (some []))).alloc (.loop (pf .ready none))=w1:=⟨_,rfl⟩;have ab9:w1.heap.size=w.heap.size+2:=by rw[<-iF];simp
 have lg:w1.heap[w.heap.size+1]? = some (.loop (pf .ready none)):=by
  rw[<-iF]
  have:=World.alloc_heap_new (w.alloc (.deferred (some []))) (.loop (pf .ready none))
  rwa[World.size_alloc] at this
 have r0:w1.heap[w.heap.size]? = some (.deferred (some [])):=by rw[<-iF];exact(Below.heap_alloc _ _ _ CC).trans (World.alloc_heap_new w _)
 have Ky:da [] w1:=by rw[<-iF];exact aP.alloc _ (aP.alloc _ ad)
 have cN:Below w0.heap.size w0 w1:=by rw[<-iF];exact(he.alloc _).alloc _
 have low:∀{A B:A_} {row:H_ Nat},(∀r,row=some r->w1.heap.size<=r/\∃ae:Obj,A.heap[r]? = some ae/\ae.isWalk=true)->(∀r,row=some r->w.heap.size<=r/\∃ae:Obj,A.heap[r]? = some ae/\ae.isCells=false) :=
  λaT r e=>by obtain⟨J,ae,aS,hw⟩:=aT r e;exact⟨Aw,ae,aS,Obj.not_cells_of_walk hw⟩
 refine⟨w.heap.size+1,[{ target:=.collected w.heap.size,args:=#[] }],w1,{ target:=.fn (.func k9) hC,args:=#[.func (.yield (w.heap.size+1)) #[] #[]] },w1,k9,
  #[.func (.yield (w.heap.size+1)) #[] #[]]++hC,w1,?_,?_,λ_ _=>trivial,?_,λ_=>BS,?_⟩
 .rw[<-iF,vA];exact run_enterLoop_outer _ _ _ _ _
 .simp only[resolve,aG];simp[go_sem]
 .simp[invoke,go_sem,Ed c9]
 refine CallsIn.mono (Pp (r:=none) (callsIn_wide.1 (uk (w.heap.size+1)
  (λpre W=>da pre W/\W.heap[w.heap.size+1]? = some (.loop (pf .ready none))/\W.heap[w.heap.size]? = some (.deferred (some [])))
  (λpre W => ∃c,rG c pre W/\W.heap[w.heap.size+1]? = some (.loop (pf .done (some c)))/\W.heap[w.heap.size]? = some (.deferred (some [])))
  w1 cN ?_ ?_ ?_ ⟨Ky,lg,r0⟩))) ?_
 .exact λs A B row aj r4 aT=>⟨aP s A B row aj.1 r4 (low (B:=B) aT),(grownBy_keeps r4 (λr e=>(aT r e).2) aj.2.1 rfl).trans aj.2.1,(grownBy_keeps r4 (λr e=>(aT r e).2) aj.2.2 rfl).trans aj.2.2⟩
 .intro s A B row aj r4 aT;obtain⟨c,an,J,ab⟩:=aj;exact⟨c,yX c s A B row an r4 (low (B:=B) aT),(grownBy_keeps r4 (λr e=>(aT r e).2) J rfl).trans J,(grownBy_keeps r4 (λr e=>(aT r e).2) ab rfl).trans ab⟩
 .rintro pre x W ⟨U,J,ab⟩ hlen;have bF:=run_yield (P:=P) (args:=#[enc x]) J (by rw[vA];rfl);rw[vA] at bF;refine⟨fn,_,Aj,body,bF,aeJ (r:=none) (m:=0 - 1) ?_⟩;refine(roundIn_of_wpIn (F:=Fence.wide) (n:=1) (l:=w.heap.size+1) lG ?_) |> λh=>⟨trivial,λc cs _=>h.2 c cs (room_wide _)⟩
  have bB:(#[p]:Array Tmp).zip #[enc x]=#[(p,enc x)]:=by apply Array.ext';simp[Array.toList_zip]
  have alV:=GQ (w.heap.size+1) pre x W U hlen;simp only[bB];refine wpIn_mono alV λe db iX h=>?_;cases e with
  | normal =>
   obtain⟨cM,cW,fr⟩:=h;have cR:=cM.same _ _ Aw J rfl;have d1:=cM.same _ _ (E1 _) ab rfl;refine⟨_,run_beginRound cR (by rw[vA]),?_⟩;have cu:=(Array.getElem?_eq_some_iff.1 cR).1;have cA:(iX.putObj (w.heap.size+1) (.loop { pf .ready none with state:=.busy })).heap[w.heap.size+1]? = some (.loop { pf .ready none with state:=.busy }):=World.putObj_heap_same cu;have d2:(iX.putObj (w.heap.size+1) (.loop { pf .ready none with state:=.busy })).heap[w.heap.size]? = some (.deferred (some [])):=(World.putObj_heap_other Aw).trans d1;have bP:iL iX (iX.putObj (w.heap.size+1) (.loop { pf .ready none with state:=.busy })):=tS.put _ _ _ _ Aw cR rfl;refine wpIn_mono (fr _ ⟨_,Aw,⟨_,cR,rfl⟩,grownBy_putObj' _ _ _⟩) λe a3 oQ au=>?_;have fin:∀(jump:H_ Code),KeepsFrom w.heap.size (iX.putObj (w.heap.size+1) (.loop { pf .ready none with state:=.busy })) oQ ->
     (Instr.endRound (w.heap.size+1) jump).run P oQ = .ok (.bool jump.isNone) (oQ.putObj (w.heap.size+1) (.loop (pf (if jump.isNone then .ready else .done) jump))) /\
     oQ.heap[w.heap.size+1]? = some (.loop { pf .ready none with state:=.busy }) /\
     (oQ.putObj (w.heap.size+1) (.loop (pf (if jump.isNone then .ready else .done) jump))).heap[w.heap.size+1]? = some (.loop (pf (if jump.isNone then .ready else .done) jump)) /\
     (oQ.putObj (w.heap.size+1) (.loop (pf (if jump.isNone then .ready else .done) jump))).heap[w.heap.size]? = some (.deferred (some [])):=λjump hN=>by
    have eN:=hN.same _ _ Aw cA rfl
    have:=run_endRound (P:=P) jump eN
    rw[vA] at this ⊢;exact⟨this,by rw[vA] at eN;exact eN,World.putObj_heap_same (Array.getElem?_eq_some_iff.1 eN).1,(World.putObj_heap_other Aw).trans (hN.same _ _ (E1 _) d2 rfl)⟩
   cases e with
   | normal =>
    obtain⟨c7,dE,ed⟩:=au;obtain⟨f1,f2,f3,f4⟩:=fin none c7;exact⟨_,_,f1,.inl ⟨rfl,⟨aP.putObj _ ed Aw f2 rfl,f3,f4⟩,tS.trans (tS.trans (tS.trans cW bP) dE) (tS.put _ _ _ _ Aw f2 rfl)⟩⟩
   | ret =>
    obtain⟨c7,ed⟩:=au;obtain⟨f1,f2,f3,f4⟩:=fin (some .ret) c7;exact⟨_,_,f1,.inr ⟨rfl,.ret,(yX _).putObj _ ed Aw f2 rfl,f3,f4⟩⟩
   | exit id =>
    obtain⟨c7,ed⟩:=au;obtain⟨f1,f2,f3,f4⟩:=fin (some (.exit id)) c7;exact⟨_,_,f1,.inr ⟨rfl,.exit id,(yX _).putObj _ ed Aw f2 rfl,f3,f4⟩⟩
   | goto t =>
    obtain⟨c7,ed⟩:=au;obtain⟨f1,f2,f3,f4⟩:=fin (some (.goto t)) c7;exact⟨_,_,f1,.inr ⟨rfl,.goto t,(yX _).putObj _ ed Aw f2 rfl,f3,f4⟩⟩
   | _=>exact au.elim
  | _=>exact h.elim
 .rintro e e9 ⟨⟨v,rfl⟩,(⟨xs,b7,U,J,ab⟩ | ⟨pre,alJ,c,U,J,ab⟩)⟩
  .exact⟨none,_,by have:=run_endLoop (P:=P) J (by rw[vA];simp);rw[vA] at this;exact this,AZ _ xs _ (E1 _) b7 (aP.putObj _ U Aw J rfl) ((World.putObj_heap_other Aw).trans ab)⟩
  .exact⟨some c,_,by have:=run_endLoop (P:=P) J (by rw[vA];simp);rw[vA] at this;exact this,KO _ c pre _ (E1 _) alJ ((yX c).putObj _ U Aw J rfl) ((World.putObj_heap_other Aw).trans ab)⟩
def pq(P:D_):tt->(H_ Nat->fM->Fr->A_->Prop)->Fr->A_->Prop
 | .uI g p a b,Q,S,w=>agG P (bu S g) p a b (λD=>Q (some D)) S w
 | .uK x y,Q,S,w=>pq P x (λae=>wa (λS w=>dQ P y (Q ae) S w) (Q ae)) S w
 | .jj x y,Q,S,w=>dQ P x (wa (λS w=>pq P y Q S w) (Q none)) S w
 | .cy id x,Q,S,w=>pq P x (λae=>Cz id (Q ae)) S w
def marks:H_ Nat->C_ Deferred
 | none=>[]
 | some D=>[{ target:=.collected D,args:=#[] }]
def ade(n:Nat)(Q:H_ Nat->fM->Fr->A_->Prop):Exit->Act->A_->Prop
 | .normal,a,w => ∃ae S,Fits (marks ae) a S n/\Q ae .normal S w
 | .exit i,a,w => ∃ae S,Fits (marks ae) a S n/\Q ae (.exit i) S w
 | .ret,a,w => ∃ae S,Fits (marks ae) a S n/\Q ae .ret S w
 | .panic c,a,w => ∃ae S,Fits (marks ae) a S n/\Q ae (.hD c) S w
 | _,_,_=>False
theorem apH{n:Nat}{Q:H_ Nat->fM->Fr->A_->Prop}{ae:H_ Nat}{e:Exit}{a:Act}{w:A_}(h:Lf (marks ae) n (Q ae) e a w):ade n Q e a w:=by
 cases e with
 | normal=>obtain⟨S,h1,J⟩:=h;exact⟨ae,S,h1,J⟩
 | exit i=>obtain⟨S,h1,J⟩:=h;exact⟨ae,S,h1,J⟩
 | ret=>obtain⟨S,h1,J⟩:=h;exact⟨ae,S,h1,J⟩
 | panic c=>obtain⟨S,h1,J⟩:=h;exact⟨ae,S,h1,J⟩
 | _=>exact h.elim
theorem Nu{P:D_}(hm:P.follows .mixedOrders=true){n:Nat}:∀(c:Code) (rc:tt),ob P n c=some rc->∀(Q:H_ Nat->fM->Fr->A_->Prop) (a:Act) (S:Fr) (w:A_),Fits [] a S n->pq P rc Q S w->c.wpIn Fence.wide 3 P (ade n Q) a w
 | .rangeFunc g dA Aj b,rc,h,Q,a,S,w,ax,aH=>by
  simp only[ob] at h;split at h
  .rename_i p qp hC ug aY ak;split at h
   .rename_i au;injection h with h;subst h
    obtain⟨α,enc,k9,axQ,iL,oO,qM,N,w0,aG,c9,uk,he,tS,da,rG,aP,yX,ad,al2,AZ,KO⟩:=aH;have an6:dA=#[p]:=by rw[<-AG9 (xs:=dA),ug]
    subst an6;refine as2 (by rw[ax.eval];exact aG) c9 uk he tS da (λc=>match c with | .ret=>rG .ret | .exit id=>rG (.exit id) | _=>λ_ _=>False) aP ?_ ad ?_ ?_ ?_
    .intro c;split
     .exact yX _
     .exact yX _
     .exact λs W b4 row h _ _=>h.elim
    .intro l pre x W U aE;have za:Fits [] ({ tmps:=a.tmps.setIfInBounds p (enc x),defers:=[] }:Act) (cg S p (enc x)) n:=by
      refine⟨rfl,by simp[ax.2.1],λt=>?_⟩
      have:=ax.2.2 t
      simp only[cg];by_cases aB:t=p
      .subst aB;simp[ax.2.1,au]
      .have J:(a.tmps.setIfInBounds p (enc x))[t]? = a.tmps[t]? := Array.getElem?_setIfInBounds_ne (Ne.symm aB);rw[if_neg aB,<-this];simp[Array.getD_eq_getD_getElem?,J]
     refine wpIn_mono (sound (ds:=[]) (r:=some l) hm Aj qp aY _ _ _ W za (al2 pre x W U aE)) λe cx b4 av=>?_;cases e with
     | normal =>
      obtain⟨aZ,eS,h1,J,ab⟩:=av;refine⟨h1,J,λe9 aF=>?_⟩;refine wpIn_mono (sound (ds:=[]) (r:=some l) hm b hC ak _ _ _ e9 eS (ab e9 aF)) λe a2 oQ av=>?_;cases e with
      | normal=>obtain⟨aZ,_,h1,J,ab⟩:=av;exact⟨h1,J,ab⟩
      | ret=>obtain⟨aZ,_,h1,J⟩:=av;exact⟨h1,J⟩
      | exit id=>obtain⟨aZ,_,h1,J⟩:=av;exact⟨h1,J⟩
      | panic c=>obtain⟨aZ,_,h1⟩:=av;exact h1.elim
      | _=>exact av.elim
     | ret=>obtain⟨aZ,_,h1⟩:=av;exact h1.elim
     | exit id=>obtain⟨aZ,_,h1⟩:=av;exact h1.elim
     | panic c=>obtain⟨aZ,_,h1⟩:=av;exact h1.elim
     | _=>exact av.elim
    .intro D xs W gv b7 U bb;exact⟨some D,S,⟨by rw[ax.1];rfl,ax.2⟩,AZ D xs W gv b7 U bb⟩
    .intro D c pre W gv b7 U bb;have aa7:Fits (marks (some D)) { a with defers:={ target:=.collected D,args:=#[] } :: a.defers } S n:=⟨by rw[ax.1];rfl,ax.2⟩;split at U
     .exact wpIn_ret ⟨some D,S,aa7,KO D .ret pre W CC gv b7 U bb⟩
     .exact wpIn_exit ⟨some D,S,aa7,KO D (.exit _) pre W CC gv b7 U bb⟩
     .exact U.elim
   .cases h
  .cases h
 | .seq x y,rc,h,Q,a,S,w,ax,aH=>by
  simp only[ob] at h;split at h
  .rename_i xK ah;obtain⟨ae1,bF,rfl⟩:=Option.map_eq_some_iff.1 h;refine wpIn_seq (wpIn_mono (sound (ds:=[]) (r:=none) (m:=3) hm x xK ah _ a S w ax aH) λe cx w' av=>?_);cases e with
   | normal=>obtain⟨aZ,eS,av⟩:=av;exact Nu hm y ae1 bF Q cx aZ w' eS av
   | exit i=>obtain⟨aZ,eS,av⟩:=av;exact⟨none,aZ,eS,av⟩
   | ret=>obtain⟨aZ,eS,av⟩:=av;exact⟨none,aZ,eS,av⟩
   | panic c=>obtain⟨aZ,eS,av⟩:=av;exact⟨none,aZ,eS,av⟩
   | _=>exact av.elim
  .split at h
   .rename_i rx xL ah bF;injection h with h;subst h
    refine wpIn_seq (wpIn_mono (Nu hm x rx ah _ a S w ax aH) λe cx w' av=>?_);cases e with
    | normal =>
     obtain⟨ae,aZ,eS,av⟩:=av;exact wpIn_mono (sound (ds:=marks ae) (r:=none) (m:=3) hm y xL bF (Q ae) cx aZ w' eS av) λe XS bO h=>apH h
    | exit i=>obtain⟨ae,aZ,eS,av⟩:=av;exact⟨ae,aZ,eS,av⟩
    | ret=>obtain⟨ae,aZ,eS,av⟩:=av;exact⟨ae,aZ,eS,av⟩
    | panic c=>obtain⟨ae,aZ,eS,av⟩:=av;exact⟨ae,aZ,eS,av⟩
    | _=>exact av.elim
   .cases h
 | .block id b,rc,h,Q,a,S,w,ax,aH=>by
  simp only[ob] at h;obtain⟨HF,ak,rfl⟩:=Option.map_eq_some_iff.1 h;refine wpIn_block (wpIn_mono (Nu hm b HF ak _ a S w ax aH) λe cx w' av=>?_);cases e with
  | normal=>obtain⟨ae,aZ,eS,av⟩:=av;exact⟨ae,aZ,eS,av⟩
  | ret=>obtain⟨ae,aZ,eS,av⟩:=av;exact⟨ae,aZ,eS,av⟩
  | panic c=>obtain⟨ae,aZ,eS,av⟩:=av;exact⟨ae,aZ,eS,av⟩
  | exit i =>
   obtain⟨ae,aZ,eS,av⟩:=av;simp only[Cz] at av;simp only[Exit.inBlock];split at av
   .rename_i U;rw[if_pos U];exact⟨ae,aZ,eS,av⟩
   .rename_i U;rw[if_neg U];exact⟨ae,aZ,eS,av⟩
  | _=>exact av.elim
 | .skip,rc,h,_,_,_,_,_,_=>by simp[ob] at h
 | .region _ _ _,rc,h,_,_,_,_,_,_=>by simp[ob] at h
 | .cond _ _ _,rc,h,_,_,_,_,_,_=>by simp[ob] at h
 | .loop _,rc,h,_,_,_,_,_,_=>by simp[ob] at h
 | .exit _,rc,h,_,_,_,_,_,_=>by simp[ob] at h
 | .ret,rc,h,_,_,_,_,_,_=>by simp[ob] at h
 | .scope _,rc,h,_,_,_,_,_,_=>by simp[ob] at h
 | .label _,rc,h,_,_,_,_,_,_=>by simp[ob] at h
 | .goto _,rc,h,_,_,_,_,_,_=>by simp[ob] at h
 | .refuse _,rc,h,_,_,_,_,_,_=>by simp[ob] at h
def FC(res:C_ nz)(R:B_->A_->Prop):H_ Nat->fM->Fr->A_->Prop
 | none,e,S,w=>FA res R e S w
 | some D,.normal,S,w=>w.heap[D]? = some (.deferred (some []))/\qy res S (fJ w D (.deferred none)) λvs=>R (jJ vs) (fJ w D (.deferred none))
 | some D,.ret,S,w=>w.heap[D]? = some (.deferred (some []))/\qy res S (fJ w D (.deferred none)) λvs=>R (jJ vs) (fJ w D (.deferred none))
 | some _,.exit _,_,_=>False
 | some _,.hD _,_,_=>False
def atc{P:D_}{D:Nat}{w:A_}(h:w.heap[D]? = some (.deferred (some []))):(Instr.takeDeferred D).run P w = .ok [] (fJ w D (.deferred none)):=by
 simp[Instr.takeDeferred,Sem.run_bind,getObj,setObj,Sem.run,h,Result.andThen,fJ]
def ajx{P:D_}{f:E_}{L:Ab}(hm:P.follows .mixedOrders=true)(an:Au P f=some L){args:C_ B_}{w:A_}{R:B_->A_->Prop}(aY:args.length<=L.n)
  (h:pq P L.code (FC L.res R) (jb args 0) w):aW P f args.toArray w R:=by
 unfold Au at an;split at an
 .rename_i fn lG;split at an
  .rename_i c ak;split at an
   .rename_i lc r h1 J;injection an with an;subst an
    refine(callsIn_wide (n:=3)).1 (callsIn_of_wp_marks (F:=Fence.wide) lG ak trivial (wpIn_mono (Nu hm c lc h1 _ _ (jb args 0) w ?_ h) ?_))
    .refine⟨rfl,?_,λt=>?_⟩
     .have:=aY;simp only at this;simp;omega
     .rw[JM];simp only[Nat.zero_le,if_true,Nat.sub_zero];by_cases aB:t<args.length
      .simp[Array.getD_eq_getD_getElem?,Array.getElem?_append,aB]
      .simp only[Array.getD_eq_getD_getElem?,Array.getElem?_append,List.size_toArray,if_neg aB,List.getElem?_eq_none (Nat.le_of_not_lt aB),Option.getD_none];rw[Array.getElem?_replicate];split<;>rfl
    .have fin:∀(ae:H_ Nat) (S:Fr) (cx:Act) (w':A_),Fits (marks ae) cx S fn.ntmps->(FC r R ae .normal S w')->LeavesInM Fence.wide 3 P fn cx.tmps (λe w' => ∃v,e = .returned v/\R v w') cx.defers .returning w':=by
      intro ae S cx w' ax av;rw[ax.1];cases ae with
      | none =>
       obtain⟨vs,ab,aF⟩:=th ax _ _ _ J av;exact⟨_,xX ab,_,rfl,aF⟩
      | some D =>
       obtain⟨bb,av⟩:=av;obtain⟨vs,ab,aF⟩:=th ax _ _ _ J av;exact⟨CC,.inl ⟨D,_,rfl,atc bb,⟨_,xX ab,_,rfl,aF⟩⟩⟩
     intro e cx w' av;cases e with
     | normal=>obtain⟨ae,S,ax,av⟩:=av;exact fin ae S cx w' ax av
     | ret =>
      obtain⟨ae,S,ax,av⟩:=av;refine fin ae S cx w' ax ?_;cases ae<;>exact av
     | exit i=>obtain⟨ae,S,ax,av⟩:=av;cases ae<;>exact av.elim
     | panic c=>obtain⟨ae,S,ax,av⟩:=av;cases ae<;>exact av.elim
     | _=>exact av.elim
   .cases an
  .cases an
 .cases an
end ba
namespace ba
open Go Go.RowKit
section
variable{P:Program}{S:Fr}{w:World}
def gL.start{f:E_}{L:Ab}(hm:P.follows .mixedOrders=true)(an:Au P f=some L){args:C_ B_}{w:A_}{R:B_->A_->Prop}(aY:args.length<=L.n)(h:pq P L.code (FC L.res R) (jb args 0) w):aW P f args.toArray w R:=ajx hm an aY h
def gL.jj{x:e6}{y:tt}{Q:H_ Nat->fM->Fr->A_->Prop}(h:e5 P x (jI (λS w=>pq P y Q S w) (Q none) ⟨⟩) S w ⟨⟩):pq P (.jj x y) Q S w:=by unfold e5 jI at h;exact h
def gL.uK{x:tt}{y:e6}{Q:H_ Nat->fM->Fr->A_->Prop}(h:pq P x (λae=>jI (λS w=>e5 P y (Q ae) S w ⟨⟩) (Q ae) ⟨⟩) S w):pq P (.uK x y) Q S w:=by unfold e5 jI at h;exact h
def gL.cy{id:Nat}{x:tt}{Q:H_ Nat->fM->Fr->A_->Prop}(h:pq P x (λae=>yB id (Q ae) ⟨⟩) S w):pq P (.cy id x) Q S w:=by unfold yB at h;exact h
def gL.ret{res:C_ nz}{R:B_->A_->Prop}{D:Nat}(bb:w.heap[D]? = some (.deferred (some [])))(h:oE res S (fJ w D (.deferred none)) (λvs=>R (jJ vs) (fJ w D (.deferred none))) ⟨⟩):FC res R (some D) .ret S w:=by
 unfold oE at h;exact⟨bb,h⟩
def gL.Fz{res:C_ nz}{R:B_->A_->Prop}{e:fM}(h:tO res R ⟨⟩ e S w):FC res R none e S w:=by
 unfold tO at h;exact h
theorem gL.uI{α:Type}{enc:α->B_}{g:G_}{p:Nat}{a b:e6}{Q:H_ Nat->fM->Fr->A_->Prop}{k9:Nat}{hC:Array B_}{iL:A_->A_->Prop}{oO qM:C_ α->Prop}{N:Nat}{w0:A_}
  (aG:bu S g = .func (.func k9) #[] hC)(c9:okF P k9=true)(uk:SeqStopsK Fence.wide 0 P k9 hC (λx=>#[enc x]) iL oO qM N w0)(he:Ext w0 w)(tS:EL iL w.heap.size)
  (da:C_ α->A_->Prop)(aP:OwnFrom w.heap.size da)(ad:da [] w)
  (GQ:∀pre x W,da pre W->pre.length<N->e5 P a (jI (λuY iX=>KeepsFrom w.heap.size W iX/\iL W iX/\∀e9,uX w.heap.size iX e9 ->
   e5 P b (jI (λ_ b4=>KeepsFrom w.heap.size e9 b4/\iL e9 b4/\da (pre++[x]) b4) (λ_ _ _=>False) ⟨⟩) uY e9 ⟨⟩) (λ_ _ _=>False) ⟨⟩) (cg S p (enc x)) W ⟨⟩)
  (AZ:∀D xs W,w.heap.size<=D->oO xs->da xs W->W.heap[D]? = some (.deferred (some []))->Q (some D) .normal S W):pq P (.uI g p a b) Q S w:=by
 refine⟨α,enc,k9,hC,iL,oO,qM,N,w0,aG,c9,uk,he,tS,da,λ_ _ _=>False,aP,λ_ _ _ _ _ h _ _=>h.elim,ad,λpre x W U aE=>?_,AZ,λD e pre W _ _ _ h _=>h.elim⟩;have h:=GQ pre x W U aE;unfold e5 jI at h;refine qF a _ _ _ W (λe uY iX _ h1=>?_) h;cases e with
 | normal =>
  obtain⟨cM,cW,fr⟩:=h1;refine⟨cM,cW,λe9 aT=>?_⟩;have J:=fr e9 aT;refine qF b _ _ _ e9 (λe j3 oQ _ ab=>?_) J;cases e with
  | normal=>exact ab
  | exit _=>exact ab.elim
  | ret=>exact ab.elim
  | hD _=>exact ab.elim
 | exit _=>exact h1.elim
 | ret=>exact h1.elim
 | hD _=>exact h1.elim
theorem uX.cells{B:Nat}{W b4:A_}(h:uX B W b4){k:Nat}{c:Array B_}{t:F_}{f:Nat×Nat}(hk:W.heap[k]? = some (.cells c t f)):b4.heap[k]? = some (.cells c t f):=by
 obtain⟨l,aE,⟨ae,aS,an⟩,aG⟩:=h;rw[aG.block k (cq hk) λe=>by injection e with e;subst e;rw[aS] at hk;injection hk with hk;subst hk;cases an];exact hk
def uX.mod{B:Nat}{W b4:A_}(h:uX B W b4):∃l,B<=l/\(∀c t f,W.heap[l]? ≠ some (.cells c t f))/\Mod (λk=>k=l) W b4:=by
 obtain⟨l,aE,⟨ae,aS,an⟩,aG⟩:=h;exact⟨l,aE,(λc t f e=>by rw[aS] at e;injection e with e;subst e;cases an),Mod.grown aG λk e=>by injection e with e;exact e.symm⟩
theorem uX.ext{B:Nat}{w W b4:A_}(h:uX B W b4)(he:Ext w W)(gP:w.heap.size<=B):Ext w b4:=by
 obtain⟨l,aE,_,hm⟩:=h.mod;exact hm.ext he λk hk e=>Aw
def Ext.keeps{W b4:A_}(h:Ext W b4)(B:Nat):KeepsFrom B W b4:=⟨h.size,λk ae _ hk _=>h.obj hk⟩
def Mod.keeps{A:Nat->Prop}{B:Nat}{W b4:A_}(h:Mod A W b4)(dd:∀k,B<=k->A k->∃c t f,W.heap[k]? = some (.cells c t f)):KeepsFrom B W b4 :=
 ⟨h.size,λk ae gP hk an=>h.obj (λa=>by obtain⟨c,t,f,e⟩:=dd k gP a;rw[hk] at e;injection e with e;subst e;cases an) hk⟩
def Mod.iG{A:Nat->Prop}{h3:Nat}{cH:C_ F_}{W b4:A_}(h:Mod A W b4)(aw:h3<=W.heap.size)(ad:∀k,k<h3->¬A k)(dd:∀k c t f,A k->W.heap[k]? = some (.cells c t f)->t∉cH):nx h3 cH W b4 :=
 ⟨⟨h.os,h.tape,h.output,h.size,λk hk=>h.block k Aw (ad k hk)⟩,λk c t f hk aB=>h.block k (cq hk) λa=>dd k c t f a hk aB⟩
def Mod.high{A:Nat->Prop}{w W b4:A_}{row:H_ Nat}(h:Mod A w W)(aG:W.grownBy b4 row)(aT:∀r,row=some r->w.heap.size<=r):Mod A w b4 :=
 h.comp (Mod.grown (A:=λk=>row=some k) aG λk e=>e) (λ_ _ a=>a) λi U e=>by have:=aT i e;omega
def fb(aV:Nat)(bs:C_ Nat)(cH:C_ F_)(W b4:A_):Prop:=Mod (λk=>k∈bs\/(aV<=k/\∃c t f,t∈cH/\W.heap[k]? = some (.cells c t f))) W b4
def Ext.CG{aV:Nat}{bs:C_ Nat}{cH:C_ F_}{W b4:A_}(h:Ext W b4):fb aV bs cH W b4:=h.mod
def fb.trans{aV:Nat}{bs:C_ Nat}{cH:C_ F_}{a b c:A_}(h:fb aV bs cH a b)(k:fb aV bs cH b c):fb aV bs cH a c :=
 ⟨k.os.trans h.os,k.tape.trans h.tape,k.output.trans h.output,Ns h.size k.size,λi U aw=>by
  have e:=h.block i U aw;refine(k.block i (AH5 U h.size) λa=>aw ?_).trans e;rcases a with a | ⟨db,c,t,f,a2,a3⟩
  .exact .inl a
  .exact .inr ⟨db,c,t,f,a2,by rw[<-e];exact a3⟩⟩
def dw.CG{aV b:Nat}{bs:C_ Nat}{cH:C_ F_}{W b4:A_}(h:dw b W b4)(ak:b∈bs):fb aV bs cH W b4:=(h.mod (A:=λk=>k=b) rfl).B1 λk e=>.inl (e ▸ ak)
def fb.grown{α:Type}{enc:α->C_ B_}{sz aV:Nat}{e:F_}{bs:C_ Nat}{cH:C_ F_}{W b4:A_}{v:B_}{xs:C_ α}(aS:aK enc e sz aV W v xs)(aG:W.grownBy b4 v.ownBlock)(he:e∈cH):fb aV bs cH W b4 :=
 (Mod.grown (A:=λk=>v.ownBlock=some k) aG λk e=>e).B1 λk hk=>by
  obtain⟨cur,h⟩:=aS.cy k hk;exact .inr ⟨(aS.lt k hk).1,_,_,_,he,h⟩
def fb.keeps{aV B:Nat}{bs:C_ Nat}{cH:C_ F_}{W b4:A_}(h:fb aV bs cH W b4)(gP:∀b∈bs,b<B):KeepsFrom B W b4 :=
 Mod.keeps h λk hk a=>by
  rcases a with a | ⟨_,c,t,f,_,a⟩
  .have:=gP k a;omega
  .exact⟨c,t,f,a⟩
def fb.iG{aV h3:Nat}{bs:C_ Nat}{cH oF:C_ F_}{W b4:A_}(h:fb aV bs cH W b4)(aw:h3<=W.heap.size)(ad:h3<=aV)(ak:∀b∈bs,h3<=b/\∀c t f,W.heap[b]? = some (.cells c t f)->t∉oF)(aB:∀t∈cH,t∉oF):nx h3 oF W b4 :=
 Mod.iG h aw (λk hk a=>by
  rcases a with a | ⟨a,_⟩
  .have:=(ak k a).1;omega
  .omega) λk c t f a hk=>by
  rcases a with a | ⟨_,iY,h5,ve,db,a2⟩
  .exact(ak k a).2 c t f hk
  .rw[hk] at a2;injection a2 with a2;injection a2 with _ a2;subst a2;exact aB _ db
theorem fb.from{bs:C_ Nat}{cH:C_ F_}{w W b4:A_}(h:Mod (λk=>k∈bs) w W)(c:fb w.heap.size bs cH W b4):Mod (λk=>k∈bs) w b4 :=
 h.comp c (λ_ _ a=>a) λk hk a=>by
  rcases a with a | ⟨a,_⟩
  .exact a
  .omega
theorem fb.obj{aV:Nat}{bs:C_ Nat}{cH:C_ F_}{W b4:A_}(h:fb aV bs cH W b4){k:Nat}{c:Array B_}{t:F_}{f:Nat×Nat}(hk:W.heap[k]? = some (.cells c t f))(ak:k∉bs)(aB:t∉cH):b4.heap[k]? = some (.cells c t f):=by
 rw[Mod.block h k (cq hk) λa=>?_]
 .exact hk
 .rcases a with a | ⟨_,iY,h5,ve,db,a2⟩
  .exact ak a
  .rw[hk] at a2;injection a2 with a2;injection a2 with _ a2;subst a2;exact aB db
end
end ba
namespace Go.Proofs.R
open Go ba Go.Proofs
def D.d:Ab:=⟨37,[.tmp 2], (.jj (.dB [du 1 (.box T.f (aQ 0)),fK 2 (.const iT)]) (.jj (.dB [du 3 (.new T.g iT)]) (.jj (.dB [cS 8 (.ib [dR,dR] [(0,1),(1,1)] [(0,(cE (-1)))]),du 4 (.new T.a dR),du 5 (.new T.d (.agg #[dR,dR])),hG (.st (aQ 4) (cE (-1))),qG 2 5 8]) (.uK (.jj (.dB [iu 9 5 1,oG 10 F.pE [9]]) (.cy 0 (.uI (aQ 10) 11 (.dB [du 6 (.new T.d (.agg #[dR,dR])),qG 2 6 11]) (.cy 1 (.seq (cT [iu 12 2 6,iu 13 2 5,iU .neq T.d 14 12 13] (kr 14 (.dB [eJ 15 4,ks .add T.a 16 15 1,ys 4 16]) .skip)) (cT [iu 17 2 6,qG 2 5 17] (cT [fu 18 3 1,eJ 19 18,fu 20 0 6,eJ 21 20,iw 22 5 19 21,fu 23 4 22,eJ 24 23,mg 25 24,fK 26 (cE 0)] (.cy 2 (.loop (cT [iU .lss T.a 27 26 25] (wg 27 2
 (.seq (.cy 3 (cT [aU 28 26,aU 7 28] (.dB [eJ 29 3,eJ 30 4,aU 31 7,cS 32 (.ib [dR,dR] [(0,1),(1,1)] [(0,(aQ 30)),(1,(aQ 31))]),du 33 (.ku T.c 1 2 [dR,dR] [(0,(aQ 32))]),du 34 (.app T.g T.c 2 16 (aQ 29) (aQ 33)),ys 3 34]))) (we T.a 35 26))))))))))))) (cT [eJ 36 3,aU 2 36] .ret)))))⟩
theorem EI.d:Au Tryz.prog F.d=some D.d:=Cx
def D.bP:Ab:=⟨78,[.cell 6], (.jj (.dB [du 3 (.box T.f (aQ 0)),du 4 (.box T.a (aQ 1)),du 6 (.new T.k (.bool false))]) (.jj (cT [iu 14 5 3,oG 15 F.iN [14],cS 16 (.lB 0 (aQ 15)),ks .neq T.a5 17 16 0] (kr 17 (cT [hG (.st (aQ 6) (kI false))] .ret) .skip)) (.jj (.rz (yc (iu 18 5 3) (yc (iu 20 5 3) (.alt (oG 19 F.c [18]) (.fi (oG 21 F.d [20]) (.alt (du 8 (.new T.g iT)) (yc (aU 7 19) (.fi (ys 8 21) .done .nil)) .nil) (.alt (du 8 (.new T.g iT)) (.fi (oG 21 F.d [20]) (yc (aU 7 19) (.fi (ys 8 21) .done .nil)) .nil) .nil)) (.alt (du 8 (.new T.g iT)) (.alt (oG 19 F.c [18]) (.fi (oG 21 F.d [20]) (yc (aU 7 19) (.fi (ys 8 21) .done .nil)) .nil) .nil) .nil))))) (.jj (.seq (.sL [eJ 22 4,ks .lss T.a 23 22 0,aU 24 23,mf 24 (eJ 25 4),mf 24 (aU 26 7),mf 24 (mg 27 26),mf 24 (iU .geq T.a 28 25 27),pv 29 24 28,aU 30 29,mf 30 (aU 31 2),mf 30 (ks .lss T.a 32 31 0),pv 33 30 32,aU 34 33,mf 34 (aU 35 2),mf 34 (fu 36 3 3),mf 34 (eJ 37 36),mf 34 (aU 38 7),mf 34 (eJ 39 4),mf 34 (iw 40 2 38 39),mf 34 (fu 41 0 40),mf 34 (eJ 42 41),mf 34 (iw 43 5 37 42),mf 34 (fu 44 2 43),mf 34 (eJ 45 44),mf 34 (iU .geq T.a 46 35 45),pv 47 34 46]) (kr 47 (cT [hG (.st (aQ 6) (kI false))] .ret) .skip)) (.jj (.dB [iu 48 5 3,oG 49 F.yx [48],du 9 (.new T.sC iT),ys 9 49]) (.uK (.jj (.dB [iu 50 5 3,eJ 51 4,aU 52 2,oG 53 F.yy [50,51,52]]) (.cy 0 (.uI (aQ 53) 54 (.dB [aU 10 54]) (.cy 1 (cT [cS 55 (.xN F.s [] [(aQ 4)]),aU 11 55] (cT [eJ 56 8,mg 57 56,fK 58 (cE 0)] (.cy 2 (.loop (cT [iU .lss T.a 59 58 57] (wg 59 2
 (.seq (.cy 3 (cT [aU 60 58,iw 61 2 56 58,iu 62 2 61,du 13 (.new T.c (.agg #[dR,dR])),aU 12 60,qG 2 13 62] (.seq (.sL [aU 63 11,iu 64 2 13,iv 65 (.val (aQ 63) [(aQ 64)]),aU 66 65,sq 66 (eJ 67 9),sq 66 (aU 68 10),sq 66 (iw 69 2 67 68),sq 66 (iu 70 2 69),sq 66 (eJ 71 9),sq 66 (aU 72 12),sq 66 (iw 73 2 71 72),sq 66 (iu 74 2 73),sq 66 (oG 75 F.a0 [70,74]),yd 76 66 75]) (kr 76 (cT [hG (.st (aQ 6) (kI false))] .ret) .skip)))) (we T.a 77 58)))))))))))) (cT [hG (.st (aQ 6) (kI true))] .ret)))))))⟩
theorem EI.bP:Au Tryz.prog F.bP=some D.bP:=Cx
def D.g5:Ab:=⟨13,[.tmp 4], (.jj (.dB [du 2 (.box T.p (aQ 0)),fK 4 (.const iT)]) (.uK (.jj (.dB [aU 6 1]) (.cy 0 (.uI (aQ 6) 7 (.dB [du 5 (.new T.d (.agg #[dR,dR])),qG 2 5 7]) (.cy 1 (.dB [eJ 8 2,iu 9 2 5,du 10 (.ku T.d 1 2 [dR,dR] [(0,(aQ 9))]),du 11 (.app T.p T.d 2 16 (aQ 8) (aQ 10)),ys 2 11]))))) (cT [eJ 12 2,aU 4 12] .ret)))⟩
theorem EI.g5:Au Tryz.prog F.g5=some D.g5:=Cx
end Go.Proofs.R
namespace o
open Go Go.RowKit ba
def YN(x:cP):sK afe x.enc:=⟨⟨_,rfl⟩,⟨_,rfl⟩,trivial⟩
def aoO(x y:cP)(h:x.enc=y.enc):x=y:=by cases x;cases y;simpa[cP.enc] using h
abbrev yw(m:Model):={x:cP // x.of m}
end o
namespace ba
open Go Go.RowKit
def Ext.ZU{w w':A_}(h:Ext w w'):w.grownBy w' none:=⟨h.os,h.tape,h.output,h.size,λk hk _=>h.heap hk⟩
end ba
namespace Go.Proofs.R
open Go Go.RowKit ba o
def ajm(cs:C_ B_)(m:o.Model)(p:dv)(bY dQ:B_)(w:A_)(h:dh w cs m) :
  Ei F.Js #[.agg cs.toArray,.agg (p.enc bY dQ).toArray] w λv w'=>v = .I (o.elems m p)/\Ext w w':=by
 obtain⟨bZ,bz,bN,c1,bT,c2,bW,bw,b1,bD,rfl,ad,h1,J,ab,aF,eB,dD,dO,dU,eg⟩:=h.form;refine bk E.Js ?_;refine aa ?_;intro w1 bx cN af al;refine aa ?_;intro az bP c8 ai ao;have df:∀{w'},Ext az w'->Ext w w':=λe=>(af.trans ai).trans e;refine aa ?_;rw[o.elems];apply I_<;>intro g1
 .refine aa ?_;rw[hc (.inl Aw)];exact⟨aJ,df (Ext.refl _)⟩
 refine aa ?_;apply I_<;>intro g2
 .refine aa ?_;rw[hc (.inr Aw)];exact⟨aJ,df (Ext.refl _)⟩
 have U:(p.over - 1).toNat<m.scalars.length:=Aw
 obtain⟨a,rfl⟩:=ad.addr;rw[iP Aw Aw];refine aa ?_;refine K_ (p.over - 1).toNat Aw U ?_;refine aa ?_;apply I_<;>intro g3
 .refine aa ?_;refine⟨?_,df (Ext.refl _)⟩;rw[if_pos Aw];rfl
 refine aa ?_;apply I_<;>intro g4
 .refine aa ?_;refine⟨?_,df (Ext.refl _)⟩;rw[if_pos Aw];rfl
 refine aa ?_;refine⟨?_,df (Ext.refl _)⟩;rw[if_neg Aw];congr 1;omega
def asE(cs:C_ B_)(m:o.Model)(p:dv)(bY dQ:B_)(w:A_)(h:dh w cs m) :
  Ei F.LU #[.agg cs.toArray,.agg (p.enc bY dQ).toArray] w λv w'=>v = .I (o.elems m p)/\Ext w w':=by
 obtain⟨bZ,bz,bN,c1,bT,c2,bW,bw,b1,bD,rfl,ad,h1,J,ab,aF,eB,dD,dO,dU,eg⟩:=h.form;refine bk E.LU ?_;refine aa ?_;intro w1 bx cN af al;refine aa ?_;intro az bP c8 ai ao;have df:∀{w'},Ext az w'->Ext w w':=λe=>(af.trans ai).trans e;refine aa ?_;rw[o.elems];apply I_<;>intro g1
 .refine aa ?_;rw[hc (.inl Aw)];exact⟨aJ,df (Ext.refl _)⟩
 refine aa ?_;apply I_<;>intro g2
 .refine aa ?_;rw[hc (.inr Aw)];exact⟨aJ,df (Ext.refl _)⟩
 have U:(p.over - 1).toNat<m.scalars.length:=Aw
 obtain⟨a,rfl⟩:=ad.addr;rw[iP Aw Aw];refine aa ?_;refine K_ (p.over - 1).toNat Aw U ?_;refine aa ?_;apply I_<;>intro g3
 .refine aa ?_;refine⟨?_,df (Ext.refl _)⟩;rw[if_pos Aw];rfl
 refine aa ?_;apply I_<;>intro g4
 .refine aa ?_;refine⟨?_,df (Ext.refl _)⟩;rw[if_pos Aw];rfl
 refine aa ?_;refine⟨?_,df (Ext.refl _)⟩;rw[if_neg Aw];congr 1;omega
def acm(x:cP):B_:=.agg x.enc.toArray
def acv{pY w0:A_}{b:Nat}{cs:C_ B_}{m:o.Model}(an:w0.heap[b]? = some (.cells cs.toArray T.f))(h:dh pY cs m)(re:Ext pY w0) :
  SeqStopsK Fence.wide 0 Tryz.prog F.u #[.pointer (some ⟨b,0,none⟩)] (λx:yw m=>#[acm x.1]) (nx pY.heap.size [T.l,T.f]) (λxs=>xs.map Subtype.val=o.insts m) (λ_=>True) (o.insts m).length w0:=by
 intro l jo Ox W ak rX alm bF Kz;have Dl:Ext pY W:=re.trans ak;have aaF:=Ext.obj (w:=w0) ak an;obtain⟨bZ,bz,bN,c1,bT,c2,bW,bw,b1,bD,rfl,ad,h1,J,ab,aF,eB,dD,dO,dU,eg⟩:=h.form;refine callsIn_wide.2 (Calls.mono (show Ei F.u #[.func (.yield l) #[] #[],.pointer (some ⟨b,0,none⟩)] W (λ_ b4=>(∃xs,xs.map Subtype.val=o.insts m/\jo xs b4)\/(∃pre:C_ (yw m),True/\Ox pre b4)) from ?_) λe b4 ⟨v,bG,aD⟩=>⟨⟨v,bG⟩,aD⟩);have C8:∀{pre:C_ (yw m)} {w w':A_},jo pre w->Ext w w'->jo pre w':=λ{pre w w'} ay e=>rX pre w w' none ay e.ZU (λr e=>by cases e);refine bk E.u ?_;refine aa ?_;refine L_ 9 m.procs.length [0,1,7,8] (λ_=>[]) ([]:C_ (yw m)) (λk pre w'=>(Ext pY w'/\w'.heap[b]? = some (.cells #[.slice bZ m.scalars.length bz,.slice bN m.vars.length c1,.slice bT m.aA.length c2,.slice bW m.procs.length bw,.slice b1 m.props.length bD] T.f)/\jo pre w')/\pre.map Subtype.val++kg m (m.procs.drop k) k=o.insts m) a6 a6 ⟨⟨Dl,aaF,Kz⟩,by simp[o.insts]⟩ ?_;clear aaF an;rintro k pre S w1 hk ⟨⟨af,aaG,abh⟩,s0⟩;refine aa ?_;apply I_<;>intro g1
 .have a1:k<m.procs.length:=Aw
  obtain⟨a,rfl⟩:=ab.addr;obtain⟨aj,bY,dQ,c5,eU,eA⟩:=ab.at k a1;obtain⟨_,_,rfl,_⟩:=eU.form;obtain⟨_,_,rfl,_⟩:=eA.form;rw[aco a1] at s0;have rZ:=cq aaG;refine dV ?_;simp -dsimp only[cK];refine dV ?_;simp -dsimp only[cK];refine dV ?_;intro Ex bP c8 oj qj;refine dV ?_;intro az aoD ao;have ai:=aoD.ext oj c8;have aaH:=ai.obj aaG;have jy:=C8 abh ai;have eh:∀(q:C_ (yw m)) (r:C_ cP),q.map Subtype.val++r=o.insts m->r≠[]->q.length<(o.insts m).length:=λq r e aT=>by
   rw[<-e,HO,AK3]
   have:=List.length_pos_iff.2 aT
   omega
  have tY:=Fy m m.procs[k];refine dV ?_;refine R_ [0,1,3,4,7,8,9] (λ_=>[]) (λ(Hx:C_ (yw m)) w'=>(Ext pY w'/\w'.heap[bP]? = az.heap[bP]? /\ w'.heap[b]? = az.heap[b]? /\ jo Hx w')/\Hx.map Subtype.val=pre.map Subtype.val++jF k m.procs[k]) ?_ ?_
  .refine aa ?_;apply I_<;>intro g2
   .have bG:jF k m.procs[k]=[⟨(k:Int),0⟩]:=by unfold jF;rw[if_pos g2]
    rw[bG] at s0;refine aa ?_;refine _2 (bF pre ⟨⟨(k:Int),0⟩,CC,by simpa using a1,CC⟩ az jy (eh pre _ (by simpa[List.append_assoc] using s0) CC)) ?_;rintro e aM (⟨rfl,sW,oq⟩ | ⟨rfl,sW⟩)
    .refine⟨.bool true,rfl,?_⟩;refine aa ?_;exact⟨_,trivial,⟨Below.trans (Ext.trans af ai) oq.1,oq.2 bP _ _ _ ao CC,oq.2 b _ _ _ aaH CC,sW⟩,by simp[bG]⟩
    .refine⟨.bool false,rfl,?_⟩;refine aa ?_;exact .inr ⟨_,trivial,sW⟩
   .have bG:jF k m.procs[k]=[]:=by unfold jF;rw[if_neg g2]
    refine aa ?_;exact⟨pre,trivial,⟨af.trans ai,aJ,aJ,jy⟩,by simp[bG]⟩
  rintro TA S aM ⟨⟨ag,a8,aaI,sW⟩,zh⟩;rw[ao] at a8;rw[aaH] at aaI;refine aa ?_;refine J_ (ajm _ m m.procs[k] _ _ aM (h.ext ag)) ?_;rintro _ aR ⟨rfl,aq⟩;have ank:=C8 sW aq;have aaJ:=aq.obj aaI;have q5:=ag.trans aq;have abP:TA.map Subtype.val++kk k (o.elems m m.procs[k])++kg m (m.procs.drop (k+1)) (k+1)=o.insts m:=by rw[zh,<-s0];simp
  refine aa ?_;refine L_ 27 (o.elems m m.procs[k]) [0,1,3,7,8,9,26] (λ_=>[]) TA (λj Hx w'=>(Ext pY w'/\w'.heap[b]? = aR.heap[b]? /\ jo Hx w')/\Hx.map Subtype.val=TA.map Subtype.val++kk k j) a6 a6 ⟨⟨q5,rfl,ank⟩,by simp[kk]⟩ ?_;rintro j TB S bg ay ⟨⟨ar,Kj,Gw⟩,xo⟩;rw[aaJ] at Kj;refine aa ?_;apply I_<;>intro g3
  .have eT:j<o.elems m m.procs[k]:=Aw
   have cu:TB.length<(o.insts m).length:=by
    have bG:=congrArg List.length abP;have aD:=congrArg List.length xo;simp only[List.length_append,List.length_map,kk,List.length_range] at bG aD;omega
   refine aa ?_;refine _2 (bF TB ⟨⟨(k:Int),(j:Int)+1⟩,CC,by simpa using a1,by constructor<;>simp<;>omega⟩ bg Gw cu) ?_;rintro e bp (⟨rfl,Dy,Gy⟩ | ⟨rfl,Dy⟩)
   .refine⟨.bool true,rfl,?_⟩;refine aa ?_;exact⟨eT,aJ,_,trivial,⟨Below.trans ar Gy.1,by rw[Gy.2 b _ _ _ Kj CC,Kj,aaJ],Dy⟩,by simp[xo,adN]⟩
   .refine⟨.bool false,rfl,?_⟩;refine aa ?_;exact .inr ⟨_,trivial,Dy⟩
  .have nH:j=o.elems m m.procs[k]:=Aw
   subst nH;refine aa ?_;exact⟨a1,aJ,TB,trivial,⟨ar,Kj,Gw⟩,by rw[xo];exact abP⟩
 .refine aa ?_;rw[AE9 Aw] at s0;exact .inl ⟨pre,by simpa[kg] using s0,abh⟩
end Go.Proofs.R
namespace o
open Go
def cP.key(x:cP):Int:=5*x.proc+x.elem
def chain:cP->C_ cP->Prop
 | _,[]=>True
 | a,x :: r=>x≠a/\chain x r
theorem YA:∀(l:C_ cP) (a:cP),(a :: l).Pairwise (λx y=>x.key<y.key)->chain a l
 | [],_,_=>trivial
 | x :: r,a,h=>by
  obtain⟨h1,J⟩:=List.pairwise_cons.1 h;refine⟨λe=>?_,YA r x J⟩
  have:=h1 x CC
  rw[e] at this;exact absurd this (Int.lt_irrefl _)
theorem acu{m:Model}:∀(l:C_ dv) (i:Nat),(kg m l i).Pairwise (λx y=>x.key<y.key)/\∀x∈kg m l i,5*(i:Int)<=x.key
 | [],_=>⟨List.Pairwise.nil,λx ah=>by simp[kg] at ah⟩
 | p :: r,i=>by
  obtain⟨h1,J⟩:=acu r (i+1);have aS:∀x∈jF i p,x=⟨(i:Int),0⟩:=λx ah=>by
   unfold jF at ah;split at ah
   .simpa using ah
   .cases ah
  have aH:∀x∈kk i (elems m p),∃k:Nat,k<4/\x=⟨(i:Int),(k:Int)+1⟩:=λx ah=>by
   unfold kk at ah;obtain⟨k,hk,rfl⟩:=List.mem_map.1 ah
   have:=List.mem_range.1 hk
   have:=Fy m p
   exact⟨k,Aw,rfl⟩
  have qu:(kk i (elems m p)).Pairwise (λx y=>x.key<y.key):=by
   unfold kk;rw[List.pairwise_map];exact List.Pairwise.imp (λ{a b} F3=>by simp only[cP.key];omega) List.pairwise_lt_range
  have arB:(jF i p).Pairwise (λx y=>x.key<y.key):=by
   unfold jF;split
   .exact List.pairwise_singleton _ _
   .exact List.Pairwise.nil
  simp only[kg];refine⟨List.pairwise_append.2 ⟨List.pairwise_append.2 ⟨arB,qu,λa aY b ak=>?_⟩,h1,λa aY b ak=>?_⟩,λx ah=>?_⟩
  .obtain rfl:=aS a aY;obtain⟨k,_,rfl⟩:=aH b ak;simp only[cP.key];omega
  .have c8:=J b ak;rcases List.mem_append.1 aY with aY | aY
   .obtain rfl:=aS a aY;simp only[cP.key];simp at c8;unfold cP.key at c8;omega
   .obtain⟨k,hk,rfl⟩:=aH a aY;unfold cP.key at c8 ⊢;simp at c8 ⊢;omega
  .rcases List.mem_append.1 ah with ah | ah
   .rcases List.mem_append.1 ah with ah | ah
    .obtain rfl:=aS x ah;simp[cP.key]
    .obtain⟨k,hk,rfl⟩:=aH x ah;unfold cP.key;simp;omega
   .have:=J x ah
    simp at this;omega
def aoR(m:Model):chain ⟨-1,0⟩ (insts m):=by
 obtain⟨h1,J⟩:=acu (m:=m) m.procs 0;refine YA _ _ (List.pairwise_cons.2 ⟨λx ah=>?_,h1⟩)
 have:=J x ah
 unfold cP.key at this ⊢;simp at this ⊢;omega
theorem ZO(m:Model):∀(l:C_ cP) (i:Nat) (a:cP) (out:C_ Ref),chain a l->(l.foldl (nj m) ((i:Int) - 1,a,out)).2.2=out++qx m l i
 | [],_,_,_,_=>by simp[qx]
 | x :: r,i,a,out,h=>by
  simp only[List.foldl_cons];have e:nj m ((i:Int) - 1,a,out) x=(((i+1:Nat):Int) - 1,x,out++refsOf i (td m x)):=by
   unfold nj;simp only;rw[if_pos h.1];congr 1
   .omega
   .congr 2;congr 1;omega
  rw[e,ZO m r (i+1) x _ h.2];simp[qx]
def asR(m:Model):((insts m).foldl (nj m) (-1,⟨-1,0⟩,[])).2.2=refs m:=by
 have:=ZO m (insts m) 0 ⟨-1,0⟩ [] (aoR m)
 simpa[refs] using this
structure uU(m:Model):Prop where
 procs:m.procs.length<=30
 c4:∀p∈m.procs,p.c4.length<=30
def Th{m:Model}(h:uU m)(x:cP):td m x<=30:=by
 unfold td;split
 .rename_i p au;refine h.c4 p ?_;unfold nth at au;by_cases ad:0<=x.proc
  .rw[if_pos ad] at au;exact List.mem_of_getElem? au
  .rw[if_neg ad] at au;cases au
 .omega
theorem ZN{m:Model}(h:uU m):∀(l:C_ cP) (s:Int×cP×C_ Ref),s.1<=(l.foldl (nj m) s).1/\(l.foldl (nj m) s).1<=s.1+l.length/\(l.foldl (nj m) s).2.2.length<=s.2.2.length+30*l.length
 | [],s=>CC
 | x :: r,s=>by
  obtain⟨h1,J,ab⟩:=ZN h r (nj m s x);simp only[List.foldl_cons,List.length_cons];have aw:=Th h x;have bG:s.1<=(nj m s x).1/\(nj m s x).1<=s.1+1:=by unfold nj;simp only;split<;>omega
  have aD:(nj m s x).2.2.length<=s.2.2.length+30:=by unfold nj refsOf;simp only[List.length_append,List.length_map,List.length_range];omega
  omega
theorem aex{m:Model}(h:uU m):∀(l:C_ cP) (i:Nat),(qx m l i).length<=30*l.length
 | [],_=>by simp[qx]
 | x :: r,i=>by
  have:=aex h r (i+1)
  have:=Th h x
  simp only[qx,List.length_append,refsOf,List.length_map,List.length_range,List.length_cons];omega
def pn{m:Model}(h:uU m):(refs m).length<=4500:=by
 have:=aex h (insts m) 0
 have:=vI m
 have:=h.procs
 unfold refs;omega
structure Xj(m:Model)(r:Ref)(i p k:Nat):Prop where
 U:i<(insts m).length
 nk:r.inst=i
 ip:(insts m)[i].proc=p
 au:p<m.procs.length
 pU:r.cmd=k
 hk:k<m.procs[p].c4.length
theorem aey{m:Model}:∀(l:C_ cP) (i0:Nat) (r:Ref),r∈qx m l i0->∃j,∃ay:j<l.length,r.inst=((i0+j:Nat):Int)/\∃k:Nat,k<td m l[j]/\r.cmd=k
 | [],_,_,h=>by simp[qx] at h
 | x :: l,i0,r,h=>by
  simp only[qx,List.mem_append] at h;rcases h with h | h
  .unfold refsOf at h;obtain⟨k,hk,rfl⟩:=List.mem_map.1 h;exact⟨0,CC,CC,k,by simpa using hk,rfl⟩
  .obtain⟨j,ay,h1,k,J,ab⟩:=aey l (i0+1) r h;exact⟨j+1,by simpa using ay,by rw[h1];congr 1;omega,k,by simpa using J,ab⟩
def asQ{m:Model}{r:Ref}(h:r∈refs m):∃i p k,Xj m r i p k:=by
 obtain⟨j,ay,h1,k,J,ab⟩:=aey _ _ _ h;have ah:=rl (insts m)[j] (E2 _);obtain⟨p,au⟩:=Nb ah.aV;have sZ:p<m.procs.length:=by have:=ah.U;omega
 refine⟨j,p,k,ay,by rw[h1];simp,au,sZ,ab,?_⟩;unfold td at J;rw[au,iP Aw Aw] at J;simpa using J
end o
namespace ba
open Go Go.RowKit
def X5(cH t:F_)(sz b:Nat)(z:Array B_):Ab:=⟨13,[.tmp 4],
 (.jj (.dB [du 2 (.box cH (aQ 0)),fK 4 (.const (.slice none 0 0))])
 (.uK (.jj (.dB [aU 6 1])
 (.cy 0 (.uI (aQ 6) 7 (.dB [du 5 (.new t (.agg z)),hG (.mc sz (aQ 5) (aQ 7))]) (.cy 1 (.dB [eJ 8 2,p0 9 (.lj sz (aQ 5)),du 10 (.ku t 1 sz z.toList [(0,(aQ 9))]),du 11 (.app cH t sz b (aQ 8) (aQ 10)),ys 2 11])))))
 (.seq (.dB [eJ 12 2,aU 4 12])
 .ret)))⟩
theorem ac4:∀(vs pre post:C_ B_),vs.length<=post.length->(vs.zipIdx pre.length).foldl (λcs (x:B_×Nat)=>cs.set (0+x.2) x.1) (pre++post)=pre++vs++post.drop vs.length
 | [],pre,post,_=>CC
 | v :: vs,pre,[],h=>by simp at h
 | v :: vs,pre,p :: post,h=>by
  have fq:=ac4 vs (pre++[v]) post (by simpa using h);simp only[List.length_append,List.length_cons,List.length_nil] at fq;simp only[List.zipIdx_cons,List.foldl_cons,List.length_cons,List.drop_succ_cons];rw[show(pre++p :: post).set (0+pre.length) v=(pre++[v])++post from CC,fq];simp
def akn{S:Fr}{sz:Nat}{z cs:C_ B_}{t:Nat}(aB:S t = .agg cs.toArray)(an:cs.length=sz)(bB:z.length=sz)(ad:0<sz):gG S ((List.range 1).map λi=>(i*sz,sz)) [(0,.tmp t)] z=some cs:=by
 have e:lay z 0 (.agg cs.toArray)=cs:=by
  have:=ac4 cs [] z Aw
  simp only[List.nil_append,List.length_nil] at this;unfold lay;simp only[Value.cells];rw[this,AE9 Aw,S5]
 have bG:(bu S (.tmp t)).cells.size=sz:=by
  show(S t).cells.size=sz;rw[aB];simp[Value.cells,an]
 have aD:((List.range 1).map λi=>(i*sz,sz))[0]? = some (0,sz):=CC
 unfold gG;simp only[aD];rw[if_pos ⟨bG,Aw⟩];unfold gG;show some (lay z 0 (S t))=_;rw[aB,e]
section
variable{α:Type}{P:Program}{f:FuncId}{t cH:TypeId}{sz b:Nat}{enc:α->List Value}{z:Array Value}
def ahc(hm:P.follows .mixedOrders=true)(de:Au P f=some (X5 cH t sz b z))(bB:z.size=sz)(hlen:∀x,(enc x).length=sz)(xm:∀x,∀u∈enc x,u.oneCell'=true)(dt:0<sz)
  {k9:Nat}{hC:Array B_}{h3:Nat}{oF:C_ F_}{oO qM:C_ α->Prop}{N:Nat}{w0 w:A_}(c9:okF P k9=true)
  (uk:SeqStopsK Fence.wide 0 P k9 hC (λx=>#[.agg (enc x).toArray]) (nx h3 oF) oO qM N w0)(he:Ext w0 w)(Bd:h3<=w.heap.size)(aB:t∉oF)(GX:cH∉oF)(cv:cH≠t)(fl:N*b<=140737488355328)(Dc:N<=maxLen) :
  aW P f #[.slice none 0 0,.func (.func k9) #[] hC] w λv w'=>(∃xs,oO xs/\aK enc t sz w.heap.size w' v xs)/\Ext w w':=by
 refine gL.start hm de (args:=[_,_]) (Nat.le_of_ble_eq_true rfl) ?_;dsimp only[X5,aQ,cE,kI,cS,p0,du,iv,hG,ee,aU,fK,fu,eJ,iw,ys,mg];refine gL.jj ?_;refine aa ?_;intro w1 bx cN af al;refine aa ?_;refine gL.uK (gL.jj ?_);simp -dsimp only[dg,cK,Nat.reduceAdd,Nat.reduceEqDiff,reduceIte,reduceCtorEq,dq];refine gL.cy (gL.uI (w0:=w0) (enc:=λx=>.agg (enc x).toArray) (by simp[dc,bE]) c9 uk (he.trans af) (nx.ok oF (Ns Bd af.size))
  (λpre W=>Mod (λk=>k=bx) w1 W/\∃(aN:H_ Addr) (n c:Nat),W.heap[bx]? = some (.cells #[.slice aN n c] cH)/\aK enc t sz w1.heap.size W (.slice aN n c) pre) ?_ ⟨Mod.refl _ _,none,0,0,al,aK.nil _ _ _ _ _⟩ ?_ ?_)
 .rintro pre W b4 row ⟨hm,aN,n,c,ak,aS⟩ aG aT;refine⟨hm.high aG λr e=>(aT r e).1,aN,n,c,?_,aS.mod (Mod.grown (A:=λk=>row=some k) aG λk e=>e) λk hk a=>?_⟩
  .rw[aG.block bx (cq ak) λe=>?_]
   .exact ak
   .obtain⟨ae,h1,J⟩:=(aT bx e.symm).2;rw[ak] at h1;injection h1 with h1;subst h1;cases J
  .obtain⟨cur,ab⟩:=aS.cy k hk;obtain⟨ae,h1,J⟩:=(aT k a).2;rw[ab] at h1;injection h1 with h1;subst h1;cases J
 .rintro pre x W ⟨hm,aN,n,c,pL,aS⟩ cu;have abq:=cq al;have axb:=hm.size
  try (simp -dsimp only[dg,cK,Nat.reduceAdd,Nat.reduceEqDiff,reduceIte,reduceCtorEq,dq])
  refine O_ λiX dJ jc ar bI=>?_
  try (simp -dsimp only[dg,cK,Nat.reduceAdd,Nat.reduceEqDiff,reduceIte,reduceCtorEq,dq])
  refine U_ bI bB (by simpa using hlen x) (by simpa using xm x) λe9 hw ao=>?_
  try (simp -dsimp only[dg,cK,Nat.reduceAdd,Nat.reduceEqDiff,reduceIte,reduceCtorEq,dq])
  have aD:=hw.ext ar jc;refine⟨aD.keeps _,aD.iG Aw,λoQ xr=>?_⟩;obtain⟨l,aE,kA,jz⟩:=xr.mod;have a8:=xr.cells ao;have eX:=xr.cells (aD.obj pL);have ez:aK enc t sz w1.heap.size oQ (.slice aN n c) pre:=(aS.ext aD).mod jz λk hk a=>by
   subst a;obtain⟨cur,ab⟩:=(aS.ext aD).cy k hk;exact kA _ _ _ ab
  try (simp -dsimp only[dg,cK,Nat.reduceAdd,Nat.reduceEqDiff,reduceIte,reduceCtorEq,dq])
  refine _E eX (Ext.refl _) rfl ?_
  try (simp -dsimp only[dg,cK,Nat.reduceAdd,Nat.reduceEqDiff,reduceIte,reduceCtorEq,dq])
  refine Z_ (hK a8) (hlen x) ?_
  try (simp -dsimp only[dg,cK,Nat.reduceAdd,Nat.reduceEqDiff,reduceIte,reduceCtorEq,dq])
  refine _D (akn (cs:=enc x) (by simp[bE]) (hlen x) (by simpa using bB) dt) λCt pF sR aq bn=>?_
  try (simp -dsimp only[dg,cK,Nat.reduceAdd,Nat.reduceEqDiff,reduceIte,reduceCtorEq,dq])
  have anu:pre.length+1<=N:=cu;refine _U (ys:=[x]) (ez.ext aq) hlen (by simpa using hK bn) rfl xm (Ns (AI9 b anu) fl) (by simp only[List.length_cons,List.length_nil];omega) (by have:=jz.size;have:=aq.size;have:=aD.size;omega) λbU qO dC kS jP=>?_;obtain⟨iQ,qS,rfl,_⟩:=dC.form;have fD:=aq.obj eX;have Di:qO.heap[bx]? = some (.cells #[.slice aN n c] cH):=by
   rw[kS.block bx (cq fD) λe=>?_]
   .exact fD
   .obtain⟨cur,ab⟩:=(ez.ext aq).cy bx e.symm;rw[fD] at ab;injection ab with ab;injection ab with _ ab;exact cv ab
  try (simp -dsimp only[dg,cK,Nat.reduceAdd,Nat.reduceEqDiff,reduceIte,reduceCtorEq,dq])
  refine _V Di CC rfl λlU gJ bS=>?_
  try (simp -dsimp only[dg,cK,Nat.reduceAdd,Nat.reduceEqDiff,reduceIte,reduceCtorEq,dq])
  have gz:∀k,(Value.slice aN n c).ownBlock=some k->w1.heap.size<=k:=λk hk=>(ez.lt k hk).1;have apU:Mod (λk=>(Value.slice aN n c).ownBlock=some k\/k=bx) Ct lU:=(Mod.grown (A:=λk=>(Value.slice aN n c).ownBlock=some k) kS λk e=>e).comp (A':=λk=>k=bx) (gJ.mod rfl) (λ_ _ a=>.inl a) (λ_ _ a=>.inr a);have Tb:Mod (λk=>(Value.slice aN n c).ownBlock=some k\/k=bx) oQ lU:=aq.mod.comp apU (A:=λ_=>False) (λ_ _ h=>h.elim) (λ_ _ h=>h);refine⟨Tb.keeps λk hk a=>?_,Tb.iG (by have:=jz.size;have:=aD.size;omega) (λk hk a=>?_) (λk iY h5 ve a hk zl=>?_),?_,iQ,_,qS,bS,?_⟩
  .rcases a with a | a
   .obtain⟨cur,ab⟩:=ez.cy k a;exact⟨_,_,_,ab⟩
   .subst a;exact⟨_,_,_,eX⟩
  .rcases a with a | a
   .have:=gz k a;have:=af.size;omega
   .omega
  .rcases a with a | a
   .obtain⟨cur,ab⟩:=ez.cy k a;rw[ab] at hk;injection hk with hk;injection hk with _ hk;subst hk;exact aB zl
   .subst a;rw[eX] at hk;injection hk with hk;injection hk with _ hk;subst hk;exact GX zl
  .refine(hm.comp (B:=λk=>k=bx) (A':=λk=>(Value.slice aN n c).ownBlock=some k\/k=bx\/k=l) ?_ (λ_ _ a=>a) λk hk a=>?_)
   .exact(aD.mod (A:=λ_=>False)).comp (jz.comp Tb (λ_ _ a=>(Or.inr (Or.inr a):_\/_\/_)) (λ_ _ a=>by rcases a with a | a;exact .inl a;exact .inr (.inl a))) (λ_ _ h=>h.elim) (λ_ _ h=>h)
   .rcases a with a | a | a
    .have:=gz k a;omega
    .exact a
    .omega
  .refine dC.mod (gJ.mod (A:=λk=>k=bx) rfl) λk hk a=>?_;subst a;obtain⟨cur,ab⟩:=dC.cy k hk;rw[Di] at ab;injection ab with ab;injection ab with _ ab;exact cv ab
 .rintro D xs W gv b7 ⟨hm,aN,n,c,pL,aS⟩ bb;simp -dsimp only[dg,cK,Nat.reduceAdd,Nat.reduceEqDiff,reduceIte,reduceCtorEq,dq];refine _E pL (Ext.refl _) rfl ?_;simp -dsimp only[dg,cK,Nat.reduceAdd,Nat.reduceEqDiff,reduceIte,reduceCtorEq,dq];refine gL.ret bb ?_;simp -dsimp only[dg,cK,Nat.reduceAdd,Nat.reduceEqDiff,reduceIte,reduceCtorEq,dq];have bG:Ext w W:=hm.ext af λk hk e=>Aw
  refine⟨⟨xs,b7,(aS.mod (A:=λk=>k=D) ((dw.fJ _ _ _).mod rfl) λk hk a=>?_).low af.size⟩,bG.fJ (Ns af.size gv) _⟩;subst a;obtain⟨cur,ab⟩:=aS.cy k hk;rw[bb] at ab;injection ab with ab;cases ab
end
end ba
namespace ba
open Go Go.RowKit
theorem aK.map{α β:Type}{enc:β->C_ B_}{g:α->β}{e:F_}{sz base:Nat}{w:A_}{v:B_}{xs:C_ α}(h:aK (λx=>enc (g x)) e sz base w v xs):aK enc e sz base w v (xs.map g):=by
 unfold aK at *;rw[AK3,List.flatMap_map];exact h
def aK.e4{α:Type}{enc:α->C_ B_}{e:F_}{sz base:Nat}{w:A_}{v:B_}{xs:C_ α}(dt:∀x,(enc x).length=sz)(h:aK enc e sz base w v xs):bm sz (Flat enc) w v xs:=aK.iR dt h
def aK.new{α:Type}{enc:α->C_ B_}{e:F_}{sz:Nat}{w w':A_}{v:B_}{xs:C_ α}(dt:∀x,(enc x).length=sz)(h:aK enc e sz w.heap.size w' v xs):er w (λw=>bm sz (Flat enc) w v xs) w':=λaz m =>
 aK.iR dt (aK.mod h m λk hk a=>by have:=(h.lt k hk).1;omega)
end ba
namespace Go.Proofs.R
open Go Go.RowKit ba o
abbrev ix(w:A_)(v:B_)(l:C_ cP):Prop:=bm 2 (Flat cP.enc) w v l
abbrev tu(w:A_)(v:B_)(l:C_ o.Ref):Prop:=bm 2 (Flat o.Ref.enc) w v l
def acF(cs:C_ B_)(m:o.Model)(w:A_)(h:dh w cs m) :
  Ei F.pE #[.agg cs.toArray] w λv w'=>(∃b,v = .func (.func F.u) #[] #[.pointer (some ⟨b,0,none⟩)]/\w'.heap[b]? = some (.cells cs.toArray T.f))/\Ext w w':=by
 obtain⟨bZ,bz,bN,c1,bT,c2,bW,bw,b1,bD,rfl,_⟩:=h.form;refine bk E.pE ?_;refine aa ?_;intro w1 bx cN af al;refine aa ?_;exact⟨⟨bx,rfl,al⟩,af⟩
def xA(cs:C_ B_)(m:o.Model)(w:A_)(h:dh w cs m)(aG:m.cr) :
  Ei F.c #[.agg cs.toArray] w λv w'=>aK cP.enc T.d 2 w.heap.size w' v (o.insts m)/\Ext w w':=by
 obtain⟨bZ,bz,bN,c1,bT,c2,bW,bw,b1,bD,rfl,_⟩:=h.form;have au:=aG.procs;have aE:=vI m;unfold ev at au;refine bk E.c ?_;refine aa ?_;intro w1 bx cN af al;refine aa ?_;refine J_ (acF _ m w1 (h.ext af)) ?_;rintro _ az ⟨⟨b,rfl,ao⟩,ai⟩;have df:Ext w az:=af.trans ai;refine aa ?_;refine J_ (f:=F.yK) (R:=λv w'=>aK cP.enc T.d 2 az.heap.size w' v (o.insts m)/\Ext az w') ?_ ?_
 .refine wo E.yK ?_;refine oR ?_;refine aa ?_;refine J_ (ahc (α:=yw m) (enc:=λx=>x.1.enc) l3 EI.g5 rfl (λ_=>rfl) (λx u hu=>by simp[cP.enc] at hu;rcases hu with rfl | rfl<;>rfl) BS Cx
   (acv ao h df) (Ext.refl _) df.size BS BS BS Aw (by unfold maxLen;omega)) ?_
  rintro v aM ⟨⟨xs,uq,aS⟩,ag⟩;refine aa ?_;exact⟨by rw[<-uq];exact aS.map,ag⟩
 .rintro v aM ⟨aS,ag⟩;refine aa ?_;exact⟨aS.low df.size,df.trans ag⟩
structure mP(w1:World)(bV cQ dJ:Nat)(s:Int×cP×List o.Ref)(W:World):Prop where
 mod:Mod (λk=>k∈[bV,cQ,dJ]) w1 W
 ex:∃aN n c,W.heap[bV]? = some (.cells #[.slice aN n c] T.g)/\aK o.Ref.enc T.c 2 w1.heap.size W (.slice aN n c) s.2.2
 aF:W.heap[cQ]? = some (.cells #[.int .i64 s.1] T.a)
 a7:W.heap[dJ]? = some (.cells s.2.1.enc.toArray T.d)
def mP.move{w1:A_}{bV cQ dJ:Nat}{s:Int×cP×C_ o.Ref}{W b4:A_}{A:Nat->Prop}(h:mP w1 bV cQ dJ s W)(m:Mod A W b4)(dd:∀k c t f,W.heap[k]? = some (.cells c t f)->¬A k)(hA:∀k,A k->w1.heap.size<=k):mP w1 bV cQ dJ s b4:=by
 obtain⟨aN,n,c,e,aS⟩:=h.ex;refine⟨h.mod.comp m (λ_ _ a=>a) λk hk a=>absurd (hA k a) Aw,⟨aN,n,c,m.obj (dd _ _ _ _ e) e,aS.mod m λk hk a=>?_⟩,m.obj (dd _ _ _ _ h.aF) h.aF,m.obj (dd _ _ _ _ h.a7) h.a7⟩;obtain⟨cur,ab⟩:=aS.cy k hk;exact dd _ _ _ _ ab a
theorem mP.ext{w1:A_}{bV cQ dJ:Nat}{s:Int×cP×C_ o.Ref}{W b4:A_}(h:mP w1 bV cQ dJ s W)(e:Ext W b4):mP w1 bV cQ dJ s b4:=h.move (A:=λ_=>False) e.mod (λ_ _ _ _ _ h=>h) λ_ h=>h.elim
def yD{W:A_}{k:Nat}{c iY:Array B_}{t h5:F_}{f ve:Nat×Nat}(h:W.heap[k]? = some (.cells c t f))(bq:W.heap[k]? = some (.cells iY h5 ve)):t=h5:=by
 rw[h] at bq;injection bq with bq;injection bq
def mP.lO{w1:A_}{bV cQ dJ:Nat}{s:Int×cP×C_ o.Ref}{W b4:A_}{n:Int}(h:mP w1 bV cQ dJ s W)(hw:dw cQ W b4)(an:b4.heap[cQ]? = some (.cells #[.I n] T.a))(n34:bV≠cQ)(n45:dJ≠cQ):mP w1 bV cQ dJ (n,s.2) b4:=by
 obtain⟨aN,k,c,e,aS⟩:=h.ex;refine⟨h.mod.comp (A':=λk=>k=cQ) (hw.mod rfl) (λ_ _ a=>a) λk hk a=>by simp[a],⟨aN,k,c,hw.obj e n34,aS.mod (hw.mod (A:=λk=>k=cQ) rfl) λk hk a=>?_⟩,an,hw.obj h.a7 n45⟩;subst a;obtain⟨cur,ab⟩:=aS.cy k hk;exact absurd (yD ab h.aF) BS
def mP.iK{w1:A_}{bV cQ dJ:Nat}{s:Int×cP×C_ o.Ref}{W b4:A_}{x:cP}(h:mP w1 bV cQ dJ s W)(hw:dw dJ W b4)(an:b4.heap[dJ]? = some (.cells x.enc.toArray T.d))(n35:bV≠dJ)(n45:dJ≠cQ):mP w1 bV cQ dJ (s.1,x,s.2.2) b4:=by
 obtain⟨aN,k,c,e,aS⟩:=h.ex;refine⟨h.mod.comp (A':=λk=>k=dJ) (hw.mod rfl) (λ_ _ a=>a) λk hk a=>by simp[a],⟨aN,k,c,hw.obj e n35,aS.mod (hw.mod (A:=λk=>k=dJ) rfl) λk hk a=>?_⟩,hw.obj h.aF (Ne.symm n45),an⟩;subst a;obtain⟨cur,ab⟩:=aS.cy k hk;exact absurd (yD ab h.a7) BS
def mP.app{w1:A_}{bV cQ dJ:Nat}{s:Int×cP×C_ o.Ref}{W b4 IN:A_}{aN iQ:H_ Addr}{n c iO iY:Nat}{l:C_ o.Ref}(h:mP w1 bV cQ dJ s W)(he:W.heap[bV]? = some (.cells #[.slice aN n c] T.g))
  (aS:aK o.Ref.enc T.c 2 w1.heap.size W (.slice aN n c) s.2.2)(nc:aK o.Ref.enc T.c 2 w1.heap.size b4 (.slice iQ iO iY) l)(aG:W.grownBy b4 (Value.slice aN n c).ownBlock)(hw:dw bV b4 IN)
  (an:IN.heap[bV]? = some (.cells #[.slice iQ iO iY] T.g))(n34:bV≠cQ)(n35:bV≠dJ):mP w1 bV cQ dJ (s.1,s.2.1,l) IN/\fb w1.heap.size [bV,cQ,dJ] [T.c] W IN:=by
 have br:fb w1.heap.size [bV,cQ,dJ] [T.c] W b4:=fb.grown aS aG CC;have l6:∀{k:Nat} {c:Array B_} {t:F_},W.heap[k]? = some (.cells c t)->t≠T.c->b4.heap[k]? = some (.cells c t):=λ{k c t} hk aB=>by
  rw[aG.block k (cq hk) λe=>?_]
  .exact hk
  .obtain⟨cur,ab⟩:=aS.cy k e.symm;exact aB (yD hk ab)
 have C5:=br.trans (hw.CG CC);refine⟨⟨fb.from h.mod C5,⟨iQ,iO,iY,an,nc.mod (hw.mod (A:=λk=>k=bV) rfl) λk hk a=>?_⟩,hw.obj (l6 h.aF BS) (Ne.symm n34),hw.obj (l6 h.a7 BS) (Ne.symm n35)⟩,C5⟩;subst a;obtain⟨cur,ab⟩:=nc.cy k hk;exact absurd (yD ab (l6 he BS)) BS
def zK(cs:C_ B_)(m:o.Model)(w:A_)(h:dh w cs m)(ck:uU m) :
  Ei F.d #[.agg cs.toArray] w λv w'=>aK o.Ref.enc T.c 2 w.heap.size w' v (o.refs m)/\Ext w w':=by
 obtain⟨bZ,bz,bN,c1,bT,c2,bW,bw,b1,bD,rfl,ad,h1,J,ab,aF,eB,dD,dO,dU,eg⟩:=h.form;have kz:=vI m;have sZ:=ck.procs;refine gL.start l3 EI.d (args:=[_]) (Nat.le_of_ble_eq_true rfl) ?_;dsimp only[D.d,aQ,cE,kI,cS,p0,du,iv,hG,ee,aU,fK,fu,eJ,iw,ys,mg,dR,iT,B3,iU,ks,yd,pv,cT,kr,iu,qG,N5,EA,oG,wg,we,sq,mf,yc,List.map_cons,List.map_nil];refine gL.jj ?_;refine aa ?_;intro NW bx cN r2 Ge;refine aa ?_;refine gL.jj ?_;refine aa ?_;intro NX bV eX q8 pL;refine aa ?_;refine gL.jj ?_;refine aa ?_;intro zS cQ fD om e0;refine aa ?_;intro wd dJ jc q9 aaK;have Ka:dJ≠cQ:=by have:=cq e0;omega
 replace e0:=q9.obj e0;refine aa ?_;intro au3 KV eH;have amA:=KV.obj aaK Ka;refine aa ?_;intro wf KX Kk;replace Kk:wf.heap[dJ]? = some (.cells (⟨-1,0⟩:cP).enc.toArray T.d):=Kk;have Ie:=cq Ge;have Ig:=cq pL;have ay1:=cq e0;have PV:Ext NW wf:=KX.ext (KV.ext ((q8.trans om).trans q9) (by have:=q8.size;omega)) (by have:=q8.size;have:=om.size;omega);have Zh:Ext NX au3:=KV.ext (om.trans q9) Aw;have Zi:Ext NX wf:=KX.ext Zh (by have:=om.size;omega);have aav:=Zi.obj pL;have alR:=PV.obj Ge;replace eH:=KX.obj eH (Ne.symm Ka);have n34:bV≠cQ:=Aw
 have n35:bV≠dJ:=by have:=om.size;omega
 have ayV:=q8.size;have ay0:=om.size;clear amA aaK e0 KV KX Zh Zi pL Ge q8 om q9;refine gL.uK (gL.jj ?_);refine aa ?_;refine J_ (acF _ m wf (h.ext (r2.trans PV))) ?_;rintro _ tj ⟨⟨avM,rfl,QW⟩,Gq⟩;have yh:∀{w'},Ext tj w'->Ext w w':=λe=>((r2.trans PV).trans Gq).trans e;have Ke:=Gq.obj aav;have QK:=Gq.obj alR;have Qj:=Gq.obj eH;have Ql:=Gq.obj Kk;have axM:=cq Ke;have axN:=cq Qj;have axO:=cq Ql;simp -dsimp only[dg,cK,Nat.reduceAdd,Nat.reduceEqDiff,reduceIte,reduceCtorEq,dq];refine gL.cy (gL.uI (w0:=tj) (enc:=λx:yw m=>acm x.1) (by simp[dc,bE]) Cx (acv QW h (yh (Ext.refl _))) (Ext.refl _) (nx.ok _ (yh (Ext.refl _)).size)
  (λpre W=>mP tj bV cQ dJ ((pre.map Subtype.val).foldl (nj m) (-1,⟨-1,0⟩,[])) W) ?_ ⟨Mod.refl _ _,⟨none,0,0,Ke,aK.nil _ _ _ _ _⟩,Qj,Ql⟩ ?_ ?_)
 .rintro pre W b4 row hY aG aT;refine hY.move (A:=λk=>row=some k) (Mod.grown aG λk e=>e) (λk c t f hk a=>?_) λk a=>(aT k a).1;obtain⟨ae,h1,J⟩:=(aT k a).2;rw[hk] at h1;injection h1 with h1;subst h1;cases J
 .rintro pre x W hY cu;have q0:=ZN ck (pre.map Subtype.val) (-1,⟨-1,0⟩,[]);simp only[List.length_map,List.length_nil] at q0;have key:((pre++[x]).map Subtype.val).foldl (nj m) (-1,⟨-1,0⟩,[])=nj m ((pre.map Subtype.val).foldl (nj m) (-1,⟨-1,0⟩,[])) x.1:=by
   rw[AF1,List.foldl_append];rfl
  generalize (pre.map Subtype.val).foldl (nj m) (-1,⟨-1,0⟩,[])=s at hY q0 key;have zf:=Th ck x.1;have Bo:=x.2;refine dV ?_;intro iX dm e8 af bS;refine dV ?_;refine⟨af.keeps _,af.iG (Ns (yh (Ext.refl _)).size hY.mod.size),λe9 xr=>?_⟩;obtain⟨l,aE,kA,fX⟩:=xr.mod;replace bS:=xr.cells bS;have xt:mP tj bV cQ dJ s e9:=(hY.ext af).move fX (λk c t f hk a=>by subst a;exact kA _ _ _ hk) λk a=>Aw
  have ajk:tj.heap.size<=e9.heap.size:=xt.mod.size;have awf:e9.heap[bx]? = tj.heap[bx]? := xt.mod.block bx (cq QK) (by simp;omega);have abx:dm∉[bV,cQ,dJ]:=by have:=hY.mod.size;simp;omega
  clear hY xr fX kA Qj Ql Ke eH aav Kk;generalize jP:(if x.1≠s.2.1 then s.1+1 else s.1)=at' at key;refine dV ?_;refine R_ [1,3,4,5,6] (λ_=>[]) (λ(_:Unit) b4=>mP tj bV cQ dJ (at',s.2) b4/\fb tj.heap.size [bV,cQ,dJ] [T.c] e9 b4) ?_ ?_
  .have av6:=xt.aF;have ZZ:=xt.a7;refine aa ?_;refine _9 (sig:=afe) Cx (YN _) (YN _) λr aT=>?_;refine aa ?_;refine N_ (λg1=>?_) (λg1=>?_)
   .have cv:x.1≠s.2.1:=λe=>aT.1 g1 (by rw[e]);rw[if_pos cv] at jP;subst jP;refine aa ?_;intro oQ fF a8;refine aa ?_;exact⟨(),trivial,xt.lO fF a8 n34 Ka,fF.CG CC⟩
   .have heq:x.1=s.2.1:=aoO _ _ (Classical.byContradiction λaw=>by rw[aT.2 aw] at g1;cases g1);rw[if_neg (by simp[heq])] at jP;subst jP;refine aa ?_;exact⟨(),trivial,xt,(Ext.refl e9).CG⟩
  rintro _ S oQ ⟨Se,aaL⟩;replace bS:=fb.obj aaL bS abx BS;have QL:=Se.mod.block bx (cq QK) (by simp;omega);rw[QK] at QL;have ZZ:=Se.a7;have Y4:∀b∈[bV,cQ,dJ],w.heap.size<=b:=λb ak=>by
   have:=r2.size
   simp at ak;rcases ak with rfl | rfl | rfl<;>omega
  refine dV ?_;simp -dsimp only[cK];refine dV ?_;intro Ct dT bn;have ab1:=Se.iK dT bn n35 Ka;have amD:=fb.trans aaL (dT.CG CC);have awg:=dT.obj QL Aw;replace bS:=dT.obj bS (by simp at abx;omega);have Fv:Ext w Ct:=ab1.mod.ext (yh (Ext.refl _)) λk hk a=>by have:=Y4 k a;omega
  clear QL ZZ;obtain⟨rm,vy⟩:=Nb Bo.aV;have o7:rm<m.procs.length:=by have:=Bo.U;omega
  obtain⟨a,rfl⟩:=ab.addr;obtain⟨aj,bY,dQ,c5,eU,eA⟩:=ab.at rm o7;obtain⟨_,_,rfl,_⟩:=eU.form;obtain⟨_,_,rfl,lc⟩:=eA.form;have nb:td m x.1=m.procs[rm].c4.length:=by
   unfold td;rw[vy,iP Aw Aw];simp
  rw[nb] at zf;refine aa ?_;refine K_ rm vy o7 ?_;refine aa ?_;refine L_ 26 m.procs[rm].c4.length [1,3,4,5,6,25] (λ_=>[]) () (λj _ b4=>mP tj bV cQ dJ (at',x.1,s.2.2++o.refsOf at' j) b4/\fb tj.heap.size [bV,cQ,dJ] [T.c] e9 b4) a6 a6 ⟨by simpa[o.refsOf] using ab1,amD⟩ ?_;rintro j _ S lU ay ⟨GV,Q0⟩;refine aa ?_;apply I_<;>intro g2
  .obtain⟨aN,n,c,aO,aS⟩:=GV.ex;have bo:=GV.aF;have axl:=GV.mod.size;refine aa ?_;intro sA avH hi bc b3;refine aa ?_;have hlen:(s.2.2++o.refsOf at' j).length+1<=5000:=by
    simp only[List.length_append,o.refsOf,List.length_map,List.length_range];omega
   refine _U (ys:=[(⟨at',(j:Int)⟩:o.Ref)]) (aS.ext bc) (λ_=>rfl) (by simpa[o.Ref.enc] using hK b3) rfl (by intro y u hu;simp[o.Ref.enc] at hu;rcases hu with rfl | rfl<;>rfl)
    (by simp only[List.length_cons,List.length_nil];omega) (by simp only[List.length_cons,List.length_nil];unfold maxLen;omega) (by have:=bc.size;omega) λbU agK gy ua _=>?_
   obtain⟨iQ,qS,rfl,_⟩:=gy.form;have av2:agK.heap[bV]? = some (.cells #[.slice aN n c] T.g):=by
    rw[ua.block bV (cq (bc.obj aO)) λe=>?_]
    .exact bc.obj aO
    .obtain⟨cur,ab⟩:=(aS.ext bc).cy bV e.symm;exact absurd (yD ab (bc.obj aO)) BS
   refine aa ?_;intro avB gA cG;obtain⟨aop,amE⟩:=(GV.ext bc).app (bc.obj aO) (aS.ext bc) gy ua gA cG n34 n35;refine aa ?_;exact⟨Aw,aJ,(),trivial,by rw[aez,<-NC];exact aop,fb.trans Q0 (fb.trans bc.CG amE)⟩
  .have nH:j=m.procs[rm].c4.length:=Aw
   refine aa ?_;refine⟨fb.keeps Q0 (λb ak=>?_),fb.iG Q0 (Ns (yh (Ext.refl _)).size ajk) (yh (Ext.refl _)).size (λb ak=>⟨Y4 b ak,λc t f hk aB=>?_⟩) BS,?_⟩
   .simp at ak;rcases ak with rfl | rfl | rfl<;>omega
   .simp at ak;rcases ak with rfl | rfl | rfl
    .obtain⟨_,_,_,e,_⟩:=xt.ex
     have:=yD hk e;subst this;revert aB;decide
    .have:=yD hk xt.aF;subst this;revert aB;decide
    .have:=yD hk xt.a7;subst this;revert aB;decide
   .show mP tj bV cQ dJ _ lU;rw[key]
    have:nj m s x.1=(at',x.1,s.2.2++o.refsOf at' j):=by unfold nj;rw[jP,nb,nH]
    rw[this];exact GV
 .rintro D xs W gv b7 hY bb;obtain⟨aN,n,c,aO,aS⟩:=hY.ex;have tZ:=asR m;rw[b7] at aS;rw[tZ] at aS;simp -dsimp only[dg,cK,Nat.reduceAdd,Nat.reduceEqDiff,reduceIte,reduceCtorEq,dq];refine _E aO (Ext.refl _) rfl ?_;simp -dsimp only[dg,cK,Nat.reduceAdd,Nat.reduceEqDiff,reduceIte,reduceCtorEq,dq];refine gL.ret bb ?_;simp -dsimp only[dg,cK,Nat.reduceAdd,Nat.reduceEqDiff,reduceIte,reduceCtorEq,dq];have wY:w.heap.size<=tj.heap.size:=(yh (Ext.refl _)).size;have bG:Ext w W:=hY.mod.ext (yh (Ext.refl _)) λk hk a=>by
   have:=r2.size
   simp at a;rcases a with rfl | rfl | rfl<;>omega
  refine⟨(aS.mod (A:=λk=>k=D) ((dw.fJ _ _ _).mod rfl) λk hk a=>?_).low wY,bG.fJ (Ns wY gv) _⟩;subst a;obtain⟨cur,ab⟩:=aS.cy k hk;rw[bb] at ab;injection ab with ab;cases ab
end Go.Proofs.R
namespace o
def acn:∀(y:cP),∀u∈y.enc,u.oneCell'=true:=by intro y u hu;simp[cP.enc] at hu;rcases hu with rfl | rfl<;>rfl
def asO:∀(y:Ref),∀u∈y.enc,u.oneCell'=true:=by intro y u hu;simp[Ref.enc] at hu;rcases hu with rfl | rfl<;>rfl
end o
namespace Go.Proofs.R
open Go Go.RowKit ba o
def tf(cs:C_ B_)(m:o.Model)(w:A_)(h:dh w cs m)(aG:m.cr) :
  Ei F.Hj #[.agg cs.toArray] w λv w'=>aK cP.enc T.d 2 w.heap.size w' v (o.insts m)/\Ext w w':=by
 obtain⟨bZ,bz,bN,c1,bT,c2,bW,bw,b1,bD,rfl,ad,h1,J,ab,aF,eB,dD,dO,dU,eg⟩:=h.form;have au:=aG.procs;have aE:=vI m;unfold ev at au;refine bk E.Hj ?_;refine aa ?_;intro w1 bx cN af al;refine aa ?_;refine L_ 4 m.procs.length [1] (λx:fk×C_ cP=>[(3,.slice x.1.1 x.1.2.1 x.1.2.2)]) ((none,0,0),[]) (λk x w'=>(Ext w w'/\w'.heap[bx]? = w1.heap[bx]?)/\aK cP.enc T.d 2 w.heap.size w' (.slice x.1.1 x.1.2.1 x.1.2.2) x.2/\x.2++kg m (m.procs.drop k) k=o.insts m) a6 a6 ⟨⟨af,rfl⟩,aK.nil _ _ _ _ _,by simp[o.insts]⟩ ?_;rw[al];clear al;rintro k ⟨v,l⟩ S az hk ⟨⟨ai,ao⟩,dy,r6⟩;refine aa ?_;apply I_<;>intro g1
 .have a1:k<m.procs.length:=Aw
  obtain⟨a,rfl⟩:=ab.addr;obtain⟨aj,bY,dQ,c5,eU,eA⟩:=ab.at k a1;obtain⟨_,_,rfl,_⟩:=eU.form;obtain⟨_,_,rfl,_⟩:=eA.form;rw[aco a1] at r6;have ql:=congrArg List.length r6;simp only[List.length_append] at ql;have tY:=Fy m m.procs[k];refine dV ?_;simp -dsimp only[cK];refine dV ?_;refine R_ [1,4] (λx:fk=>[(3,.slice x.1 x.2.1 x.2.2)]) (λx w'=>(Ext w w'/\w'.heap[bx]? = az.heap[bx]?)/\aK cP.enc T.d 2 w.heap.size w' (.slice x.1 x.2.1 x.2.2) (l++jF k m.procs[k])) ?_ ?_
  .refine aa ?_;apply I_<;>intro g2
   .have bG:jF k m.procs[k]=[⟨(k:Int),0⟩]:=by unfold jF;rw[if_pos g2]
    rw[bG] at ql ⊢;simp only[List.length_cons,List.length_nil] at ql;refine aa ?_;intro aM bV eX ag a8;have ez:=dy.ext ag;have pL:=ag.obj ao;refine aa ?_;refine S_ (y:=⟨(k:Int),0⟩) ez a8 rfl (λ_=>rfl) acn (by simp only;omega) (by unfold maxLen;simp only;omega) (ai.trans ag).size λaN n c aR dj mY=>?_;refine aa ?_;exact⟨(aN,n,c),a6,⟨ez.jL (ai.trans ag) mY (E1 _),by rw[ao];exact ez.box mY pL BS⟩,dj⟩
   .have bG:jF k m.procs[k]=[]:=by unfold jF;rw[if_neg g2]
    refine aa ?_;exact⟨v,a6,⟨ai,aJ⟩,by rw[bG,S5];exact dy⟩
  rintro v3 S aM ⟨⟨ag,a8⟩,ez⟩;rw[ao] at a8;clear ao;refine aa ?_;refine _L [1,4] (λx:fk×Nat=>[(3,.slice x.1.1 x.1.2.1 x.1.2.2),(5,.I ((x.2:Int)+1))]) (v3,0) (λx w'=>(x.2<=o.elems m m.procs[k]/\Ext w w'/\w'.heap[bx]? = aM.heap[bx]?)/\aK cP.enc T.d 2 w.heap.size w' (.slice x.1.1 x.1.2.1 x.1.2.2) (l++jF k m.procs[k]++kk k x.2)) (λx=>4 - x.2) a6 ⟨⟨AF4 _,ag,rfl⟩,by simpa[kk] using ez⟩ ?_;rw[a8];clear a8;rintro⟨v4,j⟩ S aR ⟨⟨ay,aq,bn⟩,dj⟩;refine aa ?_;refine P_ _ (λw' e=>asE _ m m.procs[k] _ _ w' (h.ext (aq.trans e))) ?_;refine aa ?_;intro bg ar;have bI:=ar.obj bn;have dC:=dj.ext ar;refine aa ?_;apply I_<;>intro g2
  .have eT:j<o.elems m m.procs[k]:=Aw
   refine aa ?_;intro bp dm e8 aC bS;have dk:=dC.ext aC;have pL:=aC.obj bI;have xf:=(aq.trans ar).trans aC;refine aa ?_;have hA:(l++jF k m.procs[k]++kk k j).length+1<=(o.insts m).length:=by
    simp only[List.length_append,kk,List.length_map,List.length_range] at ql ⊢;omega
   refine S_ (y:=⟨(k:Int),(j:Int)+1⟩) dk bS rfl (λ_=>rfl) acn (Ns (AI9 16 hA) Aw) (Ns hA (by unfold maxLen;omega)) xf.size λaN n c bH dY jR=>?_;refine aa ?_;exact⟨((aN,n,c),j+1),a6,⟨⟨by show j+1<=_;omega,dk.jL xf jR (E1 _),dk.box jR pL BS⟩,by rw[adN,<-NC];exact dY⟩,by show 4 - (j+1)<4 - j;omega⟩
  .have nH:j=o.elems m m.procs[k]:=by simp only at ay;omega
   refine aa ?_;exact⟨a1,aJ,(v4,l++(jF k m.procs[k]++kk k j)),a6,⟨aq.trans ar,bI⟩,by rw[<-NC];exact dC,by rw[nH,<-r6];simp⟩
 .rw[AE9 Aw] at r6;refine aa ?_;refine⟨?_,ai⟩;simp only[kg,List.append_nil] at r6;rw[<-r6];exact dy
def asJ(cs:C_ B_)(m:o.Model)(w:A_)(h:dh w cs m)(aG:m.cr)(hM:(o.refs m).length*16<=140737488351232) :
  Ei F.Hk #[.agg cs.toArray] w λv w'=>aK o.Ref.enc T.c 2 w.heap.size w' v (o.refs m)/\Ext w w':=by
 obtain⟨bZ,bz,bN,c1,bT,c2,bW,bw,b1,bD,rfl,ad,h1,J,ab,aF,eB,dD,dO,dU,eg⟩:=h.form;refine bk E.Hk ?_;refine aa ?_;intro w1 bx cN af al;refine aa ?_;refine J_ (tf _ m w1 (h.ext af) aG) ?_;rintro bK az ⟨U,ai⟩;have ao:=ai.obj al;have jT:ix az bK (o.insts m):=aK.e4 (enc:=cP.enc) (λ_=>rfl) U;obtain⟨ca,ci,rfl,bi⟩:=jT.form;have PN:=af.trans ai;refine aa ?_;refine L_ 5 (o.insts m).length [1,3] (λx:fk×C_ o.Ref=>[(4,.slice x.1.1 x.1.2.1 x.1.2.2)]) ((none,0,0),[]) (λk x w'=>(Ext az w'/\aK o.Ref.enc T.c 2 az.heap.size w' (.slice x.1.1 x.1.2.1 x.1.2.2) x.2)/\x.2++qx m ((o.insts m).drop k) k=o.refs m) a6 a6 ⟨⟨Ext.refl _,aK.nil _ _ _ _ _⟩,by simp[o.refs]⟩ ?_;rintro k ⟨v,l⟩ S aM hk ⟨⟨ag,ez⟩,Dz⟩;have a8:=ag.obj ao;refine aa ?_;apply I_<;>intro g1
 .have a1:k<(o.insts m).length:=Aw
  have Bo:=rl (o.insts m)[k] (E2 _);obtain⟨rm,vy⟩:=Nb Bo.aV;have o7:rm<m.procs.length:=by have:=Bo.U;omega
  obtain⟨a,rfl⟩:=ab.addr;obtain⟨gu,rfl⟩:=jT.addr;obtain⟨aj,bY,dQ,c5,eU,eA⟩:=ab.at rm o7;obtain⟨_,_,rfl,_⟩:=eU.form;obtain⟨_,_,rfl,lc⟩:=eA.form;have nb:td m (o.insts m)[k]=m.procs[rm].c4.length:=by
   unfold td;rw[vy,iP Aw Aw];simp
  rw[asP a1,nb] at Dz;have ql:=congrArg List.length Dz;simp only[List.length_append] at ql;refine aa ?_;refine L_ 6 m.procs[rm].c4.length [1,3,5] (λx:fk=>[(4,.slice x.1 x.2.1 x.2.2)]) v (λj x w'=>Ext az w'/\aK o.Ref.enc T.c 2 az.heap.size w' (.slice x.1 x.2.1 x.2.2) (l++o.refsOf k j)) a6 a6 ⟨ag,by simpa[o.refsOf] using ez⟩ ?_;clear a8;rintro j v4 S aR ay ⟨aq,dj⟩;have bn:=aq.obj ao;have DE:=c5.ext PN;refine aa ?_;refine K_ rm vy o7 ?_;refine aa ?_;intro bg ar;have dC:=dj.ext ar;refine aa ?_;apply I_<;>intro g2
  .have eT:j<m.procs[rm].c4.length:=Aw
   refine aa ?_;intro bp dm e8 aC bS;have dk:=dC.ext aC;have xf:=(aq.trans ar).trans aC;refine aa ?_;have hA:(l++o.refsOf k j).length+1<=(o.refs m).length:=by
    simp only[List.length_append,o.refsOf,List.length_map,List.length_range] at ql ⊢;omega
   refine S_ (y:=⟨(k:Int),(j:Int)⟩) dk bS rfl (λ_=>rfl) asO Aw (by unfold maxLen;omega) xf.size λaN n c bH dY jR=>?_;refine aa ?_;exact⟨eT,aJ,(aN,n,c),a6,dk.jL xf jR (E1 _),by rw[aez,<-NC];exact dY⟩
  .have nH:j=m.procs[rm].c4.length:=Aw
   refine aa ?_;exact⟨a1,aJ,(v4,l++o.refsOf k j),a6,⟨aq.trans ar,dC⟩,by rw[nH,<-Dz];simp⟩
 .rw[AE9 Aw] at Dz;refine aa ?_;refine⟨?_,PN.trans ag⟩;simp only[qx,List.append_nil] at Dz;rw[<-Dz];exact ez.low PN.size
def zJ(cs:C_ B_)(m:o.Model)(w:A_)(h:dh w cs m)(aG:m.cr)(ck:uU m) :
  Ei F.Hk #[.agg cs.toArray] w λv w'=>aK o.Ref.enc T.c 2 w.heap.size w' v (o.refs m)/\Ext w w' :=
 asJ cs m w h aG (by have:=pn ck;omega)
end Go.Proofs.R
namespace ba
open Go
def bX(n:Int):C_ B_:=[.int .i64 n]
def ht:∀(y:Int),∀u∈bX y,u.oneCell'=true:=by intro y u hu;simp[bX] at hu;subst hu;rfl
instance axq:px (Flat bX) (λn=>[Value.int .i64 n]):=⟨λ_ _ _ h=>h⟩
end ba
namespace Go.Proofs.R
open Go Go.RowKit ba o
abbrev encI:Int->C_ B_:=λn=>[Value.int .i64 n]
abbrev uV(base:Nat)(w:A_)(v:B_)(xs:C_ Int):Prop:=aK encI T.a 1 base w v xs
structure rH(base b:Nat)(w:World)(m:Value)(st:List Int):Prop where
 ex:∃BV,w.heap[b]? = some (.cells #[BV,m] T.nV)/\uV base w BV st
 lt:b<base
 le:base<=w.heap.size
theorem rH.ext{base b:Nat}{w w':A_}{m:B_}{st:C_ Int}(h:rH base b w m st)(he:Ext w w'):rH base b w' m st :=
 let ⟨BV,h1,J⟩:=h.ex
 ⟨⟨BV,he.obj h1,J.ext he⟩,h.lt,Ns h.le he.size⟩
theorem FK(st:C_ Int)(h:0<st.length):st.getLastD 0=st[st.length - 1]:=by
 rw[List.getLastD_eq_getLast?,List.getLast?_eq_getElem?,List.getElem?_eq_getElem Aw];rfl
def afC(base b:Nat)(w:A_)(m:B_)(st:C_ Int)(h:rH base b w m st)(ad:0<st.length) :
  Ei F.gc #[.pointer (some ⟨b,0,none⟩)] w λv w'=>v = .I (st.getLastD 0)/\Ext w w':=by
 obtain⟨BV,cI,aS⟩:=h.ex;obtain⟨aN,cap,rfl,an,hm⟩:=aS.form;have U:Ints w _ st:=aK.iR (enc:=encI) (sz:=1) (λ_=>rfl) aS;obtain⟨a,rfl⟩:=U.addr ad;unfold maxLen at hm;refine bk E.gc ?_;refine aI ?_;refine K_ (st.length - 1) Aw Aw ?_;refine aI ?_;intro w1 he;refine aI ?_;rw[FK _ ad];exact cc
def ao9(x:o.Node)(cs:C_ B_)(s:o.Scope)(base b:Nat)(w:A_)(m:B_)(st:C_ Int)(ah:x.ok)(h:gk w cs s)(hm:rH base b w m st)(ab:x.op=3->0<st.length) :
  Ei F.eK #[.pointer (some ⟨b,0,none⟩),.agg x.enc.toArray,.agg cs.toArray] w λv w'=>v = .tuple #[.I (jC x s (st.getLastD 0)).1,.I (jC x s (st.getLastD 0)).2]/\Ext w w':=by
 obtain⟨a0,bz,db,c1,a2,c2,a3,bw,a4,bD,rfl,pk,c7,dE,ed,gW,eB,dD,dO,dU,eg⟩:=h.form;refine bk E.eK ?_;simp -dsimp only[cK];refine rO ?_;refine O_ λw1 bx cN af al=>?_;refine rO ?_;refine O_ λaz bP c8 ai ao=>?_;have he:=af.trans ai;have cM:az.heap[bx]? = some (.cells #[.I x.op,.I x.n] T.e):=ai.obj al;clear al;refine rO ?_;simp -dsimp only[cK];refine rO ?_;refine _v (λaZ w'=>aZ 0 = .pointer (some ⟨b,0,none⟩)/\aZ 4 = .pointer (some ⟨bx,0,none⟩)/\aZ 5 = .pointer (some ⟨bP,0,none⟩)/\w'=az/\(x.op=2\/x.op=3\/x.op=4) /\
  aZ 8=if x.op=4 then .slice a4 s.locals.length bD else .slice db s.vars.length c1) ?_ ?_
 .refine aI ?_;apply I_<;>intro g1
  .refine aI ?_;refine J_ (O3 x.n 0 az) ?_;rintro _ aM ⟨rfl,ag⟩;have hk:jC x s (st.getLastD 0)=if o.within x.n then (0,0) else (0,10):=by rw[jC,if_pos g1]
   have aB:(o.tell (· + ·) x.n 0).2=o.within x.n:=by
    unfold o.tell
    have:o.within 0=true:=rfl
    simp only[Int.add_zero,this,Bool.and_true,Bool.and_self];split<;>simp_all
   rw[hk,aB];refine aI ?_;refine N_ (λg2=>?_) (λg2=>?_)
   all_goals
    refine aI ?_;rw[g2];exact cc
  refine aI ?_;apply I_<;>intro g4
  .refine aI ?_;refine⟨trivial,trivial,trivial,trivial,.inr (.inr g4),by rw[if_pos g4]⟩
  refine aI ?_;apply I_<;>intro g2
  .refine aI ?_;refine⟨trivial,trivial,trivial,trivial,.inl g2,by rw[if_neg g4]⟩
  refine aI ?_;apply I_<;>intro g3
  .refine aI ?_;refine⟨trivial,trivial,trivial,trivial,.inr (.inl g3),by rw[if_neg g4]⟩
  refine aI ?_;refine T_ (c:=[_,_]) cM (Ext.refl _) rfl ?_;refine aI ?_;refine T_ (c:=[_,_,_,_,_,_]) ao (Ext.refl _) rfl ?_;refine aI ?_;refine J_ (apa x _ s az ah (h.ext he)) ?_;rintro _ aM ⟨rfl,ag⟩;refine aI ?_;have hk:jC x s (st.getLastD 0)=nf x s:=by rw[jC,if_neg g1,if_neg Aw]
  rw[hk];exact cc
 .rintro S w' b7 ⟨kH,qB,pV,rfl,nd,ae2⟩;have hk:jC x s (st.getLastD 0)=(let q:=gB (if x.op=4 then s.locals else s.vars) x.n s;if q.2.2=false then (0,8) else if (x.op=3/\(q.2.1=0\/st.getLastD 0≠q.2.1))\/(x.op≠3/\q.2.1≠0) then (0,9) else (q.1,0)):=by
   rw[jC,if_neg Aw,if_pos nd]
  rw[hk];clear hk;have aH:h8 w' (S 8) (if x.op=4 then s.locals else s.vars):=by
   rw[ae2];split
   .exact gW.ext he
   .exact c7.ext he
  generalize (if x.op=4 then s.locals else s.vars)=l at aH ⊢;obtain⟨UJ,eK⟩:∃UJ,S 8=UJ:=⟨_,rfl⟩;rw[eK] at aH;clear ae2;refine en (i_ kH (i_ qB (i_ pV eK))) ?_;refine T_ (c:=[_,_,_,_,_,_]) ao (Ext.refl _) rfl ?_;refine en (i_ kH (i_ qB pV)) ?_;refine J_ (auM _ l x.n _ s w' aH (h.ext he)) ?_;rintro _ aM ⟨rfl,ag⟩;generalize gB l x.n s=q;obtain⟨zG,BJ,TJ⟩:=q;refine en (i_ kH (i_ qB pV)) ?_;refine N_ (λg1=>?_) (λg1=>?_);rotate_left
  .refine aI ?_;simp only[g1,if_true];exact cc
  have m3:=(hm.ext he).ext ag;refine en (i_ kH (i_ qB pV)) ?_;apply I_<;>intro g2
  .refine en (i_ kH (i_ qB pV)) ?_;apply I_<;>intro g3
   .refine en (i_ kH (i_ qB pV)) ?_;simp only[g1,Bool.true_eq_false,if_false];rw[if_pos (.inl ⟨g2,.inl g3⟩)];exact cc
   refine en (i_ kH (i_ qB pV)) ?_;refine J_ (afC base b aM m st m3 (ab g2)) ?_;rintro _ aR ⟨rfl,aq⟩;refine en (i_ kH (i_ qB pV)) ?_;apply I_<;>intro g4
   .refine en (i_ kH (i_ qB pV)) ?_;simp only[g1,Bool.true_eq_false,if_false];rw[if_neg Aw];exact cc
   .refine aI ?_;simp only[g1,Bool.true_eq_false,if_false];rw[if_pos (.inl ⟨g2,.inr g4⟩)];exact cc
  .refine en (i_ kH (i_ qB pV)) ?_;apply I_<;>intro g4
   all_goals
    refine aI ?_;simp only[g1,Bool.true_eq_false,if_false]
   .rw[if_neg Aw];exact cc
   .rw[if_pos (.inr ⟨g2,g4⟩)];exact cc
def _w{P:D_}{x:B_}{args:C_ B_}{w:A_}{bl:B_->Prop}{t}(v:B_)(h:∀w',Ext w w'->yf P x args w' (λu bO=>u=v/\Ext w' bO) ⟨⟩)(hk:bl v):IJ P x args w bl t:=by
 unfold IJ;refine⟨v,λw' he=>?_,hk⟩
 have:=h w' he
 unfold yf at this;obtain⟨f,first,cap,e,ax,aT⟩:=this;exact⟨f,first,cap,e,ax,aT.mono λ_ _ ⟨h1,J⟩=>⟨h1,he.trans J⟩⟩
theorem yg.ext{w w':A_}{v:B_}{g:Int->Int->Int×Bool}(he:Ext w w')(h:yg w v g):yg w' v g:=by
 rcases h with h | ⟨c,f,p,h1,J,ab⟩
 .exact .inl h
 .exact .inr ⟨c,f,p,h1,he.obj J,ab⟩
def NG(f:o.Node->C_ Int->Int×Int)(two:p6->C_ Int->Int×Int)(leaf:o.Node->C_ Int->Int×Int):Prop :=
 ∀x st,f x st=match hp x.op with | some ae=>two ae (st.drop (st.length - ae.parts.toNat)) | none=>leaf x st
def Tl{x:Int}{ae:p6}(h:hp x=some ae):1<=ae.parts/\ae.parts<=2:=by
 unfold hp at h
 repeat' split at h
 all_goals first | (cases h;exact⟨BS,BS⟩) | cases h
def aub(f:o.Node->C_ Int->Int×Int)(two:p6->C_ Int->Int×Int)(leaf:o.Node->C_ Int->Int×Int)(ax:NG f two leaf)
  (x:o.Node)(base b:Nat)(w:A_)(m nQ v2:B_)(st:C_ Int)(hm:rH base b w m st)(aS:rI w m)(w4:st.length<=24)
  (RD:0<=fR x.op->fR x.op<=st.length->hp x.op=none->∀w' cO t,Ext w w'->(∀bO,Ext w' bO->cO (.tuple #[.I (leaf x st).1,.I (leaf x st).2]) bO)->B8 Tryz.prog nQ [.agg x.enc.toArray] w' cO t)
  (Sh:∀ae ei fa w' cO t,Ext w w'->hp x.op=some ae->EP w' ae ei->ae.parts<=st.length->Ints w' fa (st.drop (st.length - ae.parts.toNat)) ->
   (∀bO,Ext w' bO->cO (.tuple #[.I (two ae (st.drop (st.length - ae.parts.toNat))).1,.I (two ae (st.drop (st.length - ae.parts.toNat))).2]) bO)->yf Tryz.prog v2 [ei,fa] w' cO t) :
  Ei F.f9 #[.pointer (some ⟨b,0,none⟩),.agg x.enc.toArray,nQ,v2] w λv w' =>
   v = .I (o.stepG f x st).1/\Mod (λk=>k=b\/base<=k) w w'/\((o.stepG f x st).1=0->rH base b w' m (o.stepG f x st).2):=by
 obtain⟨BV,cI,gz⟩:=hm.ex;obtain⟨aN,cap,rfl,Gh,l4⟩:=gz.form;have U:Ints w _ st:=aK.iR (enc:=encI) (sz:=1) (λ_=>rfl) gz;unfold maxLen at l4;refine bk E.f9 ?_;simp -dsimp only[cK];refine rO ?_;refine O_ λw1 bx cN af al=>?_;refine rO ?_;simp -dsimp only[cK];refine rO ?_;refine P_ _ (λw' e=>art x.op m w' (aS.ext (af.trans e))) ?_;refine rO ?_;intro az ai;have dH:=af.trans ai;refine rO ?_;simp -dsimp only[cK];generalize aw:fR x.op=n;have hn : -1<=n/\n<=2:=by rw[<-aw];unfold fR; (repeat' split)<;>omega
 refine aI ?_;apply I_<;>intro g1
 .refine aI ?_;have aj:o.stepG f x st=(3,st):=by unfold o.stepG;rw[aw,if_pos g1]
  rw[aj];exact⟨rfl,dH.mod,λh=>by cases h⟩
 refine aI ?_;apply I_<;>intro g2
 .refine aI ?_;have aj:o.stepG f x st=(4,st):=by unfold o.stepG;rw[aw,if_neg g1,if_pos g2]
  rw[aj];exact⟨rfl,dH.mod,λh=>by cases h⟩
 refine rO ?_;simp -dsimp only[cK];refine rO ?_;simp -dsimp only[cK];refine rO ?_;have lh:o.stepG f x st=if (f x st).2≠0 then ((f x st).2,st) else if (st.take (st.length - n.toNat)++[(f x st).1]).length > 12 then (12,st) else (0,st.take (st.length - n.toNat)++[(f x st).1]):=by
  unfold o.stepG;rw[aw,if_neg g1,if_neg g2]
 rw[lh];clear lh;have za:=ax x st;generalize aT:f x st=r at za ⊢;refine _v (λaZ w'=>aZ 0 = .pointer (some ⟨b,0,none⟩)/\aZ 9 = .I n/\aZ 10 = .I r.1/\aZ 11 = .I r.2/\Ext w w') ?_ ?_
 .refine aI ?_;intro aM ag;obtain⟨es,q,kh,h2,xC⟩:=(aS.ext (dH.trans ag)).look x.op;refine aI ?_;refine _m kh h2 ?_;cases nd:hp x.op with
  | none =>
   simp only[nd] at xC za;subst xC;simp only[nL,Option.map_none,Option.getD_none,Option.isSome_none,if_true];refine aI ?_;refine O_ λaR cQ fD aq bn=>?_;refine⟨aq,?_⟩;refine aI ?_;refine U_ (cs:=#[.I 0,.I 0,.I 0,.nilFunc]) bn rfl rfl (by simp[Value.oneCell']) λbg e3 bI=>?_;have ar:Ext aM bg:=e3.ext aq fD;clear bn e3 aq;refine aI ?_;refine T_ (c:=[_,_]) (ai.obj al) (fU) rfl ?_;refine aI ?_;refine RD Aw Aw nd _ _ _ ((dH.trans ag).trans ar) λbp aC=>?_;refine aI ?_;rw[za];exact⟨trivial,trivial,rfl,rfl,((dH.trans ag).trans ar).trans aC⟩
  | some ae =>
   simp only[nd] at xC za;obtain⟨i,ei,rfl,u,rfl,bb⟩:=xC;obtain⟨bN,bT⟩:=Tl nd;have on:=(Hu nd).1;simp only[nL,Option.map_some,Option.getD_some,Option.isSome_some,if_true];refine aI ?_;refine O_ λaR cQ fD aq bn=>?_;refine⟨aq,?_⟩;refine aI ?_;refine U_ (cs:=#[.I ae.parts,.I ae.jW,.I ae.makes,u]) bn rfl rfl (by rcases bb with ⟨f,rfl,_⟩ | ⟨c,f,p,rfl,_⟩<;>simp[Value.oneCell']) λbg e3 bI=>?_;have ar:Ext aM bg:=e3.ext aq fD;clear bn e3 aq;have Rh:=(dH.trans ag).trans ar;have awI:EP aM ae (.agg #[.I ae.parts,.I ae.jW,.I ae.makes,u]):=⟨u,rfl,bb⟩;obtain⟨p,rfl⟩:=Nb (show 0<=n by omega);have au:ae.parts.toNat=p:=Aw
   refine aI ?_;refine T_ (c:=[_,_,_,_]) bI (Ext.refl _) rfl ?_;refine aI ?_;refine _8 (st.length - p) (by refine aX ?_;rw[Int.ofNat_sub Aw]) ⟨Aw,Aw⟩ ?_;have aB:=U.tail (st.length - p) Aw;rw[au] at za;refine aI ?_;refine _w _ (λw' e=>Sh ae _ _ w' _ _ (Rh.trans e) nd ⟨u,rfl,bb.ext (ar.trans e)⟩ Aw (by rw[au];exact aB.ext Flat.ext (Rh.trans e)) λbO aD=>⟨rfl,aD⟩) ?_;refine aI ?_;intro bp aC;refine aI ?_;rw[za,au];exact⟨trivial,trivial,rfl,rfl,Rh.trans aC⟩
 .clear al af ai dH;rintro S aM b7 ⟨kH,HM,HL,Ef,ag⟩;simp -dsimp only[cK];refine en (i_ kH (i_ HM (i_ HL Ef))) ?_;apply I_<;>intro g3;rotate_left
  .refine en Ef ?_;rw[if_pos g3];exact⟨rfl,ag.mod,λh=>absurd h g3⟩
  obtain⟨p,rfl⟩:=Nb (show 0<=n by omega);have rV:¬r.2≠0:=by simpa using g3
  rw[if_neg rV];have l4:(st.take (st.length - p)++[r.1]).length=st.length - p+1:=by simp[List.length_take]
  have jz:=hm.ext ag;have ez:uV base aM (.slice aN st.length cap) st:=gz.ext ag;refine rO ?_;simp -dsimp only[cK];refine en (i_ kH (i_ HM (i_ HL Ef))) ?_;intro aR aq;have dj:uV base aR (.slice aN st.length cap) st:=ez.ext aq;refine en (i_ kH (i_ HM (i_ HL Ef))) ?_;refine _i (st.length - p) (by refine aX ?_;rw[Int.ofNat_sub Aw]) Aw ?_;refine en (i_ kH (i_ HM (i_ HL Ef))) ?_;refine _D (cs:=[r.1].flatMap encI) (by simp[List.range,List.range.loop,gG,lay,dc,bE,Value.cells,encI]) λbg dJ jc ar bI=>?_;refine⟨ar,?_⟩;refine aI ?_;have dC:uV base bg (.slice aN (st.length - p) cap) (st.take (st.length - p)):=aK.head (enc:=encI) (sz:=1) (xs:=st) (λ_=>rfl) (aK.ext ar dj) (st.length - p) (Nat.sub_le _ _);have cu:(st.take (st.length - p)).length=st.length - p:=by simp[List.length_take]
  have D4:((st.take (st.length - p)).length+[r.1].length)*8<=140737488355328:=by rw[cu];simp only[List.length_cons,List.length_nil];omega
  have arY:(st.take (st.length - p)).length+[r.1].length<=maxLen:=by rw[cu];simp only[List.length_cons,List.length_nil,maxLen];omega
  have c7:∀y,∀u∈encI y,u.oneCell'=true:=λy u h=>by simp[encI] at h;subst h;rfl
  refine _j (xs:=st.take (st.length - p)) (ys:=[r.1]) dC (λ_=>rfl) (hK bI) rfl c7 D4 arY (by have:=hm.le;have:=ag.size;have:=aq.size;have:=ar.size;omega) λv6 bp dk ie=>?_;have Di:bg.heap[b]? = some (.cells #[.slice aN st.length cap,m] T.nV):=ar.obj (aq.obj (ag.obj cI));have e8:bp.heap[b]? = some (.cells #[.slice aN st.length cap,m] T.nV):=by
   refine(ie.block b (cq Di) λe=>?_).trans Di
   have:=(dC.lt b e.symm).1
   have:=hm.lt
   omega
  refine aI ?_;refine _H e8 CC (by obtain⟨aN,cap,e,_⟩:=dk.form;rw[e];rfl) λbH dz b3=>?_;have xk:Mod (λk=>k=b\/base<=k) w bH :=
   (((ag.trans aq).trans ar).mod.trans (Mod.grown ie λk hk=>.inr (dC.lt k hk).1)).trans (dz.mod (.inl rfl))
  have hl:rH base b bH m (st.take (st.length - p)++[r.1]) :=
   ⟨⟨v6,b3,dk.wr dz hm.lt⟩,hm.lt,Ns hm.le xk.size⟩
  obtain⟨rq,avQ,rfl,bS,_⟩:=dk.form;rw[l4];have awW:((st.take (st.length - p)++[r.1]).length:Int)=st.length - p+1:=by rw[l4];omega
  refine en (i_ kH (i_ HM (i_ HL Ef))) ?_;apply I_<;>intro g4
  .refine aI ?_;simp only[Int.toNat_natCast,l4];rw[if_pos Aw];exact⟨rfl,xk,λh=>by cases h⟩
  .refine aI ?_;simp only[Int.toNat_natCast,l4];rw[if_neg Aw];exact⟨rfl,xk,λ_=>hl⟩
end Go.Proofs.R