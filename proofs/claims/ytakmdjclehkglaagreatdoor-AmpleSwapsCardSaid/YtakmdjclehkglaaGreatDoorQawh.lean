/- Parts. -/
import Derived.Test.YtakmdjclehkglaaGreatDoorQawg
import Derived.RangeFuncWrites
set_option linter.all false
set_option maxRecDepth 100000
set_option maxHeartbeats 4000000
section
namespace a7
open Go Go.RowKit
inductive sO where
 | tV (g:Operand) (p:Nat) (a b:eR)
 | tY (x:sO) (y:eR)
 | iN (x:eR) (y:sO)
 | cm (id:Nat) (x:sO)
def nn(P:D_)(n:Nat):Code->H_ sO
 | .rangeFunc g dk a b=>match dk.toList,comp P n a,comp P n b with
  | [p],some qD,some hL=>if p<n then some (.tV g p qD hL) else none
  | _,_,_=>none
 | .seq x y=>match comp P n x with
  | some wR=>(nn P n y).map (.iN wR)
  | none=>match nn P n x,comp P n y with
   | some rx,some wS=>some (.tY rx wS)
   | _,_=>none
 | .block id x=>(nn P n x).map (.cm id)
 | _=>none
structure y5 where
 n:Nat
 res:List mH
 code:sO
def zi(P:D_)(f:E_):H_ y5 :=
 match P.funcs[f]? with
 | some fn=>match fn.body with
  | some c=>match nn P fn.ntmps c,x0 P fn.results.toList with
   | some lc,some r=>some ⟨fn.ntmps,r,lc⟩
   | _,_=>none
  | none=>none
 | none=>none
structure Dh(il:World->World->Prop)(B:Nat):Prop where
 trans:∀{a b c:World},il a b->il b c->il a c
 put:∀(W:World) (l:Nat) (ae o':Obj),B<=l->W.heap[l]? = some ae->ae.isCells=false->il W (W.putObj l o')
def mF(hM:Nat)(cv:C_ F_)(W bX:A_):Prop:=Below hM W bX/\∀(k:Nat) (c:Array B_) (t:F_) (f:Nat×Nat),W.heap[k]? = some (.cells c t f)->t∈cv->bX.heap[k]? = W.heap[k]?
theorem mF.ok{hM B:Nat}(cv:C_ F_)(h:hM<=B):Dh (mF hM cv) B where
 trans h k:=⟨h.1.trans k.1,fun i c t f U aA=>by rw[<-h.2 i c t f U aA];exact k.2 i c t f ((h.2 i c t f U aA).trans U) aA⟩
 put W l ae o' az aJ ai:=⟨(Below.refl hM W).grown (grownBy_putObj' W l o') (by have:=(Array.getElem?_eq_some_iff.1 aJ).1;omega) (fun k e=>by cases e;omega),fun k c t f hk _=>by
  have b8:l≠k:=fun e=>by subst e;rw[aJ] at hk;injection hk with hk;subst hk;cases ai
  exact World.putObj_heap_other (Ne.symm b8)⟩
theorem Ext.ig{hM:Nat}{cv:C_ F_}{W bX:A_}(h:Ext W bX)(ax:hM<=W.heap.size):mF hM cv W bX:=⟨Below.mono h ax,fun k c t f hk _=>h.heap (cr hk)⟩
def aqQ{α:Type}(il:A_->A_->Prop)(B:Nat)(cW:C_ α->A_->Prop)(qN:fy->C_ α->A_->Prop)(xs:C_ α)(W:A_):fy->Fr->A_->Prop
 | .normal,_,bX=>KeepsFrom B W bX/\il W bX/\cW xs bX
 | .hj _,_,_=>False
 | e,_,bX=>KeepsFrom B W bX/\qN e xs bX
def ui(B:Nat)(W bX:A_):Prop := ∃l,B<=l/\(∃ae,W.heap[l]? = some ae/\ae.isCells=false)/\W.grownBy bX (some l)
def aeU(P:D_)(g:B_)(p:Nat)(a b:eR)(Q:Nat->fy->Fr->A_->Prop)(S:Fr)(w:A_):Prop :=
 ∃(α:Type) (enc:α->B_) (iW:Nat) (hL:Array B_) (il:A_->A_->Prop) (nS p4:C_ α->Prop) (N:Nat) (w0:A_),g = .func (.func iW) #[] hL/\okF P iW=true/\SeqStopsK Fence.wide 0 P iW hL (fun x=>#[enc x]) il nS p4 N w0/\Ext w0 w/\Dh il w.heap.size /\
 ∃(cW:C_ α->A_->Prop) (qN:fy->C_ α->A_->Prop),OwnFrom w.heap.size cW/\(∀e,OwnFrom w.heap.size (qN e))/\cW [] w /\
  (∀pre x W,cW pre W->pre.length<N->dL P a (vg (fun uj iB=>KeepsFrom w.heap.size W iB/\il W iB/\∀eV,ui w.heap.size iB eV->dL P b (aqQ il w.heap.size cW qN (pre++[x]) eV) uj eV) (fun _ _ _=>False)) (cb S p (enc x)) W) /\
  (∀D xs W,w.heap.size<=D->nS xs->cW xs W->W.heap[D]? = some (.deferred (some []))->Q D .normal S W) /\
  (∀D e pre W,e≠.normal->w.heap.size<=D->p4 pre->qN e pre W->W.heap[D]? = some (.deferred (some []))->Q D e S W)
theorem aqS{α:Type}{enc:α->B_}{P:D_}{g:G_}{p:Nat}{y9 body:Code}{Q:Exit->Act->A_->Prop}{a:Act}{w w0:A_}{iW:Nat}{hL:Array B_}{il:A_->A_->Prop}{N:Nat}{nS p4:C_ α->Prop}
  (aH:a.eval g = .func (.func iW) #[] hL)(c5:okF P iW=true)(tx:SeqStopsK Fence.wide 0 P iW hL (fun x=>#[enc x]) il nS p4 N w0)(he:Ext w0 w)(ti:Dh il w.heap.size)
  (cW:C_ α->A_->Prop)(qN:Code->C_ α->A_->Prop)(aX:OwnFrom w.heap.size cW)(x9:∀c,OwnFrom w.heap.size (qN c))(ad:cW [] w)
  (E9:∀l pre x W,cW pre W->pre.length<N->y9.wpIn (nO (some l)) 1 P (Exit.then (fun cZ iB=>KeepsFrom w.heap.size W iB/\il W iB /\
   ∀eV,ui w.heap.size iB eV->body.wpIn (nO (some l)) 1 P (ownPostG w.heap.size il cW qN (pre++[x]) eV) cZ eV) (fun _ _ _=>False)) { tmps:=a.tmps.setIfInBounds p (enc x),defers:=[] } W)
  (zJ:∀D xs W,w.heap.size<=D->nS xs->cW xs W->W.heap[D]? = some (.deferred (some []))->Q .normal { a with defers:={ target:=.collected D,args:=#[] } :: a.defers } W)
  (JF:∀D c pre W,w.heap.size<=D->p4 pre->qN c pre W->W.heap[D]? = some (.deferred (some []))->c.wpIn Fence.wide 3 P Q { a with defers:={ target:=.collected D,args:=#[] } :: a.defers } W) :
  (Code.rangeFunc g #[p] y9 body).wpIn Fence.wide 3 P Q a w:=by
 refine wpIn_rangeFunc fun fn k9=>?_;obtain⟨ou,uK⟩:∃ou:LoopState->H_ Code->Loop,ou=fun st RW=>{ state:=st,pending:=RW,fn,tmps:=a.tmps,params:=#[p],assign:=y9,body,defers:=w.heap.size }:=⟨_,rfl⟩;obtain⟨w1,hh⟩:∃w1,(w.alloc (.deferred (some []))).alloc (.loop (ou .ready none))=w1:=⟨_,rfl⟩;have aaq:w1.heap.size=w.heap.size+2:=by rw[<-hh];simp
 have mU:w1.heap[w.heap.size+1]? = some (.loop (ou .ready none)):=by
  rw[<-hh]
  have:=World.alloc_heap_new (w.alloc (.deferred (some []))) (.loop (ou .ready none))
  rwa[World.size_alloc] at this
 have pD:w1.heap[w.heap.size]? = some (.deferred (some [])):=by rw[<-hh];exact(Below.heap_alloc _ _ _ Bh).trans (World.alloc_heap_new w _)
 have Jq:cW [] w1:=by rw[<-hh];exact aX.alloc _ (aX.alloc _ ad)
 have cF:Below w0.heap.size w0 w1:=by rw[<-hh];exact(he.alloc _).alloc _
 have low:∀{A B:A_} {row:H_ Nat},(∀r,row=some r->w1.heap.size<=r/\∃ae:Obj,A.heap[r]? = some ae/\ae.isWalk=true)->(∀r,row=some r->w.heap.size<=r/\∃ae:Obj,A.heap[r]? = some ae/\ae.isCells=false) :=
  fun aG r e=>by obtain⟨I,ae,aJ,hw⟩:=aG r e;exact⟨Aw,ae,aJ,Obj.not_cells_of_walk hw⟩
 refine⟨w.heap.size+1,[{ target:=.collected w.heap.size,args:=#[] }],w1,{ target:=.fn (.func iW) hL,args:=#[.func (.yield (w.heap.size+1)) #[] #[]] },w1,iW,
  #[.func (.yield (w.heap.size+1)) #[] #[]]++hL,w1,?_,?_,fun _ _=>trivial,?_,fun _=>BJ,?_⟩
 .rw[<-hh,uK];exact run_enterLoop_outer _ _ _ _ _
 .simp only[resolve,aH];simp[go_sem]
 .simp[invoke,go_sem,CK c5]
 refine CallsIn.mono (NP (r:=none) (callsIn_wide.1 (tx (w.heap.size+1)
  (fun pre W=>cW pre W/\W.heap[w.heap.size+1]? = some (.loop (ou .ready none))/\W.heap[w.heap.size]? = some (.deferred (some [])))
  (fun pre W => ∃c,qN c pre W/\W.heap[w.heap.size+1]? = some (.loop (ou .done (some c)))/\W.heap[w.heap.size]? = some (.deferred (some [])))
  w1 cF ?_ ?_ ?_ ⟨Jq,mU,pD⟩))) ?_
 .exact fun s A B row ak rf aG=>⟨aX s A B row ak.1 rf (low (B:=B) aG),(grownBy_keeps rf (fun r e=>(aG r e).2) ak.2.1 rfl).trans ak.2.1,(grownBy_keeps rf (fun r e=>(aG r e).2) ak.2.2 rfl).trans ak.2.2⟩
 .intro s A B row ak rf aG;obtain⟨c,ai,I,ab⟩:=ak;exact⟨c,x9 c s A B row ai rf (low (B:=B) aG),(grownBy_keeps rf (fun r e=>(aG r e).2) I rfl).trans I,(grownBy_keeps rf (fun r e=>(aG r e).2) ab rfl).trans ab⟩
 .rintro pre x W ⟨U,I,ab⟩ hlen;have bK:=run_yield (P:=P) (args:=#[enc x]) I (by rw[uK];rfl);rw[uK] at bK;refine⟨fn,_,y9,body,bK,acX (r:=none) (m:=0 - 1) ?_⟩;refine(roundIn_of_wpIn (F:=Fence.wide) (n:=1) (l:=w.heap.size+1) k9 ?_) |> fun h=>⟨trivial,fun c cs _=>h.2 c cs (room_wide _)⟩
  have bw:(#[p]:Array Tmp).zip #[enc x]=#[(p,enc x)]:=by apply Array.ext';simp[Array.toList_zip]
  have ajS:=E9 (w.heap.size+1) pre x W U hlen;simp only[bw];refine wpIn_mono ajS fun e cZ iB h=>?_;cases e with
  | normal =>
   obtain⟨cq,cB,e5⟩:=h;have dH:=cq.same _ _ Aw I rfl;have d1:=cq.same _ _ (Gf _) ab rfl;refine⟨_,run_beginRound dH (by rw[uK]),?_⟩;have b4:=(Array.getElem?_eq_some_iff.1 dH).1;have df:(iB.putObj (w.heap.size+1) (.loop { ou .ready none with state:=.busy })).heap[w.heap.size+1]? = some (.loop { ou .ready none with state:=.busy }):=World.putObj_heap_same b4;have d2:(iB.putObj (w.heap.size+1) (.loop { ou .ready none with state:=.busy })).heap[w.heap.size]? = some (.deferred (some [])):=(World.putObj_heap_other Aw).trans d1;have bP:il iB (iB.putObj (w.heap.size+1) (.loop { ou .ready none with state:=.busy })):=ti.put _ _ _ _ Aw dH rfl;refine wpIn_mono (e5 _ ⟨_,Aw,⟨_,dH,rfl⟩,grownBy_putObj' _ _ _⟩) fun e a3 nU aq=>?_;have fin:∀(jump:H_ Code),KeepsFrom w.heap.size (iB.putObj (w.heap.size+1) (.loop { ou .ready none with state:=.busy })) nU ->
     (Instr.endRound (w.heap.size+1) jump).run P nU = .ok (.bool jump.isNone) (nU.putObj (w.heap.size+1) (.loop (ou (if jump.isNone then .ready else .done) jump))) /\
     nU.heap[w.heap.size+1]? = some (.loop { ou .ready none with state:=.busy }) /\
     (nU.putObj (w.heap.size+1) (.loop (ou (if jump.isNone then .ready else .done) jump))).heap[w.heap.size+1]? = some (.loop (ou (if jump.isNone then .ready else .done) jump)) /\
     (nU.putObj (w.heap.size+1) (.loop (ou (if jump.isNone then .ready else .done) jump))).heap[w.heap.size]? = some (.deferred (some [])):=fun jump hK=>by
    have eO:=hK.same _ _ Aw df rfl
    have:=run_endRound (P:=P) jump eO
    rw[uK] at this ⊢;exact⟨this,by rw[uK] at eO;exact eO,World.putObj_heap_same (Array.getElem?_eq_some_iff.1 eO).1,(World.putObj_heap_other Aw).trans (hK.same _ _ (Gf _) d2 rfl)⟩
   cases e with
   | normal =>
    obtain⟨cO,de,dQ⟩:=aq;obtain⟨f1,f2,f3,f4⟩:=fin none cO;exact⟨_,_,f1,.inl ⟨rfl,⟨aX.putObj _ dQ Aw f2 rfl,f3,f4⟩,ti.trans (ti.trans (ti.trans cB bP) de) (ti.put _ _ _ _ Aw f2 rfl)⟩⟩
   | ret =>
    obtain⟨cO,dQ⟩:=aq;obtain⟨f1,f2,f3,f4⟩:=fin (some .ret) cO;exact⟨_,_,f1,.inr ⟨rfl,.ret,(x9 _).putObj _ dQ Aw f2 rfl,f3,f4⟩⟩
   | exit id =>
    obtain⟨cO,dQ⟩:=aq;obtain⟨f1,f2,f3,f4⟩:=fin (some (.exit id)) cO;exact⟨_,_,f1,.inr ⟨rfl,.exit id,(x9 _).putObj _ dQ Aw f2 rfl,f3,f4⟩⟩
   | goto t =>
    obtain⟨cO,dQ⟩:=aq;obtain⟨f1,f2,f3,f4⟩:=fin (some (.goto t)) cO;exact⟨_,_,f1,.inr ⟨rfl,.goto t,(x9 _).putObj _ dQ Aw f2 rfl,f3,f4⟩⟩
   | _=>exact aq.elim
  | _=>exact h.elim
 .rintro e eV ⟨⟨v,rfl⟩,(⟨xs,b3,U,I,ab⟩ | ⟨pre,ajK,c,U,I,ab⟩)⟩
  .exact⟨none,_,by have:=run_endLoop (P:=P) I (by rw[uK];simp);rw[uK] at this;exact this,zJ _ xs _ (Gf _) b3 (aX.putObj _ U Aw I rfl) ((World.putObj_heap_other Aw).trans ab)⟩
  .exact⟨some c,_,by have:=run_endLoop (P:=P) I (by rw[uK];simp);rw[uK] at this;exact this,JF _ c pre _ (Gf _) ajK ((x9 c).putObj _ U Aw I rfl) ((World.putObj_heap_other Aw).trans ab)⟩
def oA(P:D_):sO->(H_ Nat->fy->Fr->A_->Prop)->Fr->A_->Prop
 | .tV g p a b,Q,S,w=>aeU P (bn S g) p a b (fun D=>Q (some D)) S w
 | .tY x y,Q,S,w=>oA P x (fun ae=>vg (fun S w=>dL P y (Q ae) S w) (Q ae)) S w
 | .iN x y,Q,S,w=>dL P x (vg (fun S w=>oA P y Q S w) (Q none)) S w
 | .cm id x,Q,S,w=>oA P x (fun ae=>Bo id (Q ae)) S w
def marks:H_ Nat->C_ Deferred
 | none=>[]
 | some D=>[{ target:=.collected D,args:=#[] }]
def abo(n:Nat)(Q:H_ Nat->fy->Fr->A_->Prop):Exit->Act->A_->Prop
 | .normal,a,w => ∃ae S,Fits (marks ae) a S n/\Q ae .normal S w
 | .exit i,a,w => ∃ae S,Fits (marks ae) a S n/\Q ae (.exit i) S w
 | .ret,a,w => ∃ae S,Fits (marks ae) a S n/\Q ae .ret S w
 | .panic c,a,w => ∃ae S,Fits (marks ae) a S n/\Q ae (.hj c) S w
 | _,_,_=>False
theorem anK{n:Nat}{Q:H_ Nat->fy->Fr->A_->Prop}{ae:H_ Nat}{e:Exit}{a:Act}{w:A_}(h:J5 (marks ae) n (Q ae) e a w):abo n Q e a w:=by
 cases e with
 | normal=>obtain⟨S,h1,I⟩:=h;exact⟨ae,S,h1,I⟩
 | exit i=>obtain⟨S,h1,I⟩:=h;exact⟨ae,S,h1,I⟩
 | ret=>obtain⟨S,h1,I⟩:=h;exact⟨ae,S,h1,I⟩
 | panic c=>obtain⟨S,h1,I⟩:=h;exact⟨ae,S,h1,I⟩
 | _=>exact h.elim
theorem LU{P:D_}(hm:P.follows .mixedOrders=true){n:Nat}:∀(c:Code) (rc:sO),nn P n c=some rc->∀(Q:H_ Nat->fy->Fr->A_->Prop) (a:Act) (S:Fr) (w:A_),Fits [] a S n->oA P rc Q S w->c.wpIn Fence.wide 3 P (abo n Q) a w
 | .rangeFunc g dk y9 b,rc,h,Q,a,S,w,av,aD=>by
  simp only[nn] at h;split at h
  .rename_i p qD hL tt aU an;split at h
   .rename_i aq;injection h with h;subst h
    obtain⟨α,enc,iW,avE,il,nS,p4,N,w0,aH,c5,tx,he,ti,cW,qN,aX,x9,ad,ajY,zJ,JF⟩:=aD;have alV:dk=#[p]:=by rw[<-AH3 (xs:=dk),tt]
    subst alV;refine aqS (by rw[av.eval];exact aH) c5 tx he ti cW (fun c=>match c with | .ret=>qN .ret | .exit id=>qN (.exit id) | _=>fun _ _=>False) aX ?_ ad ?_ ?_ ?_
    .intro c;split
     .exact x9 _
     .exact x9 _
     .exact fun s W bX row h _ _=>h.elim
    .intro l pre x W U az;have yi:Fits [] ({ tmps:=a.tmps.setIfInBounds p (enc x),defers:=[] }:Act) (cb S p (enc x)) n:=by
      refine⟨rfl,by simp[av.2.1],fun t=>?_⟩
      have:=av.2.2 t
      simp only[cb];by_cases aA:t=p
      .subst aA;simp[av.2.1,aq]
      .have I:(a.tmps.setIfInBounds p (enc x))[t]? = a.tmps[t]? := Array.getElem?_setIfInBounds_ne (Ne.symm aA);rw[if_neg aA,<-this];simp[Array.getD_eq_getD_getElem?,I]
     refine wpIn_mono (sound (ds:=[]) (r:=some l) hm y9 qD aU _ _ _ W yi (ajY pre x W U az)) fun e cp bX ao=>?_;cases e with
     | normal =>
      obtain⟨aZ,eA,h1,I,ab⟩:=ao;refine⟨h1,I,fun eV aE=>?_⟩;refine wpIn_mono (sound (ds:=[]) (r:=some l) hm b hL an _ _ _ eV eA (ab eV aE)) fun e a2 nU ao=>?_;cases e with
      | normal=>obtain⟨aZ,_,h1,I,ab⟩:=ao;exact⟨h1,I,ab⟩
      | ret=>obtain⟨aZ,_,h1,I⟩:=ao;exact⟨h1,I⟩
      | exit id=>obtain⟨aZ,_,h1,I⟩:=ao;exact⟨h1,I⟩
      | panic c=>obtain⟨aZ,_,h1⟩:=ao;exact h1.elim
      | _=>exact ao.elim
     | ret=>obtain⟨aZ,_,h1⟩:=ao;exact h1.elim
     | exit id=>obtain⟨aZ,_,h1⟩:=ao;exact h1.elim
     | panic c=>obtain⟨aZ,_,h1⟩:=ao;exact h1.elim
     | _=>exact ao.elim
    .intro D xs W h8 b3 U a6;exact⟨some D,S,⟨by rw[av.1];rfl,av.2⟩,zJ D xs W h8 b3 U a6⟩
    .intro D c pre W h8 b3 U a6;have Zo:Fits (marks (some D)) { a with defers:={ target:=.collected D,args:=#[] } :: a.defers } S n:=⟨by rw[av.1];rfl,av.2⟩;split at U
     .exact wpIn_ret ⟨some D,S,Zo,JF D .ret pre W Bh h8 b3 U a6⟩
     .exact wpIn_exit ⟨some D,S,Zo,JF D (.exit _) pre W Bh h8 b3 U a6⟩
     .exact U.elim
   .cases h
  .cases h
 | .seq x y,rc,h,Q,a,S,w,av,aD=>by
  simp only[nn] at h;split at h
  .rename_i wR af;obtain⟨adi,bK,rfl⟩:=Option.map_eq_some_iff.1 h;refine wpIn_seq (wpIn_mono (sound (ds:=[]) (r:=none) (m:=3) hm x wR af _ a S w av aD) fun e cp w' ao=>?_);cases e with
   | normal=>obtain⟨aZ,eA,ao⟩:=ao;exact LU hm y adi bK Q cp aZ w' eA ao
   | exit i=>obtain⟨aZ,eA,ao⟩:=ao;exact⟨none,aZ,eA,ao⟩
   | ret=>obtain⟨aZ,eA,ao⟩:=ao;exact⟨none,aZ,eA,ao⟩
   | panic c=>obtain⟨aZ,eA,ao⟩:=ao;exact⟨none,aZ,eA,ao⟩
   | _=>exact ao.elim
  .split at h
   .rename_i rx wS af bK;injection h with h;subst h
    refine wpIn_seq (wpIn_mono (LU hm x rx af _ a S w av aD) fun e cp w' ao=>?_);cases e with
    | normal =>
     obtain⟨ae,aZ,eA,ao⟩:=ao;exact wpIn_mono (sound (ds:=marks ae) (r:=none) (m:=3) hm y wS bK (Q ae) cp aZ w' eA ao) fun e V5 bM h=>anK h
    | exit i=>obtain⟨ae,aZ,eA,ao⟩:=ao;exact⟨ae,aZ,eA,ao⟩
    | ret=>obtain⟨ae,aZ,eA,ao⟩:=ao;exact⟨ae,aZ,eA,ao⟩
    | panic c=>obtain⟨ae,aZ,eA,ao⟩:=ao;exact⟨ae,aZ,eA,ao⟩
    | _=>exact ao.elim
   .cases h
 | .block id b,rc,h,Q,a,S,w,av,aD=>by
  simp only[nn] at h;obtain⟨Sd,an,rfl⟩:=Option.map_eq_some_iff.1 h;refine wpIn_block (wpIn_mono (LU hm b Sd an _ a S w av aD) fun e cp w' ao=>?_);cases e with
  | normal=>obtain⟨ae,aZ,eA,ao⟩:=ao;exact⟨ae,aZ,eA,ao⟩
  | ret=>obtain⟨ae,aZ,eA,ao⟩:=ao;exact⟨ae,aZ,eA,ao⟩
  | panic c=>obtain⟨ae,aZ,eA,ao⟩:=ao;exact⟨ae,aZ,eA,ao⟩
  | exit i =>
   obtain⟨ae,aZ,eA,ao⟩:=ao;simp only[Bo] at ao;simp only[Exit.inBlock];split at ao
   .rename_i U;rw[if_pos U];exact⟨ae,aZ,eA,ao⟩
   .rename_i U;rw[if_neg U];exact⟨ae,aZ,eA,ao⟩
  | _=>exact ao.elim
 | .skip,rc,h,_,_,_,_,_,_=>by simp[nn] at h
 | .region _ _ _,rc,h,_,_,_,_,_,_=>by simp[nn] at h
 | .cond _ _ _,rc,h,_,_,_,_,_,_=>by simp[nn] at h
 | .loop _,rc,h,_,_,_,_,_,_=>by simp[nn] at h
 | .exit _,rc,h,_,_,_,_,_,_=>by simp[nn] at h
 | .ret,rc,h,_,_,_,_,_,_=>by simp[nn] at h
 | .scope _,rc,h,_,_,_,_,_,_=>by simp[nn] at h
 | .label _,rc,h,_,_,_,_,_,_=>by simp[nn] at h
 | .goto _,rc,h,_,_,_,_,_,_=>by simp[nn] at h
 | .refuse _,rc,h,_,_,_,_,_,_=>by simp[nn] at h
def D0(res:C_ mH)(R:B_->A_->Prop):H_ Nat->fy->Fr->A_->Prop
 | none,e,S,w=>DY res R e S w
 | some D,.normal,S,w=>w.heap[D]? = some (.deferred (some []))/\pP res S (fv w D (.deferred none)) fun vs=>R (ji vs) (fv w D (.deferred none))
 | some D,.ret,S,w=>w.heap[D]? = some (.deferred (some []))/\pP res S (fv w D (.deferred none)) fun vs=>R (ji vs) (fv w D (.deferred none))
 | some _,.exit _,_,_=>False
 | some _,.hj _,_,_=>False
theorem aq4{P:D_}{D:Nat}{w:A_}(h:w.heap[D]? = some (.deferred (some []))):(Instr.takeDeferred D).run P w = .ok [] (fv w D (.deferred none)):=by
 simp[Instr.takeDeferred,Sem.run_bind,getObj,setObj,Sem.run,h,Result.andThen,fv]
theorem ahD{P:D_}{f:E_}{L:y5}(hm:P.follows .mixedOrders=true)(ai:zi P f=some L){args:C_ B_}{w:A_}{R:B_->A_->Prop}(aU:args.length<=L.n)
  (h:oA P L.code (D0 L.res R) (iE args 0) w):aW P f args.toArray w R:=by
 unfold zi at ai;split at ai
 .rename_i fn k9;split at ai
  .rename_i c an;split at ai
   .rename_i lc r h1 I;injection ai with ai;subst ai
    refine(callsIn_wide (n:=3)).1 (callsIn_of_wp_marks (F:=Fence.wide) k9 an trivial (wpIn_mono (LU hm c lc h1 _ _ (iE args 0) w ?_ h) ?_))
    .refine⟨rfl,?_,fun t=>?_⟩
     .have:=aU;simp only at this;simp;omega
     .rw[Is];simp only[Nat.zero_le,if_true,Nat.sub_zero];by_cases aA:t<args.length
      .simp[Array.getD_eq_getD_getElem?,Array.getElem?_append,aA]
      .simp only[Array.getD_eq_getD_getElem?,Array.getElem?_append,List.size_toArray,if_neg aA,List.getElem?_eq_none (Nat.le_of_not_lt aA),Option.getD_none];rw[Array.getElem?_replicate];split<;>rfl
    .have fin:∀(ae:H_ Nat) (S:Fr) (cp:Act) (w':A_),Fits (marks ae) cp S fn.ntmps->(D0 r R ae .normal S w')->LeavesInM Fence.wide 3 P fn cp.tmps (fun e w' => ∃v,e = .returned v/\R v w') cp.defers .returning w':=by
      intro ae S cp w' av ao;rw[av.1];cases ae with
      | none =>
       obtain⟨vs,ab,aE⟩:=sE av _ _ _ I ao;exact⟨_,w3 ab,_,rfl,aE⟩
      | some D =>
       obtain⟨a6,ao⟩:=ao;obtain⟨vs,ab,aE⟩:=sE av _ _ _ I ao;exact⟨Bh,.inl ⟨D,_,rfl,aq4 a6,⟨_,w3 ab,_,rfl,aE⟩⟩⟩
     intro e cp w' ao;cases e with
     | normal=>obtain⟨ae,S,av,ao⟩:=ao;exact fin ae S cp w' av ao
     | ret =>
      obtain⟨ae,S,av,ao⟩:=ao;refine fin ae S cp w' av ?_;cases ae<;>exact ao
     | exit i=>obtain⟨ae,S,av,ao⟩:=ao;cases ae<;>exact ao.elim
     | panic c=>obtain⟨ae,S,av,ao⟩:=ao;cases ae<;>exact ao.elim
     | _=>exact ao.elim
   .cases ai
  .cases ai
 .cases ai
end a7
namespace a7
open Go Go.RowKit
section
variable{P:Program}{S:Fr}{w:World}
theorem gy.start{f:E_}{L:y5}(hm:P.follows .mixedOrders=true)(ai:zi P f=some L){args:C_ B_}{w:A_}{R:B_->A_->Prop}(aU:args.length<=L.n)(h:oA P L.code (D0 L.res R) (iE args 0) w):aW P f args.toArray w R:=ahD hm ai aU h
theorem gy.iN{x:eR}{y:sO}{Q:H_ Nat->fy->Fr->A_->Prop}(h:eQ P x (jh (fun S w=>oA P y Q S w) (Q none) ⟨⟩) S w ⟨⟩):oA P (.iN x y) Q S w:=by unfold eQ jh at h;exact h
theorem gy.tY{x:sO}{y:eR}{Q:H_ Nat->fy->Fr->A_->Prop}(h:oA P x (fun ae=>jh (fun S w=>eQ P y (Q ae) S w ⟨⟩) (Q ae) ⟨⟩) S w):oA P (.tY x y) Q S w:=by unfold eQ jh at h;exact h
theorem gy.cm{id:Nat}{x:sO}{Q:H_ Nat->fy->Fr->A_->Prop}(h:oA P x (fun ae=>xR id (Q ae) ⟨⟩) S w):oA P (.cm id x) Q S w:=by unfold xR at h;exact h
theorem gy.ret{res:C_ mH}{R:B_->A_->Prop}{D:Nat}(a6:w.heap[D]? = some (.deferred (some [])))(h:nJ res S (fv w D (.deferred none)) (fun vs=>R (ji vs) (fv w D (.deferred none))) ⟨⟩):D0 res R (some D) .ret S w:=by
 unfold nJ at h;exact⟨a6,h⟩
theorem gy.DX{res:C_ mH}{R:B_->A_->Prop}{e:fy}(h:tg res R ⟨⟩ e S w):D0 res R none e S w:=by
 unfold tg at h;exact h
theorem gy.tV{α:Type}{enc:α->B_}{g:G_}{p:Nat}{a b:eR}{Q:H_ Nat->fy->Fr->A_->Prop}{iW:Nat}{hL:Array B_}{il:A_->A_->Prop}{nS p4:C_ α->Prop}{N:Nat}{w0:A_}
  (aH:bn S g = .func (.func iW) #[] hL)(c5:okF P iW=true)(tx:SeqStopsK Fence.wide 0 P iW hL (fun x=>#[enc x]) il nS p4 N w0)(he:Ext w0 w)(ti:Dh il w.heap.size)
  (cW:C_ α->A_->Prop)(aX:OwnFrom w.heap.size cW)(ad:cW [] w)
  (E9:∀pre x W,cW pre W->pre.length<N->eQ P a (jh (fun uj iB=>KeepsFrom w.heap.size W iB/\il W iB/\∀eV,ui w.heap.size iB eV ->
   eQ P b (jh (fun _ bX=>KeepsFrom w.heap.size eV bX/\il eV bX/\cW (pre++[x]) bX) (fun _ _ _=>False) ⟨⟩) uj eV ⟨⟩) (fun _ _ _=>False) ⟨⟩) (cb S p (enc x)) W ⟨⟩)
  (zJ:∀D xs W,w.heap.size<=D->nS xs->cW xs W->W.heap[D]? = some (.deferred (some []))->Q (some D) .normal S W):oA P (.tV g p a b) Q S w:=by
 refine⟨α,enc,iW,hL,il,nS,p4,N,w0,aH,c5,tx,he,ti,cW,fun _ _ _=>False,aX,fun _ _ _ _ _ h _ _=>h.elim,ad,fun pre x W U az=>?_,zJ,fun D e pre W _ _ _ h _=>h.elim⟩;have h:=E9 pre x W U az;unfold eQ jh at h;refine pU a _ _ _ W (fun e uj iB _ h1=>?_) h;cases e with
 | normal =>
  obtain⟨cq,cB,e5⟩:=h1;refine⟨cq,cB,fun eV aG=>?_⟩;have I:=e5 eV aG;refine pU b _ _ _ eV (fun e kU nU _ ab=>?_) I;cases e with
  | normal=>exact ab
  | exit _=>exact ab.elim
  | ret=>exact ab.elim
  | hj _=>exact ab.elim
 | exit _=>exact h1.elim
 | ret=>exact h1.elim
 | hj _=>exact h1.elim
theorem ui.cells{B:Nat}{W bX:A_}(h:ui B W bX){k:Nat}{c:Array B_}{t:F_}{f:Nat×Nat}(hk:W.heap[k]? = some (.cells c t f)):bX.heap[k]? = some (.cells c t f):=by
 obtain⟨l,az,⟨ae,aJ,ai⟩,aH⟩:=h;rw[aH.block k (cr hk) fun e=>by injection e with e;subst e;rw[aJ] at hk;injection hk with hk;subst hk;cases ai];exact hk
theorem ui.mod{B:Nat}{W bX:A_}(h:ui B W bX):∃l,B<=l/\(∀c t f,W.heap[l]? ≠ some (.cells c t f))/\Mod (fun k=>k=l) W bX:=by
 obtain⟨l,az,⟨ae,aJ,ai⟩,aH⟩:=h;exact⟨l,az,(fun c t f e=>by rw[aJ] at e;injection e with e;subst e;cases ai),Mod.grown aH fun k e=>by injection e with e;exact e.symm⟩
theorem ui.ext{B:Nat}{w W bX:A_}(h:ui B W bX)(he:Ext w W)(j5:w.heap.size<=B):Ext w bX:=by
 obtain⟨l,az,_,hm⟩:=h.mod;exact hm.ext he fun k hk e=>Aw
theorem Ext.keeps{W bX:A_}(h:Ext W bX)(B:Nat):KeepsFrom B W bX:=⟨h.size,fun k ae _ hk _=>h.obj hk⟩
theorem Mod.keeps{A:Nat->Prop}{B:Nat}{W bX:A_}(h:Mod A W bX)(c4:∀k,B<=k->A k->∃c t f,W.heap[k]? = some (.cells c t f)):KeepsFrom B W bX :=
 ⟨h.size,fun k ae j5 hk ai=>h.obj (fun a=>by obtain⟨c,t,f,e⟩:=c4 k j5 a;rw[hk] at e;injection e with e;subst e;cases ai) hk⟩
theorem Mod.ig{A:Nat->Prop}{hM:Nat}{cv:C_ F_}{W bX:A_}(h:Mod A W bX)(ax:hM<=W.heap.size)(ad:∀k,k<hM->¬A k)(c4:∀k c t f,A k->W.heap[k]? = some (.cells c t f)->t∉cv):mF hM cv W bX :=
 ⟨⟨h.os,h.tape,h.output,h.size,fun k hk=>h.block k Aw (ad k hk)⟩,fun k c t f hk aA=>h.block k (cr hk) fun a=>c4 k c t f a hk aA⟩
theorem Mod.high{A:Nat->Prop}{w W bX:A_}{row:H_ Nat}(h:Mod A w W)(aH:W.grownBy bX row)(aG:∀r,row=some r->w.heap.size<=r):Mod A w bX :=
 h.comp (Mod.grown (A:=fun k=>row=some k) aH fun k e=>e) (fun _ _ a=>a) fun i U e=>by have:=aG i e;omega
def eH(aQ:Nat)(bs:C_ Nat)(cv:C_ F_)(W bX:A_):Prop:=Mod (fun k=>k∈bs\/(aQ<=k/\∃c t f,t∈cv/\W.heap[k]? = some (.cells c t f))) W bX
theorem Ext.Bv{aQ:Nat}{bs:C_ Nat}{cv:C_ F_}{W bX:A_}(h:Ext W bX):eH aQ bs cv W bX:=h.mod
theorem eH.trans{aQ:Nat}{bs:C_ Nat}{cv:C_ F_}{a b c:A_}(h:eH aQ bs cv a b)(k:eH aQ bs cv b c):eH aQ bs cv a c :=
 ⟨k.os.trans h.os,k.tape.trans h.tape,k.output.trans h.output,Ru h.size k.size,fun i U ax=>by
  have e:=h.block i U ax;refine(k.block i (AH7 U h.size) fun a=>ax ?_).trans e;rcases a with a | ⟨cZ,c,t,f,a2,a3⟩
  .exact .inl a
  .exact .inr ⟨cZ,c,t,f,a2,by rw[<-e];exact a3⟩⟩
theorem di.Bv{aQ b:Nat}{bs:C_ Nat}{cv:C_ F_}{W bX:A_}(h:di b W bX)(an:b∈bs):eH aQ bs cv W bX:=(h.mod (A:=fun k=>k=b) rfl).AI fun k e=>.inl (e ▸ an)
theorem eH.grown{α:Type}{enc:α->C_ B_}{sz aQ:Nat}{e:F_}{bs:C_ Nat}{cv:C_ F_}{W bX:A_}{v:B_}{xs:C_ α}(aJ:aP enc e sz aQ W v xs)(aH:W.grownBy bX v.ownBlock)(he:e∈cv):eH aQ bs cv W bX :=
 (Mod.grown (A:=fun k=>v.ownBlock=some k) aH fun k e=>e).AI fun k hk=>by
  obtain⟨cur,h⟩:=aJ.cm k hk;exact .inr ⟨(aJ.lt k hk).1,_,_,_,he,h⟩
theorem eH.keeps{aQ B:Nat}{bs:C_ Nat}{cv:C_ F_}{W bX:A_}(h:eH aQ bs cv W bX)(j5:∀b∈bs,b<B):KeepsFrom B W bX :=
 Mod.keeps h fun k hk a=>by
  rcases a with a | ⟨_,c,t,f,_,a⟩
  .have:=j5 k a;omega
  .exact⟨c,t,f,a⟩
theorem eH.ig{aQ hM:Nat}{bs:C_ Nat}{cv nK:C_ F_}{W bX:A_}(h:eH aQ bs cv W bX)(ax:hM<=W.heap.size)(ad:hM<=aQ)(an:∀b∈bs,hM<=b/\∀c t f,W.heap[b]? = some (.cells c t f)->t∉nK)(aA:∀t∈cv,t∉nK):mF hM nK W bX :=
 Mod.ig h ax (fun k hk a=>by
  rcases a with a | ⟨a,_⟩
  .have:=(an k a).1;omega
  .omega) fun k c t f a hk=>by
  rcases a with a | ⟨_,kC,hP,uz,cZ,a2⟩
  .exact(an k a).2 c t f hk
  .rw[hk] at a2;injection a2 with a2;injection a2 with _ a2;subst a2;exact aA _ cZ
theorem eH.from{bs:C_ Nat}{cv:C_ F_}{w W bX:A_}(h:Mod (fun k=>k∈bs) w W)(c:eH w.heap.size bs cv W bX):Mod (fun k=>k∈bs) w bX :=
 h.comp c (fun _ _ a=>a) fun k hk a=>by
  rcases a with a | ⟨a,_⟩
  .exact a
  .omega
theorem eH.obj{aQ:Nat}{bs:C_ Nat}{cv:C_ F_}{W bX:A_}(h:eH aQ bs cv W bX){k:Nat}{c:Array B_}{t:F_}{f:Nat×Nat}(hk:W.heap[k]? = some (.cells c t f))(an:k∉bs)(aA:t∉cv):bX.heap[k]? = some (.cells c t f):=by
 rw[Mod.block h k (cr hk) fun a=>?_]
 .exact hk
 .rcases a with a | ⟨_,kC,hP,uz,cZ,a2⟩
  .exact an a
  .rw[hk] at a2;injection a2 with a2;injection a2 with _ a2;subst a2;exact aA cZ
end
end a7
end
section
namespace Go.Proofs.R
open Go a7 Go.Proofs
def D.d:y5:=⟨37,[.tmp 2], (.iN (.dm [dC 1 (.box T.f (aM 0)),fx 2 (.const iw)]) (.iN (.dm [dC 3 (.new T.g iw)]) (.iN (.dm [cD 8 (.gM [dD,dD] [(0,1),(1,1)] [(0,(ct (-1)))]),dC 4 (.new T.a dD),dC 5 (.new T.d (.agg #[dD,dD])),hp (.st (aM 4) (ct (-1))),pV 2 5 8]) (.tY (.iN (.dm [h3 9 5 1,nL 10 F.p8 [9]]) (.cm 0 (.tV (aM 10) 11 (.dm [dC 6 (.new T.d (.agg #[dD,dD])),pV 2 6 11]) (.cm 1 (.seq (cG [h3 12 2 6,h3 13 2 5,iR .neq T.d 14 12 13] (jY 14 (.dm [ey 15 4,ki .add T.a 16 15 1,ys 4 16]) .skip)) (cG [h3 17 2 6,pV 2 5 17] (cG [fw 18 3 1,ey 19 18,fw 20 0 6,ey 21 20,ik 22 5 19 21,fw 23 4 22,ey 24 23,lJ 25 24,fx 26 (ct 0)] (.cm 2 (.loop (cG [iR .lss T.a 27 26 25] (vl 27 2
 (.seq (.cm 3 (cG [aN 28 26,aN 7 28] (.dm [ey 29 3,ey 30 4,aN 31 7,cD 32 (.gM [dD,dD] [(0,1),(1,1)] [(0,(aM 30)),(1,(aM 31))]),dC 33 (.kB T.c 1 2 [dD,dD] [(0,(aM 32))]),dC 34 (.app T.g T.c 2 16 (aM 29) (aM 33)),ys 3 34]))) (vk T.a 35 26))))))))))))) (cG [ey 36 3,aN 2 36] .ret)))))⟩
theorem De.d:zi Tryz.prog F.d=some D.d:=Cq
def D.cU:y5:=⟨78,[.cell 6], (.iN (.dm [dC 3 (.box T.f (aM 0)),dC 4 (.box T.a (aM 1)),dC 6 (.new T.m (.bool false))]) (.iN (cG [h3 14 5 3,nL 15 F.sZ [14],cD 16 (.nq 0 (aM 15)),ki .neq T.a4 17 16 0] (jY 17 (cG [hp (.st (aM 6) (kR false))] .ret) .skip)) (.iN (.qH (xj (h3 18 5 3) (xj (h3 20 5 3) (.alt (nL 19 F.c [18]) (.fq (nL 21 F.d [20]) (.alt (dC 8 (.new T.g iw)) (xj (aN 7 19) (.fq (ys 8 21) .done .nil)) .nil) (.alt (dC 8 (.new T.g iw)) (.fq (nL 21 F.d [20]) (xj (aN 7 19) (.fq (ys 8 21) .done .nil)) .nil) .nil)) (.alt (dC 8 (.new T.g iw)) (.alt (nL 19 F.c [18]) (.fq (nL 21 F.d [20]) (xj (aN 7 19) (.fq (ys 8 21) .done .nil)) .nil) .nil) .nil))))) (.iN (.seq (.r3 [ey 22 4,ki .lss T.a 23 22 0,aN 24 23,lI 24 (ey 25 4),lI 24 (aN 26 7),lI 24 (lJ 27 26),lI 24 (iR .geq T.a 28 25 27),oF 29 24 28,aN 30 29,lI 30 (aN 31 2),lI 30 (ki .lss T.a 32 31 0),oF 33 30 32,aN 34 33,lI 34 (aN 35 2),lI 34 (fw 36 3 3),lI 34 (ey 37 36),lI 34 (aN 38 7),lI 34 (ey 39 4),lI 34 (ik 40 2 38 39),lI 34 (fw 41 0 40),lI 34 (ey 42 41),lI 34 (ik 43 5 37 42),lI 34 (fw 44 2 43),lI 34 (ey 45 44),lI 34 (iR .geq T.a 46 35 45),oF 47 34 46]) (jY 47 (cG [hp (.st (aM 6) (kR false))] .ret) .skip)) (.iN (.dm [h3 48 5 3,nL 49 F.xM [48],dC 9 (.new T.rV iw),ys 9 49]) (.tY (.iN (.dm [h3 50 5 3,ey 51 4,aN 52 2,nL 53 F.oM [50,51,52]]) (.cm 0 (.tV (aM 53) 54 (.dm [aN 10 54]) (.cm 1 (cG [cD 55 (.wU F.r [] [(aM 4)]),aN 11 55] (cG [ey 56 8,lJ 57 56,fx 58 (ct 0)] (.cm 2 (.loop (cG [iR .lss T.a 59 58 57] (vl 59 2
 (.seq (.cm 3 (cG [aN 60 58,ik 61 2 56 58,h3 62 2 61,dC 13 (.new T.c (.agg #[dD,dD])),aN 12 60,pV 2 13 62] (.seq (.r3 [aN 63 11,h3 64 2 13,h4 65 (.val (aM 63) [(aM 64)]),aN 66 65,rL 66 (ey 67 9),rL 66 (aN 68 10),rL 66 (ik 69 2 67 68),rL 66 (h3 70 2 69),rL 66 (ey 71 9),rL 66 (aN 72 12),rL 66 (ik 73 2 71 72),rL 66 (h3 74 2 73),rL 66 (nL 75 F.xN [70,74]),xk 76 66 75]) (jY 76 (cG [hp (.st (aM 6) (kR false))] .ret) .skip)))) (vk T.a 77 58)))))))))))) (cG [hp (.st (aM 6) (kR true))] .ret)))))))⟩
theorem De.cU:zi Tryz.prog F.cU=some D.cU:=Cq
def D.BO:y5:=⟨13,[.tmp 4], (.iN (.dm [dC 2 (.box T.p (aM 0)),fx 4 (.const iw)]) (.tY (.iN (.dm [aN 6 1]) (.cm 0 (.tV (aM 6) 7 (.dm [dC 5 (.new T.d (.agg #[dD,dD])),pV 2 5 7]) (.cm 1 (.dm [ey 8 2,h3 9 2 5,dC 10 (.kB T.d 1 2 [dD,dD] [(0,(aM 9))]),dC 11 (.app T.p T.d 2 16 (aM 8) (aM 10)),ys 2 11]))))) (cG [ey 12 2,aN 4 12] .ret)))⟩
theorem De.BO:zi Tryz.prog F.BO=some D.BO:=Cq
end Go.Proofs.R
end
section
namespace o
open Go Go.RowKit a7
theorem W3(x:cR):r1 adq x.enc:=⟨⟨_,rfl⟩,⟨_,rfl⟩,trivial⟩
theorem amP(x y:cR)(h:x.enc=y.enc):x=y:=by cases x;cases y;simpa[cR.enc] using h
abbrev xJ(m:Model):={x:cR // x.of m}
end o
namespace a7
open Go Go.RowKit
theorem Ext.Ya{w w':A_}(h:Ext w w'):w.grownBy w' none:=⟨h.os,h.tape,h.output,h.size,fun k hk _=>h.heap hk⟩
end a7
namespace Go.Proofs.R
open Go Go.RowKit a7
theorem ahs(cs:C_ B_)(m:o.Model)(p:o.dw)(bV dL:B_)(w:A_)(h:o.dU w cs m) :
  Dz F.dl #[.agg cs.toArray,.agg (p.enc bV dL).toArray] w fun v w'=>v = .I (o.elems m p)/\Ext w w':=by
 obtain⟨bW,bu,bI,c1,bO,c2,bQ,bp,bZ,bB,rfl,ad,h1,I,ab,aE,eU,eh,eo,dY,ew⟩:=h.form;refine bl E.dl ?_;refine aa ?_;intro w1 br cF ah al;refine aa ?_;intro aB bP db aj au;have cY:∀{w'},Ext aB w'->Ext w w':=fun e=>(ah.trans aj).trans e;refine aa ?_;rw[o.elems];apply I_<;>intro g1
 .refine aa ?_;rw[o.gI (.inl Aw)];exact⟨aL,cY (Ext.refl _)⟩
 refine aa ?_;apply I_<;>intro g2
 .refine aa ?_;rw[o.gI (.inr Aw)];exact⟨aL,cY (Ext.refl _)⟩
 have U:(p.over - 1).toNat<m.scalars.length:=Aw
 obtain⟨a,rfl⟩:=ad.addr;rw[o.iv Aw Aw];refine aa ?_;refine K_ (p.over - 1).toNat Aw U ?_;refine aa ?_;apply I_<;>intro g3
 .refine aa ?_;refine⟨?_,cY (Ext.refl _)⟩;rw[if_pos Aw];rfl
 refine aa ?_;apply I_<;>intro g4
 .refine aa ?_;refine⟨?_,cY (Ext.refl _)⟩;rw[if_pos Aw];rfl
 refine aa ?_;refine⟨?_,cY (Ext.refl _)⟩;rw[if_neg Aw];congr 1;omega
theorem aqv(cs:C_ B_)(m:o.Model)(p:o.dw)(bV dL:B_)(w:A_)(h:o.dU w cs m) :
  Dz F.KJ #[.agg cs.toArray,.agg (p.enc bV dL).toArray] w fun v w'=>v = .I (o.elems m p)/\Ext w w':=by
 obtain⟨bW,bu,bI,c1,bO,c2,bQ,bp,bZ,bB,rfl,ad,h1,I,ab,aE,eU,eh,eo,dY,ew⟩:=h.form;refine bl E.KJ ?_;refine aa ?_;intro w1 br cF ah al;refine aa ?_;intro aB bP db aj au;have cY:∀{w'},Ext aB w'->Ext w w':=fun e=>(ah.trans aj).trans e;refine aa ?_;rw[o.elems];apply I_<;>intro g1
 .refine aa ?_;rw[o.gI (.inl Aw)];exact⟨aL,cY (Ext.refl _)⟩
 refine aa ?_;apply I_<;>intro g2
 .refine aa ?_;rw[o.gI (.inr Aw)];exact⟨aL,cY (Ext.refl _)⟩
 have U:(p.over - 1).toNat<m.scalars.length:=Aw
 obtain⟨a,rfl⟩:=ad.addr;rw[o.iv Aw Aw];refine aa ?_;refine K_ (p.over - 1).toNat Aw U ?_;refine aa ?_;apply I_<;>intro g3
 .refine aa ?_;refine⟨?_,cY (Ext.refl _)⟩;rw[if_pos Aw];rfl
 refine aa ?_;apply I_<;>intro g4
 .refine aa ?_;refine⟨?_,cY (Ext.refl _)⟩;rw[if_pos Aw];rfl
 refine aa ?_;refine⟨?_,cY (Ext.refl _)⟩;rw[if_neg Aw];congr 1;omega
def aaz(x:o.cR):B_:=.agg x.enc.toArray
theorem aaH{o9 w0:A_}{b:Nat}{cs:C_ B_}{m:o.Model}(ai:w0.heap[b]? = some (.cells cs.toArray T.f))(h:o.dU o9 cs m)(qw:Ext o9 w0) :
  SeqStopsK Fence.wide 0 Tryz.prog F.t #[.pointer (some ⟨b,0,none⟩)] (fun x:o.xJ m=>#[aaz x.1]) (mF o9.heap.size [T.k,T.f]) (fun xs=>xs.map Subtype.val=o.insts m) (fun _=>True) (o.insts m).length w0:=by
 intro l iS MT W an q7 ajt bK Jr;have B1:Ext o9 W:=qw.trans an;have YY:=Ext.obj (w:=w0) an ai;obtain⟨bW,bu,bI,c1,bO,c2,bQ,bp,bZ,bB,rfl,ad,h1,I,ab,aE,eU,eh,eo,dY,ew⟩:=h.form;refine callsIn_wide.2 (Calls.mono (show Dz F.t #[.func (.yield l) #[] #[],.pointer (some ⟨b,0,none⟩)] W (fun _ bX=>(∃xs,xs.map Subtype.val=o.insts m/\iS xs bX)\/(∃pre:C_ (o.xJ m),True/\MT pre bX)) from ?_) fun e bX ⟨v,e1,e2⟩=>⟨⟨v,e1⟩,e2⟩);have BR:∀{pre:C_ (o.xJ m)} {w w':A_},iS pre w->Ext w w'->iS pre w':=fun {pre w w'} aC e=>q7 pre w w' none aC e.Ya (fun r e=>by cases e);refine bl E.t ?_;refine aa ?_;refine L_ 9 m.procs.length [0,1,7,8] (fun _=>[]) ([]:C_ (o.xJ m)) (fun k pre w'=>(Ext o9 w'/\w'.heap[b]? = some (.cells #[.slice bW m.scalars.length bu,.slice bI m.vars.length c1,.slice bO m.ar.length c2,.slice bQ m.procs.length bp,.slice bZ m.props.length bB] T.f)/\iS pre w')/\pre.map Subtype.val++o.jO m (m.procs.drop k) k=o.insts m) a8 a8 ⟨⟨B1,YY,Jr⟩,by simp[o.insts]⟩ ?_;clear YY ai;rintro k pre S w1 hk ⟨⟨ah,YZ,Zz⟩,si⟩;refine aa ?_;apply I_<;>intro g1
 .have aV:k<m.procs.length:=Aw
  obtain⟨a,rfl⟩:=ab.addr;obtain⟨ak,bV,dL,dA,eW,fl⟩:=ab.at k aV;obtain⟨_,_,rfl,_⟩:=eW.form;obtain⟨_,_,rfl,_⟩:=fl.form;rw[o.aaB aV] at si;have sa:=cr YZ;refine dO ?_;simp -dsimp only[cu];refine dO ?_;simp -dsimp only[cu];refine dO ?_;intro C1 bP db nx q9;refine dO ?_;intro aB amu au;have aj:=amu.ext nx db;have Y0:=aj.obj YZ;have mm:=BR Zz aj;have fs:∀(q:C_ (o.xJ m)) (r:C_ o.cR),q.map Subtype.val++r=o.insts m->r≠[]->q.length<(o.insts m).length:=fun q r e aG=>by
   rw[<-e,Lk,AK3]
   have:=List.length_pos_iff.2 aG
   omega
  have uH:=o.DW m m.procs[k];refine dO ?_;refine S_ [0,1,3,4,7,8,9] (fun _=>[]) (fun(FV:C_ (o.xJ m)) w'=>(Ext o9 w'/\w'.heap[bP]? = aB.heap[bP]? /\ w'.heap[b]? = aB.heap[b]? /\ iS FV w')/\FV.map Subtype.val=pre.map Subtype.val++o.je k m.procs[k]) ?_ ?_
  .refine aa ?_;apply I_<;>intro g2
   .have e1:o.je k m.procs[k]=[⟨(k:Int),0⟩]:=by unfold o.je;rw[if_pos g2]
    rw[e1] at si;refine aa ?_;refine _2 (bK pre ⟨⟨(k:Int),0⟩,Bh,by simpa using aV,Bh⟩ aB mm (fs pre _ (by simpa[List.append_assoc] using si) Bh)) ?_;rintro e aK (⟨rfl,yk,nB⟩ | ⟨rfl,yk⟩)
    .refine⟨.bool true,rfl,?_⟩;refine aa ?_;exact⟨_,trivial,⟨Below.trans (Ext.trans ah aj) nB.1,nB.2 bP _ _ _ au Bh,nB.2 b _ _ _ Y0 Bh,yk⟩,by simp[e1]⟩
    .refine⟨.bool false,rfl,?_⟩;refine aa ?_;exact .inr ⟨_,trivial,yk⟩
   .have e1:o.je k m.procs[k]=[]:=by unfold o.je;rw[if_neg g2]
    refine aa ?_;exact⟨pre,trivial,⟨ah.trans aj,aL,aL,mm⟩,by simp[e1]⟩
  rintro RZ S aK ⟨⟨ag,bh,Y1,yk⟩,yo⟩;rw[au] at bh;rw[Y0] at Y1;refine aa ?_;refine J_ (ahs _ m m.procs[k] _ _ aK (h.ext ag)) ?_;rintro _ aR ⟨rfl,aw⟩;have ZA:=BR yk aw;have Y2:=aw.obj Y1;have ql:=ag.trans aw;have Z5:RZ.map Subtype.val++o.jR k (o.elems m m.procs[k])++o.jO m (m.procs.drop (k+1)) (k+1)=o.insts m:=by rw[yo,<-si];simp
  refine aa ?_;refine L_ 27 (o.elems m m.procs[k]) [0,1,3,7,8,9,26] (fun _=>[]) RZ (fun j FV w'=>(Ext o9 w'/\w'.heap[b]? = aR.heap[b]? /\ iS FV w')/\FV.map Subtype.val=RZ.map Subtype.val++o.jR k j) a8 a8 ⟨⟨ql,rfl,ZA⟩,by simp[o.jR]⟩ ?_;rintro j R0 S bo aC ⟨⟨aF,Ja,EO⟩,wz⟩;rw[Y2] at Ja;refine aa ?_;apply I_<;>intro g3
  .have en:j<o.elems m m.procs[k]:=Aw
   have b4:R0.length<(o.insts m).length:=by
    have e1:=congrArg List.length Z5;have e2:=congrArg List.length wz;simp only[List.length_append,List.length_map,o.jR,List.length_range] at e1 e2;omega
   refine aa ?_;refine _2 (bK R0 ⟨⟨(k:Int),(j:Int)+1⟩,Bh,by simpa using aV,by constructor<;>simp<;>omega⟩ bo EO b4) ?_;rintro e bt (⟨rfl,Cc,ER⟩ | ⟨rfl,Cc⟩)
   .refine⟨.bool true,rfl,?_⟩;refine aa ?_;exact⟨en,aL,_,trivial,⟨Below.trans aF ER.1,by rw[ER.2 b _ _ _ Ja Bh,Ja,Y2],Cc⟩,by simp[wz,o.ab2]⟩
   .refine⟨.bool false,rfl,?_⟩;refine aa ?_;exact .inr ⟨_,trivial,Cc⟩
  .have mO:j=o.elems m m.procs[k]:=Aw
   subst mO;refine aa ?_;exact⟨aV,aL,R0,trivial,⟨aF,Ja,EO⟩,by rw[wz];exact Z5⟩
 .refine aa ?_;rw[AF0 Aw] at si;exact .inl ⟨pre,by simpa[o.jO] using si,Zz⟩
end Go.Proofs.R
end
section
namespace o
open Go
def cR.key(x:cR):Int:=5*x.proc+x.elem
def chain:cR->C_ cR->Prop
 | _,[]=>True
 | a,x :: r=>x≠a/\chain x r
theorem WQ:∀(l:C_ cR) (a:cR),(a :: l).Pairwise (fun x y=>x.key<y.key)->chain a l
 | [],_,_=>trivial
 | x :: r,a,h=>by
  obtain⟨h1,I⟩:=List.pairwise_cons.1 h;refine⟨fun e=>?_,WQ r x I⟩
  have:=h1 x Bh
  rw[e] at this;exact absurd this (Int.lt_irrefl _)
theorem aaG{m:Model}:∀(l:C_ dw) (i:Nat),(jO m l i).Pairwise (fun x y=>x.key<y.key)/\∀x∈jO m l i,5*(i:Int)<=x.key
 | [],_=>⟨List.Pairwise.nil,fun x af=>by simp[jO] at af⟩
 | p :: r,i=>by
  obtain⟨h1,I⟩:=aaG r (i+1);have aJ:∀x∈je i p,x=⟨(i:Int),0⟩:=fun x af=>by
   unfold je at af;split at af
   .simpa using af
   .cases af
  have aD:∀x∈jR i (elems m p),∃k:Nat,k<4/\x=⟨(i:Int),(k:Int)+1⟩:=fun x af=>by
   unfold jR at af;obtain⟨k,hk,rfl⟩:=List.mem_map.1 af
   have:=List.mem_range.1 hk
   have:=DW m p
   exact⟨k,Aw,rfl⟩
  have pM:(jR i (elems m p)).Pairwise (fun x y=>x.key<y.key):=by
   unfold jR;rw[List.pairwise_map];exact List.Pairwise.imp (fun {a b} Ep=>by simp only[cR.key];omega) List.pairwise_lt_range
  have apB:(je i p).Pairwise (fun x y=>x.key<y.key):=by
   unfold je;split
   .exact List.pairwise_singleton _ _
   .exact List.Pairwise.nil
  simp only[jO];refine⟨List.pairwise_append.2 ⟨List.pairwise_append.2 ⟨apB,pM,fun a aU b an=>?_⟩,h1,fun a aU b an=>?_⟩,fun x af=>?_⟩
  .obtain rfl:=aJ a aU;obtain⟨k,_,rfl⟩:=aD b an;simp only[cR.key];omega
  .have db:=I b an;rcases List.mem_append.1 aU with aU | aU
   .obtain rfl:=aJ a aU;simp only[cR.key];simp at db;unfold cR.key at db;omega
   .obtain⟨k,hk,rfl⟩:=aD a aU;unfold cR.key at db ⊢;simp at db ⊢;omega
  .rcases List.mem_append.1 af with af | af
   .rcases List.mem_append.1 af with af | af
    .obtain rfl:=aJ x af;simp[cR.key]
    .obtain⟨k,hk,rfl⟩:=aD x af;unfold cR.key;simp;omega
   .have:=I x af
    simp at this;omega
theorem amS(m:Model):chain ⟨-1,0⟩ (insts m):=by
 obtain⟨h1,I⟩:=aaG (m:=m) m.procs 0;refine WQ _ _ (List.pairwise_cons.2 ⟨fun x af=>?_,h1⟩)
 have:=I x af
 unfold cR.key at this ⊢;simp at this ⊢;omega
theorem X3(m:Model):∀(l:C_ cR) (i:Nat) (a:cR) (out:C_ Ref),chain a l->(l.foldl (mv m) ((i:Int) - 1,a,out)).2.2=out++pO m l i
 | [],_,_,_,_=>by simp[pO]
 | x :: r,i,a,out,h=>by
  simp only[List.foldl_cons];have e:mv m ((i:Int) - 1,a,out) x=(((i+1:Nat):Int) - 1,x,out++refsOf i (sv m x)):=by
   unfold mv;simp only;rw[if_pos h.1];congr 1
   .omega
   .congr 2;congr 1;omega
  rw[e,X3 m r (i+1) x _ h.2];simp[pO]
theorem aqJ(m:Model):((insts m).foldl (mv m) (-1,⟨-1,0⟩,[])).2.2=refs m:=by
 have:=X3 m (insts m) 0 ⟨-1,0⟩ [] (amS m)
 simpa[refs] using this
structure vt(m:Model):Prop where
 procs:m.procs.length<=30
 cy:∀p∈m.procs,p.cy.length<=30
theorem RG{m:Model}(h:vt m)(x:cR):sv m x<=30:=by
 unfold sv;split
 .rename_i p aq;refine h.cy p ?_;unfold nth at aq;by_cases ad:0<=x.proc
  .rw[if_pos ad] at aq;exact List.mem_of_getElem? aq
  .rw[if_neg ad] at aq;cases aq
 .omega
theorem X2{m:Model}(h:vt m):∀(l:C_ cR) (s:Int×cR×C_ Ref),s.1<=(l.foldl (mv m) s).1/\(l.foldl (mv m) s).1<=s.1+l.length/\(l.foldl (mv m) s).2.2.length<=s.2.2.length+30*l.length
 | [],s=>Bh
 | x :: r,s=>by
  obtain⟨h1,I,ab⟩:=X2 h r (mv m s x);simp only[List.foldl_cons,List.length_cons];have ax:=RG h x;have e1:s.1<=(mv m s x).1/\(mv m s x).1<=s.1+1:=by unfold mv;simp only;split<;>omega
  have e2:(mv m s x).2.2.length<=s.2.2.length+30:=by unfold mv refsOf;simp only[List.length_append,List.length_map,List.length_range];omega
  omega
theorem acM{m:Model}(h:vt m):∀(l:C_ cR) (i:Nat),(pO m l i).length<=30*l.length
 | [],_=>by simp[pO]
 | x :: r,i=>by
  have:=acM h r (i+1)
  have:=RG h x
  simp only[pO,List.length_append,refsOf,List.length_map,List.length_range,List.length_cons];omega
theorem tU{m:Model}(h:vt m):(refs m).length<=4500:=by
 have:=acM h (insts m) 0
 have:=uS m
 have:=h.procs
 unfold refs;omega
structure Vw(m:Model)(r:Ref)(i p k:Nat):Prop where
 U:i<(insts m).length
 ox:r.inst=i
 ip:(insts m)[i].proc=p
 aq:p<m.procs.length
 sA:r.cmd=k
 hk:k<m.procs[p].cy.length
theorem acN{m:Model}:∀(l:C_ cR) (i0:Nat) (r:Ref),r∈pO m l i0->∃j,∃aC:j<l.length,r.inst=((i0+j:Nat):Int)/\∃k:Nat,k<sv m l[j]/\r.cmd=k
 | [],_,_,h=>by simp[pO] at h
 | x :: l,i0,r,h=>by
  simp only[pO,List.mem_append] at h;rcases h with h | h
  .unfold refsOf at h;obtain⟨k,hk,rfl⟩:=List.mem_map.1 h;exact⟨0,Bh,Bh,k,by simpa using hk,rfl⟩
  .obtain⟨j,aC,h1,k,I,ab⟩:=acN l (i0+1) r h;exact⟨j+1,by simpa using aC,by rw[h1];congr 1;omega,k,by simpa using I,ab⟩
theorem aqI{m:Model}{r:Ref}(h:r∈refs m):∃i p k,Vw m r i p k:=by
 obtain⟨j,aC,h1,k,I,ab⟩:=acN _ _ _ h;have af:=rr (insts m)[j] (Gy _);obtain⟨p,aq⟩:=Rt af.aQ;have sh:p<m.procs.length:=by have:=af.U;omega
 refine⟨j,p,k,aC,by rw[h1];simp,aq,sh,ab,?_⟩;unfold sv at I;rw[aq,iv Aw Aw] at I;simpa using I
end o
end
section
namespace a7
open Go Go.RowKit
def Wj(cv t:F_)(sz b:Nat)(z:Array B_):y5:=⟨13,[.tmp 4],
 (.iN (.dm [dC 2 (.box cv (aM 0)),fx 4 (.const (.slice none 0 0))])
 (.tY (.iN (.dm [aN 6 1])
 (.cm 0 (.tV (aM 6) 7 (.dm [dC 5 (.new t (.agg z)),hp (.l3 sz (aM 5) (aM 7))]) (.cm 1 (.dm [ey 8 2,pc 9 (.kM sz (aM 5)),dC 10 (.kB t 1 sz z.toList [(0,(aM 9))]),dC 11 (.app cv t sz b (aM 8) (aM 10)),ys 2 11])))))
 (.seq (.dm [ey 12 2,aN 4 12])
 .ret)))⟩
theorem abg:∀(vs pre post:C_ B_),vs.length<=post.length->(vs.zipIdx pre.length).foldl (fun cs (x:B_×Nat)=>cs.set (0+x.2) x.1) (pre++post)=pre++vs++post.drop vs.length
 | [],pre,post,_=>Bh
 | v :: vs,pre,[],h=>by simp at h
 | v :: vs,pre,p :: post,h=>by
  have fb:=abg vs (pre++[v]) post (by simpa using h);simp only[List.length_append,List.length_cons,List.length_nil] at fb;simp only[List.zipIdx_cons,List.foldl_cons,List.length_cons,List.drop_succ_cons];rw[show(pre++p :: post).set (0+pre.length) v=(pre++[v])++post from Bh,fb];simp
theorem aiu{S:Fr}{sz:Nat}{z cs:C_ B_}{t:Nat}(aA:S t = .agg cs.toArray)(ai:cs.length=sz)(bw:z.length=sz)(ad:0<sz):eZ S ((List.range 1).map fun i=>(i*sz,sz)) [(0,.tmp t)] z=some cs:=by
 have e:lay z 0 (.agg cs.toArray)=cs:=by
  have:=abg cs [] z Aw
  simp only[List.nil_append,List.length_nil] at this;unfold lay;simp only[Value.cells];rw[this,AF0 Aw,AF2]
 have e1:(bn S (.tmp t)).cells.size=sz:=by
  show(S t).cells.size=sz;rw[aA];simp[Value.cells,ai]
 have e2:((List.range 1).map fun i=>(i*sz,sz))[0]? = some (0,sz):=Bh
 unfold eZ;simp only[e2];rw[if_pos ⟨e1,Aw⟩];unfold eZ;show some (lay z 0 (S t))=_;rw[aA,e]
section
variable{α:Type}{P:Program}{f:FuncId}{t cv:TypeId}{sz b:Nat}{enc:α->List Value}{z:Array Value}
theorem afl(hm:P.follows .mixedOrders=true)(dI:zi P f=some (Wj cv t sz b z))(bw:z.size=sz)(hlen:∀x,(enc x).length=sz)(ts:∀x,∀u∈enc x,u.oneCell'=true)(dd:0<sz)
  {iW:Nat}{hL:Array B_}{hM:Nat}{nK:C_ F_}{nS p4:C_ α->Prop}{N:Nat}{w0 w:A_}(c5:okF P iW=true)
  (tx:SeqStopsK Fence.wide 0 P iW hL (fun x=>#[.agg (enc x).toArray]) (mF hM nK) nS p4 N w0)(he:Ext w0 w)(zT:hM<=w.heap.size)(aA:t∉nK)(Ff:cv∉nK)(b8:cv≠t)(fI:N*b<=140737488355328)(IS:N<=maxLen) :
  aW P f #[.slice none 0 0,.func (.func iW) #[] hL] w fun v w'=>(∃xs,nS xs/\aP enc t sz w.heap.size w' v xs)/\Ext w w':=by
 refine gy.start hm dI (args:=[_,_]) (Nat.le_of_ble_eq_true rfl) ?_;dsimp only[Wj,aM,ct,kR,cD,pc,dC,h4,hp,dR,aN,fx,fw,ey,ik,ys,lJ];refine gy.iN ?_;refine aa ?_;intro w1 br cF ah al;refine aa ?_;refine gy.tY (gy.iN ?_);simp -dsimp only[cV,cu,Nat.reduceAdd,Nat.reduceEqDiff,reduceIte,reduceCtorEq,c3];refine gy.cm (gy.tV (w0:=w0) (enc:=fun x=>.agg (enc x).toArray) (by simp[c0,bL]) c5 tx (he.trans ah) (mF.ok nK (Ru zT ah.size))
  (fun pre W=>Mod (fun k=>k=br) w1 W/\∃(aO:H_ Addr) (n c:Nat),W.heap[br]? = some (.cells #[.slice aO n c] cv)/\aP enc t sz w1.heap.size W (.slice aO n c) pre) ?_ ⟨Mod.refl _ _,none,0,0,al,aP.nil _ _ _ _ _⟩ ?_ ?_)
 .rintro pre W bX row ⟨hm,aO,n,c,an,aJ⟩ aH aG;refine⟨hm.high aH fun r e=>(aG r e).1,aO,n,c,?_,aJ.mod (Mod.grown (A:=fun k=>row=some k) aH fun k e=>e) fun k hk a=>?_⟩
  .rw[aH.block br (cr an) fun e=>?_]
   .exact an
   .obtain⟨ae,h1,I⟩:=(aG br e.symm).2;rw[an] at h1;injection h1 with h1;subst h1;cases I
  .obtain⟨cur,ab⟩:=aJ.cm k hk;obtain⟨ae,h1,I⟩:=(aG k a).2;rw[ab] at h1;injection h1 with h1;subst h1;cases I
 .rintro pre x W ⟨hm,aO,n,c,oS,aJ⟩ b4;have ZH:=cr al;have au0:=hm.size
  try (simp -dsimp only[cV,cu,Nat.reduceAdd,Nat.reduceEqDiff,reduceIte,reduceCtorEq,c3])
  refine O_ fun iB dE kI aF bY=>?_
  try (simp -dsimp only[cV,cu,Nat.reduceAdd,Nat.reduceEqDiff,reduceIte,reduceCtorEq,c3])
  refine T_ bY bw (by simpa using hlen x) (by simpa using ts x) fun eV hw au=>?_
  try (simp -dsimp only[cV,cu,Nat.reduceAdd,Nat.reduceEqDiff,reduceIte,reduceCtorEq,c3])
  have e2:=hw.ext aF kI;refine⟨e2.keeps _,e2.ig Aw,fun nU wB=>?_⟩;obtain⟨l,az,la,iY⟩:=wB.mod;have bh:=wB.cells au;have e9:=wB.cells (e2.obj oS);have dG:aP enc t sz w1.heap.size nU (.slice aO n c) pre:=(aJ.ext e2).mod iY fun k hk a=>by
   subst a;obtain⟨cur,ab⟩:=(aJ.ext e2).cm k hk;exact la _ _ _ ab
  try (simp -dsimp only[cV,cu,Nat.reduceAdd,Nat.reduceEqDiff,reduceIte,reduceCtorEq,c3])
  refine _C e9 (Ext.refl _) rfl ?_
  try (simp -dsimp only[cV,cu,Nat.reduceAdd,Nat.reduceEqDiff,reduceIte,reduceCtorEq,c3])
  refine Z_ (gN bh) (hlen x) ?_
  try (simp -dsimp only[cV,cu,Nat.reduceAdd,Nat.reduceEqDiff,reduceIte,reduceCtorEq,c3])
  refine Y_ (aiu (cs:=enc x) (by simp[bL]) (hlen x) (by simpa using bw) dd) fun Bc qY wb aw bf=>?_
  try (simp -dsimp only[cV,cu,Nat.reduceAdd,Nat.reduceEqDiff,reduceIte,reduceCtorEq,c3])
  have alg:pre.length+1<=N:=b4;refine _X (ys:=[x]) (dG.ext aw) hlen (by simpa using gN bf) rfl ts (Ru (AI9 b alg) fI) (by simp only[List.length_cons,List.length_nil];omega) (by have:=iY.size;have:=aw.size;have:=e2.size;omega) fun bS p6 dt gT k4=>?_;obtain⟨kN,p9,rfl,_⟩:=dt.form;have e3:=aw.obj e9;have Eu:p6.heap[br]? = some (.cells #[.slice aO n c] cv):=by
   rw[gT.block br (cr e3) fun e=>?_]
   .exact e3
   .obtain⟨cur,ab⟩:=(dG.ext aw).cm br e.symm;rw[e3] at ab;injection ab with ab;injection ab with _ ab;exact b8 ab
  try (simp -dsimp only[cV,cu,Nat.reduceAdd,Nat.reduceEqDiff,reduceIte,reduceCtorEq,c3])
  refine _W Eu Bh rfl fun lo gP b1=>?_
  try (simp -dsimp only[cV,cu,Nat.reduceAdd,Nat.reduceEqDiff,reduceIte,reduceCtorEq,c3])
  have fK:∀k,(Value.slice aO n c).ownBlock=some k->w1.heap.size<=k:=fun k hk=>(dG.lt k hk).1;have anX:Mod (fun k=>(Value.slice aO n c).ownBlock=some k\/k=br) Bc lo:=(Mod.grown (A:=fun k=>(Value.slice aO n c).ownBlock=some k) gT fun k e=>e).comp (A':=fun k=>k=br) (gP.mod rfl) (fun _ _ a=>.inl a) (fun _ _ a=>.inr a);have RA:Mod (fun k=>(Value.slice aO n c).ownBlock=some k\/k=br) nU lo:=aw.mod.comp anX (A:=fun _=>False) (fun _ _ h=>h.elim) (fun _ _ h=>h);refine⟨RA.keeps fun k hk a=>?_,RA.ig (by have:=iY.size;have:=e2.size;omega) (fun k hk a=>?_) (fun k kC hP uz a hk sk=>?_),?_,kN,_,p9,b1,?_⟩
  .rcases a with a | a
   .obtain⟨cur,ab⟩:=dG.cm k a;exact⟨_,_,_,ab⟩
   .subst a;exact⟨_,_,_,e9⟩
  .rcases a with a | a
   .have:=fK k a;have:=ah.size;omega
   .omega
  .rcases a with a | a
   .obtain⟨cur,ab⟩:=dG.cm k a;rw[ab] at hk;injection hk with hk;injection hk with _ hk;subst hk;exact aA sk
   .subst a;rw[e9] at hk;injection hk with hk;injection hk with _ hk;subst hk;exact Ff sk
  .refine(hm.comp (B:=fun k=>k=br) (A':=fun k=>(Value.slice aO n c).ownBlock=some k\/k=br\/k=l) ?_ (fun _ _ a=>a) fun k hk a=>?_)
   .exact(e2.mod (A:=fun _=>False)).comp (iY.comp RA (fun _ _ a=>(Or.inr (Or.inr a):_\/_\/_)) (fun _ _ a=>by rcases a with a | a;exact .inl a;exact .inr (.inl a))) (fun _ _ h=>h.elim) (fun _ _ h=>h)
   .rcases a with a | a | a
    .have:=fK k a;omega
    .exact a
    .omega
  .refine dt.mod (gP.mod (A:=fun k=>k=br) rfl) fun k hk a=>?_;subst a;obtain⟨cur,ab⟩:=dt.cm k hk;rw[Eu] at ab;injection ab with ab;injection ab with _ ab;exact b8 ab
 .rintro D xs W h8 b3 ⟨hm,aO,n,c,oS,aJ⟩ a6;simp -dsimp only[cV,cu,Nat.reduceAdd,Nat.reduceEqDiff,reduceIte,reduceCtorEq,c3];refine _C oS (Ext.refl _) rfl ?_;simp -dsimp only[cV,cu,Nat.reduceAdd,Nat.reduceEqDiff,reduceIte,reduceCtorEq,c3];refine gy.ret a6 ?_;simp -dsimp only[cV,cu,Nat.reduceAdd,Nat.reduceEqDiff,reduceIte,reduceCtorEq,c3];have e1:Ext w W:=hm.ext ah fun k hk e=>Aw
  refine⟨⟨xs,b3,(aJ.mod (A:=fun k=>k=D) ((di.fv _ _ _).mod rfl) fun k hk a=>?_).low ah.size⟩,e1.fv (Ru ah.size h8) _⟩;subst a;obtain⟨cur,ab⟩:=aJ.cm k hk;rw[a6] at ab;injection ab with ab;cases ab
end
end a7
end
section
namespace a7
open Go Go.RowKit
theorem aP.map{α β:Type}{enc:β->C_ B_}{g:α->β}{e:F_}{sz base:Nat}{w:A_}{v:B_}{xs:C_ α}(h:aP (fun x=>enc (g x)) e sz base w v xs):aP enc e sz base w v (xs.map g):=by
 unfold aP at *;rw[AK3,List.flatMap_map];exact h
theorem aP.hA{α:Type}{enc:α->C_ B_}{e:F_}{sz base:Nat}{w:A_}{v:B_}{xs:C_ α}(dd:∀x,(enc x).length=sz)(h:aP enc e sz base w v xs):bg sz (Flat enc) w v xs:=aP.jg dd h
theorem aP.new{α:Type}{enc:α->C_ B_}{e:F_}{sz:Nat}{w w':A_}{v:B_}{xs:C_ α}(dd:∀x,(enc x).length=sz)(h:aP enc e sz w.heap.size w' v xs):ed w (fun w=>bg sz (Flat enc) w v xs) w':=fun aB m =>
 aP.jg dd (aP.mod h m fun k hk a=>by have:=(h.lt k hk).1;omega)
end a7
namespace Go.Proofs.R
open Go Go.RowKit a7
abbrev kk(w:A_)(v:B_)(l:C_ o.cR):Prop:=bg 2 (Flat o.cR.enc) w v l
abbrev sP(w:A_)(v:B_)(l:C_ o.Ref):Prop:=bg 2 (Flat o.Ref.enc) w v l
theorem aaR(cs:C_ B_)(m:o.Model)(w:A_)(h:o.dU w cs m) :
  Dz F.p8 #[.agg cs.toArray] w fun v w'=>(∃b,v = .func (.func F.t) #[] #[.pointer (some ⟨b,0,none⟩)]/\w'.heap[b]? = some (.cells cs.toArray T.f))/\Ext w w':=by
 obtain⟨bW,bu,bI,c1,bO,c2,bQ,bp,bZ,bB,rfl,_⟩:=h.form;refine bl E.p8 ?_;refine aa ?_;intro w1 br cF ah al;refine aa ?_;exact⟨⟨br,rfl,al⟩,ah⟩
theorem wI(cs:C_ B_)(m:o.Model)(w:A_)(h:o.dU w cs m)(aH:m.cA) :
  Dz F.c #[.agg cs.toArray] w fun v w'=>aP o.cR.enc T.d 2 w.heap.size w' v (o.insts m)/\Ext w w':=by
 obtain⟨bW,bu,bI,c1,bO,c2,bQ,bp,bZ,bB,rfl,_⟩:=h.form;have aq:=aH.procs;have az:=o.uS m;unfold o.ea at aq;refine bl E.c ?_;refine aa ?_;intro w1 br cF ah al;refine aa ?_;refine J_ (aaR _ m w1 (h.ext ah)) ?_;rintro _ aB ⟨⟨b,rfl,au⟩,aj⟩;have cY:Ext w aB:=ah.trans aj;refine aa ?_;refine J_ (f:=F.Ht) (R:=fun v w'=>aP o.cR.enc T.d 2 aB.heap.size w' v (o.insts m)/\Ext aB w') ?_ ?_
 .refine vr E.Ht ?_;refine nV ?_;refine aa ?_;refine J_ (afl (α:=o.xJ m) (enc:=fun x=>x.1.enc) lz De.BO rfl (fun _=>rfl) (fun x u hu=>by simp[o.cR.enc] at hu;rcases hu with rfl | rfl<;>rfl) BJ Cq
   (aaH au h cY) (Ext.refl _) cY.size BJ BJ BJ Aw (by unfold maxLen;omega)) ?_
  rintro v aK ⟨⟨xs,tB,aJ⟩,ag⟩;refine aa ?_;exact⟨by rw[<-tB];exact aJ.map,ag⟩
 .rintro v aK ⟨aJ,ag⟩;refine aa ?_;exact⟨aJ.low cY.size,cY.trans ag⟩
structure me(w1:World)(bR cx dE:Nat)(s:Int×o.cR×List o.Ref)(W:World):Prop where
 mod:Mod (fun k=>k∈[bR,cx,dE]) w1 W
 ex:∃aO n c,W.heap[bR]? = some (.cells #[.slice aO n c] T.g)/\aP o.Ref.enc T.c 2 w1.heap.size W (.slice aO n c) s.2.2
 aE:W.heap[cx]? = some (.cells #[.int .i64 s.1] T.a)
 aY:W.heap[dE]? = some (.cells s.2.1.enc.toArray T.d)
theorem me.move{w1:A_}{bR cx dE:Nat}{s:Int×o.cR×C_ o.Ref}{W bX:A_}{A:Nat->Prop}(h:me w1 bR cx dE s W)(m:Mod A W bX)(c4:∀k c t f,W.heap[k]? = some (.cells c t f)->¬A k)(hf:∀k,A k->w1.heap.size<=k):me w1 bR cx dE s bX:=by
 obtain⟨aO,n,c,e,aJ⟩:=h.ex;refine⟨h.mod.comp m (fun _ _ a=>a) fun k hk a=>absurd (hf k a) Aw,⟨aO,n,c,m.obj (c4 _ _ _ _ e) e,aJ.mod m fun k hk a=>?_⟩,m.obj (c4 _ _ _ _ h.aE) h.aE,m.obj (c4 _ _ _ _ h.aY) h.aY⟩;obtain⟨cur,ab⟩:=aJ.cm k hk;exact c4 _ _ _ _ ab a
theorem me.ext{w1:A_}{bR cx dE:Nat}{s:Int×o.cR×C_ o.Ref}{W bX:A_}(h:me w1 bR cx dE s W)(e:Ext W bX):me w1 bR cx dE s bX:=h.move (A:=fun _=>False) e.mod (fun _ _ _ _ _ h=>h) fun _ h=>h.elim
theorem xV{W:A_}{k:Nat}{c kC:Array B_}{t hP:F_}{f uz:Nat×Nat}(h:W.heap[k]? = some (.cells c t f))(bk:W.heap[k]? = some (.cells kC hP uz)):t=hP:=by
 rw[h] at bk;injection bk with bk;injection bk
theorem me.lj{w1:A_}{bR cx dE:Nat}{s:Int×o.cR×C_ o.Ref}{W bX:A_}{n:Int}(h:me w1 bR cx dE s W)(hw:di cx W bX)(ai:bX.heap[cx]? = some (.cells #[.I n] T.a))(n34:bR≠cx)(n45:dE≠cx):me w1 bR cx dE (n,s.2) bX:=by
 obtain⟨aO,k,c,e,aJ⟩:=h.ex;refine⟨h.mod.comp (A':=fun k=>k=cx) (hw.mod rfl) (fun _ _ a=>a) fun k hk a=>by simp[a],⟨aO,k,c,hw.obj e n34,aJ.mod (hw.mod (A:=fun k=>k=cx) rfl) fun k hk a=>?_⟩,ai,hw.obj h.aY n45⟩;subst a;obtain⟨cur,ab⟩:=aJ.cm k hk;exact absurd (xV ab h.aE) BJ
theorem me.ij{w1:A_}{bR cx dE:Nat}{s:Int×o.cR×C_ o.Ref}{W bX:A_}{x:o.cR}(h:me w1 bR cx dE s W)(hw:di dE W bX)(ai:bX.heap[dE]? = some (.cells x.enc.toArray T.d))(n35:bR≠dE)(n45:dE≠cx):me w1 bR cx dE (s.1,x,s.2.2) bX:=by
 obtain⟨aO,k,c,e,aJ⟩:=h.ex;refine⟨h.mod.comp (A':=fun k=>k=dE) (hw.mod rfl) (fun _ _ a=>a) fun k hk a=>by simp[a],⟨aO,k,c,hw.obj e n35,aJ.mod (hw.mod (A:=fun k=>k=dE) rfl) fun k hk a=>?_⟩,hw.obj h.aE (Ne.symm n45),ai⟩;subst a;obtain⟨cur,ab⟩:=aJ.cm k hk;exact absurd (xV ab h.aY) BJ
theorem me.app{w1:A_}{bR cx dE:Nat}{s:Int×o.cR×C_ o.Ref}{W bX He:A_}{aO kN:H_ Addr}{n c ku kC:Nat}{l:C_ o.Ref}(h:me w1 bR cx dE s W)(he:W.heap[bR]? = some (.cells #[.slice aO n c] T.g))
  (aJ:aP o.Ref.enc T.c 2 w1.heap.size W (.slice aO n c) s.2.2)(mR:aP o.Ref.enc T.c 2 w1.heap.size bX (.slice kN ku kC) l)(aH:W.grownBy bX (Value.slice aO n c).ownBlock)(hw:di bR bX He)
  (ai:He.heap[bR]? = some (.cells #[.slice kN ku kC] T.g))(n34:bR≠cx)(n35:bR≠dE):me w1 bR cx dE (s.1,s.2.1,l) He/\eH w1.heap.size [bR,cx,dE] [T.c] W He:=by
 have bq:eH w1.heap.size [bR,cx,dE] [T.c] W bX:=eH.grown aJ aH Bh;have mW:∀{k:Nat} {c:Array B_} {t:F_},W.heap[k]? = some (.cells c t)->t≠T.c->bX.heap[k]? = some (.cells c t):=fun {k c t} hk aA=>by
  rw[aH.block k (cr hk) fun e=>?_]
  .exact hk
  .obtain⟨cur,ab⟩:=aJ.cm k e.symm;exact aA (xV hk ab)
 have IJ:=bq.trans (hw.Bv Bh);refine⟨⟨eH.from h.mod IJ,⟨kN,ku,kC,ai,mR.mod (hw.mod (A:=fun k=>k=bR) rfl) fun k hk a=>?_⟩,hw.obj (mW h.aE BJ) (Ne.symm n34),hw.obj (mW h.aY BJ) (Ne.symm n35)⟩,IJ⟩;subst a;obtain⟨cur,ab⟩:=mR.cm k hk;exact absurd (xV ab (mW he BJ)) BJ
theorem yL(cs:C_ B_)(m:o.Model)(w:A_)(h:o.dU w cs m)(cM:o.vt m) :
  Dz F.d #[.agg cs.toArray] w fun v w'=>aP o.Ref.enc T.c 2 w.heap.size w' v (o.refs m)/\Ext w w':=by
 obtain⟨bW,bu,bI,c1,bO,c2,bQ,bp,bZ,bB,rfl,ad,h1,I,ab,aE,eU,eh,eo,dY,ew⟩:=h.form;have kq:=o.uS m;have sh:=cM.procs;refine gy.start lz De.d (args:=[_]) (Nat.le_of_ble_eq_true rfl) ?_;dsimp only[D.d,aM,ct,kR,cD,pc,dC,h4,hp,dR,aN,fx,fw,ey,ik,ys,lJ,dD,iw,AK,iR,ki,xk,oF,cG,jY,h3,pV,Mv,C4,nL,vl,vk,rL,lI,xj,List.map_cons,List.map_nil];refine gy.iN ?_;refine aa ?_;intro Mj br cF rb Ey;refine aa ?_;refine gy.iN ?_;refine aa ?_;intro Mn bR e9 qo oS;refine aa ?_;refine gy.iN ?_;refine aa ?_;intro yT cx e3 ny fR;refine aa ?_;intro wd dE kI qp Y3;have I1:dE≠cx:=by have:=cr fR;omega
 replace fR:=qp.obj fR;refine aa ?_;intro asW JL e0;have ako:=JL.obj Y3 I1;refine aa ?_;intro wf JM Jc;replace Jc:wf.heap[dE]? = some (.cells (⟨-1,0⟩:o.cR).enc.toArray T.d):=Jc;have GD:=cr Ey;have GF:=cr oS;have awU:=cr fR;have Oq:Ext Mj wf:=JM.ext (JL.ext ((qo.trans ny).trans qp) (by have:=qo.size;omega)) (by have:=qo.size;have:=ny.size;omega);have Xv:Ext Mn asW:=JL.ext (ny.trans qp) Aw;have Xw:Ext Mn wf:=JM.ext Xv (by have:=ny.size;omega);have YO:=Xw.obj oS;have ajQ:=Oq.obj Ey;replace e0:=JM.obj e0 (Ne.symm I1);have n34:bR≠cx:=Aw
 have n35:bR≠dE:=by have:=ny.size;omega
 have awO:=qo.size;have awT:=ny.size;clear ako Y3 fR JL JM Xv Xw oS Ey qo ny qp;refine gy.tY (gy.iN ?_);refine aa ?_;refine J_ (aaR _ m wf (h.ext (rb.trans Oq))) ?_;rintro _ sG ⟨⟨atE,rfl,Pv⟩,EI⟩;have xt:∀{w'},Ext sG w'->Ext w w':=fun e=>((rb.trans Oq).trans EI).trans e;have I5:=EI.obj YO;have Pk:=EI.obj ajQ;have OU:=EI.obj e0;have OW:=EI.obj Jc;have avA:=cr I5;have avB:=cr OU;have avC:=cr OW;simp -dsimp only[cV,cu,Nat.reduceAdd,Nat.reduceEqDiff,reduceIte,reduceCtorEq,c3];refine gy.cm (gy.tV (w0:=sG) (enc:=fun x:o.xJ m=>aaz x.1) (by simp[c0,bL]) Cq (aaH Pv h (xt (Ext.refl _))) (Ext.refl _) (mF.ok _ (xt (Ext.refl _)).size)
  (fun pre W=>me sG bR cx dE ((pre.map Subtype.val).foldl (o.mv m) (-1,⟨-1,0⟩,[])) W) ?_ ⟨Mod.refl _ _,⟨none,0,0,I5,aP.nil _ _ _ _ _⟩,OU,OW⟩ ?_ ?_)
 .rintro pre W bX row fS aH aG;refine fS.move (A:=fun k=>row=some k) (Mod.grown aH fun k e=>e) (fun k c t f hk a=>?_) fun k a=>(aG k a).1;obtain⟨ae,h1,I⟩:=(aG k a).2;rw[hk] at h1;injection h1 with h1;subst h1;cases I
 .rintro pre x W fS b4;have qg:=o.X2 cM (pre.map Subtype.val) (-1,⟨-1,0⟩,[]);simp only[List.length_map,List.length_nil] at qg;have key:((pre++[x]).map Subtype.val).foldl (o.mv m) (-1,⟨-1,0⟩,[])=o.mv m ((pre.map Subtype.val).foldl (o.mv m) (-1,⟨-1,0⟩,[])) x.1:=by
   rw[AF6,List.foldl_append];rfl
  generalize (pre.map Subtype.val).foldl (o.mv m) (-1,⟨-1,0⟩,[])=s at fS qg key;have E1:=o.RG cM x.1;have uQ:=x.2;refine dO ?_;intro iB ee gf ah b1;refine dO ?_;refine⟨ah.keeps _,ah.ig (Ru (xt (Ext.refl _)).size fS.mod.size),fun eV wB=>?_⟩;obtain⟨l,az,la,fJ⟩:=wB.mod;replace b1:=wB.cells b1;have wC:me sG bR cx dE s eV:=(fS.ext ah).move fJ (fun k c t f hk a=>by subst a;exact la _ _ _ hk) fun k a=>Aw
  have ahq:sG.heap.size<=eV.heap.size:=wC.mod.size;have at6:eV.heap[br]? = sG.heap[br]? := wC.mod.block br (cr Pk) (by simp;omega);have ZN:ee∉[bR,cx,dE]:=by have:=fS.mod.size;simp;omega
  clear fS wB fJ la OU OW I5 e0 YO Jc;generalize k4:(if x.1≠s.2.1 then s.1+1 else s.1)=at' at key;refine dO ?_;refine S_ [1,3,4,5,6] (fun _=>[]) (fun(_:Unit) bX=>me sG bR cx dE (at',s.2) bX/\eH sG.heap.size [bR,cx,dE] [T.c] eV bX) ?_ ?_
  .have at0:=wC.aE;have Yi:=wC.aY;refine aa ?_;refine _9 (sig:=o.adq) Cq (o.W3 _) (o.W3 _) fun r aG=>?_;refine aa ?_;refine N_ (fun g1=>?_) (fun g1=>?_)
   .have b8:x.1≠s.2.1:=fun e=>aG.1 g1 (by rw[e]);rw[if_pos b8] at k4;subst k4;refine aa ?_;intro nU fY bh;refine aa ?_;exact⟨(),trivial,wC.lj fY bh n34 I1,fY.Bv Bh⟩
   .have heq:x.1=s.2.1:=o.amP _ _ (Classical.byContradiction fun ax=>by rw[aG.2 ax] at g1;cases g1);rw[if_neg (by simp[heq])] at k4;subst k4;refine aa ?_;exact⟨(),trivial,wC,(Ext.refl eV).Bv⟩
  rintro _ S nU ⟨QG,Y4⟩;replace b1:=eH.obj Y4 b1 ZN BJ;have Pl:=QG.mod.block br (cr Pk) (by simp;omega);rw[Pk] at Pl;have Yi:=QG.aY;have Xl:∀b∈[bR,cx,dE],w.heap.size<=b:=fun b an=>by
   have:=rb.size
   simp at an;rcases an with rfl | rfl | rfl<;>omega
  refine dO ?_;simp -dsimp only[cu];refine dO ?_;intro Bc dq bf;have aai:=QG.ij dq bf n35 I1;have akr:=eH.trans Y4 (dq.Bv Bh);have at7:=dq.obj Pl Aw;replace b1:=dq.obj b1 (by simp at ZN;omega);have DU:Ext w Bc:=aai.mod.ext (xt (Ext.refl _)) fun k hk a=>by have:=Xl k a;omega
  clear Pl Yi;obtain⟨qC,uJ⟩:=Rt uQ.aQ;have oh:qC<m.procs.length:=by have:=uQ.U;omega
  obtain⟨a,rfl⟩:=ab.addr;obtain⟨ak,bV,dL,dA,eW,fl⟩:=ab.at qC oh;obtain⟨_,_,rfl,_⟩:=eW.form;obtain⟨_,_,rfl,lc⟩:=fl.form;have mn:o.sv m x.1=m.procs[qC].cy.length:=by
   unfold o.sv;rw[uJ,o.iv Aw Aw];simp
  rw[mn] at E1;refine aa ?_;refine K_ qC uJ oh ?_;refine aa ?_;refine L_ 26 m.procs[qC].cy.length [1,3,4,5,6,25] (fun _=>[]) () (fun j _ bX=>me sG bR cx dE (at',x.1,s.2.2++o.refsOf at' j) bX/\eH sG.heap.size [bR,cx,dE] [T.c] eV bX) a8 a8 ⟨by simpa[o.refsOf] using aai,akr⟩ ?_;rintro j _ S lo aC ⟨Fe,Pz⟩;refine aa ?_;apply I_<;>intro g2
  .obtain⟨aO,n,c,a1,aJ⟩:=Fe.ex;have bC:=Fe.aE;have au9:=Fe.mod.size;refine aa ?_;intro rU atC ia bm cf;refine aa ?_;have hlen:(s.2.2++o.refsOf at' j).length+1<=5000:=by
    simp only[List.length_append,o.refsOf,List.length_map,List.length_range];omega
   refine _X (ys:=[(⟨at',(j:Int)⟩:o.Ref)]) (aJ.ext bm) (fun _=>rfl) (by simpa[o.Ref.enc] using gN cf) rfl (by intro y u hu;simp[o.Ref.enc] at hu;rcases hu with rfl | rfl<;>rfl)
    (by simp only[List.length_cons,List.length_nil];omega) (by simp only[List.length_cons,List.length_nil];unfold maxLen;omega) (by have:=bm.size;omega) fun bS aeY hx zM _=>?_
   obtain⟨kN,p9,rfl,_⟩:=hx.form;have atW:aeY.heap[bR]? = some (.cells #[.slice aO n c] T.g):=by
    rw[zM.block bR (cr (bm.obj a1)) fun e=>?_]
    .exact bm.obj a1
    .obtain⟨cur,ab⟩:=(aJ.ext bm).cm bR e.symm;exact absurd (xV ab (bm.obj a1)) BJ
   refine aa ?_;intro atu hI dp;obtain⟨amh,aks⟩:=(Fe.ext bm).app (bm.obj a1) (aJ.ext bm) hx zM hI dp n34 n35;refine aa ?_;exact⟨Aw,aL,(),trivial,by rw[o.acO,<-Wi];exact amh,eH.trans Pz (eH.trans bm.Bv aks)⟩
  .have mO:j=m.procs[qC].cy.length:=Aw
   refine aa ?_;refine⟨eH.keeps Pz (fun b an=>?_),eH.ig Pz (Ru (xt (Ext.refl _)).size ahq) (xt (Ext.refl _)).size (fun b an=>⟨Xl b an,fun c t f hk aA=>?_⟩) BJ,?_⟩
   .simp at an;rcases an with rfl | rfl | rfl<;>omega
   .simp at an;rcases an with rfl | rfl | rfl
    .obtain⟨_,_,_,e,_⟩:=wC.ex
     have:=xV hk e;subst this;revert aA;decide
    .have:=xV hk wC.aE;subst this;revert aA;decide
    .have:=xV hk wC.aY;subst this;revert aA;decide
   .show me sG bR cx dE _ lo;rw[key]
    have:o.mv m s x.1=(at',x.1,s.2.2++o.refsOf at' j):=by unfold o.mv;rw[k4,mn,mO]
    rw[this];exact Fe
 .rintro D xs W h8 b3 fS a6;obtain⟨aO,n,c,a1,aJ⟩:=fS.ex;have tn:=o.aqJ m;rw[b3] at aJ;rw[tn] at aJ;simp -dsimp only[cV,cu,Nat.reduceAdd,Nat.reduceEqDiff,reduceIte,reduceCtorEq,c3];refine _C a1 (Ext.refl _) rfl ?_;simp -dsimp only[cV,cu,Nat.reduceAdd,Nat.reduceEqDiff,reduceIte,reduceCtorEq,c3];refine gy.ret a6 ?_;simp -dsimp only[cV,cu,Nat.reduceAdd,Nat.reduceEqDiff,reduceIte,reduceCtorEq,c3];have vS:w.heap.size<=sG.heap.size:=(xt (Ext.refl _)).size;have e1:Ext w W:=fS.mod.ext (xt (Ext.refl _)) fun k hk a=>by
   have:=rb.size
   simp at a;rcases a with rfl | rfl | rfl<;>omega
  refine⟨(aJ.mod (A:=fun k=>k=D) ((di.fv _ _ _).mod rfl) fun k hk a=>?_).low vS,e1.fv (Ru vS h8) _⟩;subst a;obtain⟨cur,ab⟩:=aJ.cm k hk;rw[a6] at ab;injection ab with ab;cases ab
end Go.Proofs.R
end
section
namespace o
theorem aaA:∀(y:cR),∀u∈y.enc,u.oneCell'=true:=by intro y u hu;simp[cR.enc] at hu;rcases hu with rfl | rfl<;>rfl
theorem aqG:∀(y:Ref),∀u∈y.enc,u.oneCell'=true:=by intro y u hu;simp[Ref.enc] at hu;rcases hu with rfl | rfl<;>rfl
end o
namespace Go.Proofs.R
open Go Go.RowKit a7
theorem F7(cs:C_ B_)(m:o.Model)(w:A_)(h:o.dU w cs m)(aH:m.cA) :
  Dz F.KH #[.agg cs.toArray] w fun v w'=>aP o.cR.enc T.d 2 w.heap.size w' v (o.insts m)/\Ext w w':=by
 obtain⟨bW,bu,bI,c1,bO,c2,bQ,bp,bZ,bB,rfl,ad,h1,I,ab,aE,eU,eh,eo,dY,ew⟩:=h.form;have aq:=aH.procs;have az:=o.uS m;unfold o.ea at aq;refine bl E.KH ?_;refine aa ?_;intro w1 br cF ah al;refine aa ?_;refine L_ 4 m.procs.length [1] (fun x:gr×C_ o.cR=>[(3,.slice x.1.1 x.1.2.1 x.1.2.2)]) ((none,0,0),[]) (fun k x w'=>(Ext w w'/\w'.heap[br]? = w1.heap[br]?)/\aP o.cR.enc T.d 2 w.heap.size w' (.slice x.1.1 x.1.2.1 x.1.2.2) x.2/\x.2++o.jO m (m.procs.drop k) k=o.insts m) a8 a8 ⟨⟨ah,rfl⟩,aP.nil _ _ _ _ _,by simp[o.insts]⟩ ?_;rw[al];clear al;rintro k ⟨v,l⟩ S aB hk ⟨⟨aj,au⟩,dj,se⟩;refine aa ?_;apply I_<;>intro g1
 .have aV:k<m.procs.length:=Aw
  obtain⟨a,rfl⟩:=ab.addr;obtain⟨ak,bV,dL,dA,eW,fl⟩:=ab.at k aV;obtain⟨_,_,rfl,_⟩:=eW.form;obtain⟨_,_,rfl,_⟩:=fl.form;rw[o.aaB aV] at se;have qv:=congrArg List.length se;simp only[List.length_append] at qv;have uH:=o.DW m m.procs[k];refine dO ?_;simp -dsimp only[cu];refine dO ?_;refine S_ [1,4] (fun x:gr=>[(3,.slice x.1 x.2.1 x.2.2)]) (fun x w'=>(Ext w w'/\w'.heap[br]? = aB.heap[br]?)/\aP o.cR.enc T.d 2 w.heap.size w' (.slice x.1 x.2.1 x.2.2) (l++o.je k m.procs[k])) ?_ ?_
  .refine aa ?_;apply I_<;>intro g2
   .have e1:o.je k m.procs[k]=[⟨(k:Int),0⟩]:=by unfold o.je;rw[if_pos g2]
    rw[e1] at qv ⊢;simp only[List.length_cons,List.length_nil] at qv;refine aa ?_;intro aK bR e9 ag bh;have dG:=dj.ext ag;have oS:=ag.obj au;refine aa ?_;refine U_ (y:=⟨(k:Int),0⟩) dG bh rfl (fun _=>rfl) o.aaA (by simp only;omega) (by unfold maxLen;simp only;omega) (aj.trans ag).size fun aO n c aR dz nA=>?_;refine aa ?_;exact⟨(aO,n,c),a8,⟨dG.k2 (aj.trans ag) nA (Gf _),by rw[au];exact dG.box nA oS BJ⟩,dz⟩
   .have e1:o.je k m.procs[k]=[]:=by unfold o.je;rw[if_neg g2]
    refine aa ?_;exact⟨v,a8,⟨aj,aL⟩,by rw[e1,AF2];exact dj⟩
  rintro v3 S aK ⟨⟨ag,bh⟩,dG⟩;rw[au] at bh;clear au;refine aa ?_;refine _P [1,4] (fun x:gr×Nat=>[(3,.slice x.1.1 x.1.2.1 x.1.2.2),(5,.I ((x.2:Int)+1))]) (v3,0) (fun x w'=>(x.2<=o.elems m m.procs[k]/\Ext w w'/\w'.heap[br]? = aK.heap[br]?)/\aP o.cR.enc T.d 2 w.heap.size w' (.slice x.1.1 x.1.2.1 x.1.2.2) (l++o.je k m.procs[k]++o.jR k x.2)) (fun x=>4 - x.2) a8 ⟨⟨AG0 _,ag,rfl⟩,by simpa[o.jR] using dG⟩ ?_;rw[bh];clear bh;rintro⟨v4,j⟩ S aR ⟨⟨aC,aw,bf⟩,dz⟩;refine aa ?_;refine P_ _ (fun w' e=>aqv _ m m.procs[k] _ _ w' (h.ext (aw.trans e))) ?_;refine aa ?_;intro bo aF;have bY:=aF.obj bf;have dt:=dz.ext aF;refine aa ?_;apply I_<;>intro g2
  .have en:j<o.elems m m.procs[k]:=Aw
   refine aa ?_;intro bt ee gf aI b1;have c9:=dt.ext aI;have oS:=aI.obj bY;have wi:=(aw.trans aF).trans aI;refine aa ?_;have hf:(l++o.je k m.procs[k]++o.jR k j).length+1<=(o.insts m).length:=by
    simp only[List.length_append,o.jR,List.length_map,List.length_range] at qv ⊢;omega
   refine U_ (y:=⟨(k:Int),(j:Int)+1⟩) c9 b1 rfl (fun _=>rfl) o.aaA (Ru (AI9 16 hf) Aw) (Ru hf (by unfold maxLen;omega)) wi.size fun aO n c bG dM kJ=>?_;refine aa ?_;exact⟨((aO,n,c),j+1),a8,⟨⟨by show j+1<=_;omega,c9.k2 wi kJ (Gf _),c9.box kJ oS BJ⟩,by rw[o.ab2,<-Wi];exact dM⟩,by show 4 - (j+1)<4 - j;omega⟩
  .have mO:j=o.elems m m.procs[k]:=by simp only at aC;omega
   refine aa ?_;exact⟨aV,aL,(v4,l++(o.je k m.procs[k]++o.jR k j)),a8,⟨aw.trans aF,bY⟩,by rw[<-Wi];exact dt,by rw[mO,<-se];simp⟩
 .rw[AF0 Aw] at se;refine aa ?_;refine⟨?_,aj⟩;simp only[o.jO,List.append_nil] at se;rw[<-se];exact dj
theorem aqB(cs:C_ B_)(m:o.Model)(w:A_)(h:o.dU w cs m)(aH:m.cA)(iI:(o.refs m).length*16<=140737488351232) :
  Dz F.FG #[.agg cs.toArray] w fun v w'=>aP o.Ref.enc T.c 2 w.heap.size w' v (o.refs m)/\Ext w w':=by
 obtain⟨bW,bu,bI,c1,bO,c2,bQ,bp,bZ,bB,rfl,ad,h1,I,ab,aE,eU,eh,eo,dY,ew⟩:=h.form;refine bl E.FG ?_;refine aa ?_;intro w1 br cF ah al;refine aa ?_;refine J_ (F7 _ m w1 (h.ext ah) aH) ?_;rintro bH aB ⟨U,aj⟩;have au:=aj.obj al;have kb:kk aB bH (o.insts m):=aP.hA (enc:=o.cR.enc) (fun _=>rfl) U;obtain⟨b9,ci,rfl,bi⟩:=kb.form;have Og:=ah.trans aj;refine aa ?_;refine L_ 5 (o.insts m).length [1,3] (fun x:gr×C_ o.Ref=>[(4,.slice x.1.1 x.1.2.1 x.1.2.2)]) ((none,0,0),[]) (fun k x w'=>(Ext aB w'/\aP o.Ref.enc T.c 2 aB.heap.size w' (.slice x.1.1 x.1.2.1 x.1.2.2) x.2)/\x.2++o.pO m ((o.insts m).drop k) k=o.refs m) a8 a8 ⟨⟨Ext.refl _,aP.nil _ _ _ _ _⟩,by simp[o.refs]⟩ ?_;rintro k ⟨v,l⟩ S aK hk ⟨⟨ag,dG⟩,Cd⟩;have bh:=ag.obj au;refine aa ?_;apply I_<;>intro g1
 .have aV:k<(o.insts m).length:=Aw
  have uQ:=o.rr (o.insts m)[k] (Gy _);obtain⟨qC,uJ⟩:=Rt uQ.aQ;have oh:qC<m.procs.length:=by have:=uQ.U;omega
  obtain⟨a,rfl⟩:=ab.addr;obtain⟨h7,rfl⟩:=kb.addr;obtain⟨ak,bV,dL,dA,eW,fl⟩:=ab.at qC oh;obtain⟨_,_,rfl,_⟩:=eW.form;obtain⟨_,_,rfl,lc⟩:=fl.form;have mn:o.sv m (o.insts m)[k]=m.procs[qC].cy.length:=by
   unfold o.sv;rw[uJ,o.iv Aw Aw];simp
  rw[o.aqH aV,mn] at Cd;have qv:=congrArg List.length Cd;simp only[List.length_append] at qv;refine aa ?_;refine L_ 6 m.procs[qC].cy.length [1,3,5] (fun x:gr=>[(4,.slice x.1 x.2.1 x.2.2)]) v (fun j x w'=>Ext aB w'/\aP o.Ref.enc T.c 2 aB.heap.size w' (.slice x.1 x.2.1 x.2.2) (l++o.refsOf k j)) a8 a8 ⟨ag,by simpa[o.refsOf] using dG⟩ ?_;clear bh;rintro j v4 S aR aC ⟨aw,dz⟩;have bf:=aw.obj au;have Cg:=dA.ext Og;refine aa ?_;refine K_ qC uJ oh ?_;refine aa ?_;intro bo aF;have dt:=dz.ext aF;refine aa ?_;apply I_<;>intro g2
  .have en:j<m.procs[qC].cy.length:=Aw
   refine aa ?_;intro bt ee gf aI b1;have c9:=dt.ext aI;have wi:=(aw.trans aF).trans aI;refine aa ?_;have hf:(l++o.refsOf k j).length+1<=(o.refs m).length:=by
    simp only[List.length_append,o.refsOf,List.length_map,List.length_range] at qv ⊢;omega
   refine U_ (y:=⟨(k:Int),(j:Int)⟩) c9 b1 rfl (fun _=>rfl) o.aqG Aw (by unfold maxLen;omega) wi.size fun aO n c bG dM kJ=>?_;refine aa ?_;exact⟨en,aL,(aO,n,c),a8,c9.k2 wi kJ (Gf _),by rw[o.acO,<-Wi];exact dM⟩
  .have mO:j=m.procs[qC].cy.length:=Aw
   refine aa ?_;exact⟨aV,aL,(v4,l++o.refsOf k j),a8,⟨aw.trans aF,dt⟩,by rw[mO,<-Cd];simp⟩
 .rw[AF0 Aw] at Cd;refine aa ?_;refine⟨?_,Og.trans ag⟩;simp only[o.pO,List.append_nil] at Cd;rw[<-Cd];exact dG.low Og.size
theorem acK(cs:C_ B_)(m:o.Model)(w:A_)(h:o.dU w cs m)(aH:m.cA)(cM:o.vt m) :
  Dz F.FG #[.agg cs.toArray] w fun v w'=>aP o.Ref.enc T.c 2 w.heap.size w' v (o.refs m)/\Ext w w' :=
 aqB cs m w h aH (by have:=o.tU cM;omega)
end Go.Proofs.R
end
section
namespace a7
open Go
def cE(n:Int):C_ B_:=[.int .i64 n]
theorem lQ:∀(y:Int),∀u∈cE y,u.oneCell'=true:=by intro y u hu;simp[cE] at hu;subst hu;rfl
instance ave:oI (Flat cE) (fun n=>[Value.int .i64 n]):=⟨fun _ _ _ h=>h⟩
end a7
end
section
namespace Go.Proofs.R
open Go Go.RowKit a7
abbrev encI:Int->C_ B_:=fun n=>[Value.int .i64 n]
abbrev nf(base:Nat)(w:A_)(v:B_)(xs:C_ Int):Prop:=aP encI T.a 1 base w v xs
structure qO(base b:Nat)(w:World)(m:Value)(st:List Int):Prop where
 ex:∃Az,w.heap[b]? = some (.cells #[Az,m] T.ni)/\nf base w Az st
 lt:b<base
 le:base<=w.heap.size
theorem qO.ext{base b:Nat}{w w':A_}{m:B_}{st:C_ Int}(h:qO base b w m st)(he:Ext w w'):qO base b w' m st :=
 let ⟨Az,h1,I⟩:=h.ex
 ⟨⟨Az,he.obj h1,I.ext he⟩,h.lt,Ru h.le he.size⟩
theorem D6(st:C_ Int)(h:0<st.length):st.getLastD 0=st[st.length - 1]:=by
 rw[List.getLastD_eq_getLast?,List.getLast?_eq_getElem?,List.getElem?_eq_getElem Aw];rfl
theorem adN(base b:Nat)(w:A_)(m:B_)(st:C_ Int)(h:qO base b w m st)(ad:0<st.length) :
  Dz F.Ip #[.pointer (some ⟨b,0,none⟩)] w fun v w'=>v = .I (st.getLastD 0)/\Ext w w':=by
 obtain⟨Az,cN,aJ⟩:=h.ex;obtain⟨aO,cap,rfl,ai,hm⟩:=aJ.form;have U:Ints w _ st:=aP.jg (enc:=encI) (sz:=1) (fun _=>rfl) aJ;obtain⟨a,rfl⟩:=U.addr ad;unfold maxLen at hm;refine bl E.Ip ?_;refine ay ?_;refine K_ (st.length - 1) Aw Aw ?_;refine ay ?_;intro w1 he;refine ay ?_;rw[D6 _ ad];exact b5
theorem anb(x:o.Node)(cs:C_ B_)(s:o.Scope)(base b:Nat)(w:A_)(m:B_)(st:C_ Int)(af:x.ok)(h:o.fU w cs s)(hm:qO base b w m st)(ab:x.op=3->0<st.length) :
  Dz F.es #[.pointer (some ⟨b,0,none⟩),.agg x.enc.toArray,.agg cs.toArray] w fun v w'=>v = .tuple #[.I (o.jc x s (st.getLastD 0)).1,.I (o.jc x s (st.getLastD 0)).2]/\Ext w w':=by
 obtain⟨a0,bu,cZ,c1,a2,c2,a3,bp,a4,bB,rfl,o6,cO,de,dQ,gK,eU,eh,eo,dY,ew⟩:=h.form;refine bl E.es ?_;simp -dsimp only[cu];refine qV ?_;refine O_ fun w1 br cF ah al=>?_;refine qV ?_;refine O_ fun aB bP db aj au=>?_;have he:=ah.trans aj;have cq:aB.heap[br]? = some (.cells #[.I x.op,.I x.n] T.e):=aj.obj al;clear al;refine qV ?_;simp -dsimp only[cu];refine qV ?_;refine _u (fun aZ w'=>aZ 0 = .pointer (some ⟨b,0,none⟩)/\aZ 4 = .pointer (some ⟨br,0,none⟩)/\aZ 5 = .pointer (some ⟨bP,0,none⟩)/\w'=aB/\(x.op=2\/x.op=3\/x.op=4) /\
  aZ 8=if x.op=4 then .slice a4 s.locals.length bB else .slice cZ s.vars.length c1) ?_ ?_
 .refine ay ?_;apply I_<;>intro g1
  .refine ay ?_;refine J_ (Ns x.n 0 aB) ?_;rintro _ aK ⟨rfl,ag⟩;have hk:o.jc x s (st.getLastD 0)=if o.within x.n then (0,0) else (0,10):=by rw[o.jc,if_pos g1]
   have aA:(o.tell (· + ·) x.n 0).2=o.within x.n:=by
    unfold o.tell
    have:o.within 0=true:=rfl
    simp only[Int.add_zero,this,Bool.and_true,Bool.and_self];split<;>simp_all
   rw[hk,aA];refine ay ?_;refine N_ (fun g2=>?_) (fun g2=>?_)
   all_goals
    refine ay ?_;rw[g2];exact b5
  refine ay ?_;apply I_<;>intro g4
  .refine ay ?_;refine⟨trivial,trivial,trivial,trivial,.inr (.inr g4),by rw[if_pos g4]⟩
  refine ay ?_;apply I_<;>intro g2
  .refine ay ?_;refine⟨trivial,trivial,trivial,trivial,.inl g2,by rw[if_neg g4]⟩
  refine ay ?_;apply I_<;>intro g3
  .refine ay ?_;refine⟨trivial,trivial,trivial,trivial,.inr (.inl g3),by rw[if_neg g4]⟩
  refine ay ?_;refine R_ (c:=[_,_]) cq (Ext.refl _) rfl ?_;refine ay ?_;refine R_ (c:=[_,_,_,_,_,_]) au (Ext.refl _) rfl ?_;refine ay ?_;refine J_ (anc x _ s aB af (h.ext he)) ?_;rintro _ aK ⟨rfl,ag⟩;refine ay ?_;have hk:o.jc x s (st.getLastD 0)=o.mq x s:=by rw[o.jc,if_neg g1,if_neg Aw]
  rw[hk];exact b5
 .rintro S w' b3 ⟨kf,pR,o7,rfl,lW,adj⟩;have hk:o.jc x s (st.getLastD 0)=(let q:=o.gg (if x.op=4 then s.locals else s.vars) x.n s;if q.2.2=false then (0,8) else if (x.op=3/\(q.2.1=0\/st.getLastD 0≠q.2.1))\/(x.op≠3/\q.2.1≠0) then (0,9) else (q.1,0)):=by
   rw[o.jc,if_neg Aw,if_pos lW]
  rw[hk];clear hk;have aD:o.hR w' (S 8) (if x.op=4 then s.locals else s.vars):=by
   rw[adj];split
   .exact gK.ext he
   .exact cO.ext he
  generalize (if x.op=4 then s.locals else s.vars)=l at aD ⊢;obtain⟨S3,eY⟩:∃S3,S 8=S3:=⟨_,rfl⟩;rw[eY] at aD;clear adj;refine dh (i_ kf (i_ pR (i_ o7 eY))) ?_;refine R_ (c:=[_,_,_,_,_,_]) au (Ext.refl _) rfl ?_;refine dh (i_ kf (i_ pR o7)) ?_;refine J_ (asH _ l x.n _ s w' aD (h.ext he)) ?_;rintro _ aK ⟨rfl,ag⟩;generalize o.gg l x.n s=q;obtain⟨yI,Aq,R7⟩:=q;refine dh (i_ kf (i_ pR o7)) ?_;refine N_ (fun g1=>?_) (fun g1=>?_);rotate_left
  .refine ay ?_;simp only[g1,if_true];exact b5
  have m3:=(hm.ext he).ext ag;refine dh (i_ kf (i_ pR o7)) ?_;apply I_<;>intro g2
  .refine dh (i_ kf (i_ pR o7)) ?_;apply I_<;>intro g3
   .refine dh (i_ kf (i_ pR o7)) ?_;simp only[g1,Bool.true_eq_false,if_false];rw[if_pos (.inl ⟨g2,.inl g3⟩)];exact b5
   refine dh (i_ kf (i_ pR o7)) ?_;refine J_ (adN base b aK m st m3 (ab g2)) ?_;rintro _ aR ⟨rfl,aw⟩;refine dh (i_ kf (i_ pR o7)) ?_;apply I_<;>intro g4
   .refine dh (i_ kf (i_ pR o7)) ?_;simp only[g1,Bool.true_eq_false,if_false];rw[if_neg Aw];exact b5
   .refine ay ?_;simp only[g1,Bool.true_eq_false,if_false];rw[if_pos (.inl ⟨g2,.inr g4⟩)];exact b5
  .refine dh (i_ kf (i_ pR o7)) ?_;apply I_<;>intro g4
   all_goals
    refine ay ?_;simp only[g1,Bool.true_eq_false,if_false]
   .rw[if_neg Aw];exact b5
   .rw[if_pos (.inr ⟨g2,g4⟩)];exact b5
end Go.Proofs.R
end
section
namespace Go.Proofs.R
open Go Go.RowKit a7
theorem _w{P:D_}{x:B_}{args:C_ B_}{w:A_}{ba:B_->Prop}{t}(v:B_)(h:∀w',Ext w w'->xo P x args w' (fun u bM=>u=v/\Ext w' bM) ⟨⟩)(hk:ba v):G9 P x args w ba t:=by
 unfold G9;refine⟨v,fun w' he=>?_,hk⟩
 have:=h w' he
 unfold xo at this;obtain⟨f,first,cap,e,av,aG⟩:=this;exact⟨f,first,cap,e,av,aG.mono fun _ _ ⟨h1,I⟩=>⟨h1,he.trans I⟩⟩
theorem xp.ext{w w':A_}{v:B_}{g:Int->Int->Int×Bool}(he:Ext w w')(h:xp w v g):xp w' v g:=by
 rcases h with h | ⟨c,f,p,h1,I,ab⟩
 .exact .inl h
 .exact .inr ⟨c,f,p,h1,he.obj I,ab⟩
def L4(f:o.Node->C_ Int->Int×Int)(two:o.ph->C_ Int->Int×Int)(leaf:o.Node->C_ Int->Int×Int):Prop :=
 ∀x st,f x st=match o.gJ x.op with | some ae=>two ae (st.drop (st.length - ae.parts.toNat)) | none=>leaf x st
theorem RK{x:Int}{ae:o.ph}(h:o.gJ x=some ae):1<=ae.parts/\ae.parts<=2:=by
 unfold o.gJ at h
 repeat' split at h
 all_goals first | (cases h;exact⟨BJ,BJ⟩) | cases h
theorem ar5(f:o.Node->C_ Int->Int×Int)(two:o.ph->C_ Int->Int×Int)(leaf:o.Node->C_ Int->Int×Int)(av:L4 f two leaf)
  (x:o.Node)(base b:Nat)(w:A_)(m nc v2:B_)(st:C_ Int)(hm:qO base b w m st)(aJ:qP w m)(vX:st.length<=24)
  (Qa:0<=o.fe x.op->o.fe x.op<=st.length->o.gJ x.op=none->∀w' cK t,Ext w w'->(∀bM,Ext w' bM->cK (.tuple #[.I (leaf x st).1,.I (leaf x st).2]) bM)->AR Tryz.prog nc [.agg x.enc.toArray] w' cK t)
  (Fg:∀ae ep fc w' cK t,Ext w w'->o.gJ x.op=some ae->Dl w' ae ep->ae.parts<=st.length->Ints w' fc (st.drop (st.length - ae.parts.toNat)) ->
   (∀bM,Ext w' bM->cK (.tuple #[.I (two ae (st.drop (st.length - ae.parts.toNat))).1,.I (two ae (st.drop (st.length - ae.parts.toNat))).2]) bM)->xo Tryz.prog v2 [ep,fc] w' cK t) :
  Dz F.Im #[.pointer (some ⟨b,0,none⟩),.agg x.enc.toArray,nc,v2] w fun v w' =>
   v = .I (o.stepG f x st).1/\Mod (fun k=>k=b\/base<=k) w w'/\((o.stepG f x st).1=0->qO base b w' m (o.stepG f x st).2):=by
 obtain⟨Az,cN,fK⟩:=hm.ex;obtain⟨aO,cap,rfl,EB,ic⟩:=fK.form;have U:Ints w _ st:=aP.jg (enc:=encI) (sz:=1) (fun _=>rfl) fK;unfold maxLen at ic;refine bl E.Im ?_;simp -dsimp only[cu];refine qV ?_;refine O_ fun w1 br cF ah al=>?_;refine qV ?_;simp -dsimp only[cu];refine qV ?_;refine P_ _ (fun w' e=>apq x.op m w' (aJ.ext (ah.trans e))) ?_;refine qV ?_;intro aB aj;have ev:=ah.trans aj;refine qV ?_;simp -dsimp only[cu];generalize ax:o.fe x.op=n;have iH : -1<=n/\n<=2:=by rw[<-ax];unfold o.fe; (repeat' split)<;>omega
 refine ay ?_;apply I_<;>intro g1
 .refine ay ?_;have ak:o.stepG f x st=(3,st):=by unfold o.stepG;rw[ax,if_pos g1]
  rw[ak];exact⟨rfl,ev.mod,fun h=>by cases h⟩
 refine ay ?_;apply I_<;>intro g2
 .refine ay ?_;have ak:o.stepG f x st=(4,st):=by unfold o.stepG;rw[ax,if_neg g1,if_pos g2]
  rw[ak];exact⟨rfl,ev.mod,fun h=>by cases h⟩
 refine qV ?_;simp -dsimp only[cu];refine qV ?_;simp -dsimp only[cu];refine qV ?_;have eK:o.stepG f x st=if (f x st).2≠0 then ((f x st).2,st) else if (st.take (st.length - n.toNat)++[(f x st).1]).length > 12 then (12,st) else (0,st.take (st.length - n.toNat)++[(f x st).1]):=by
  unfold o.stepG;rw[ax,if_neg g1,if_neg g2]
 rw[eK];clear eK;have yi:=av x st;generalize aG:f x st=r at yi ⊢;refine _u (fun aZ w'=>aZ 0 = .pointer (some ⟨b,0,none⟩)/\aZ 9 = .I n/\aZ 10 = .I r.1/\aZ 11 = .I r.2/\Ext w w') ?_ ?_
 .refine ay ?_;intro aK ag;obtain⟨es,q,jP,hJ,wJ⟩:=(aJ.ext (ev.trans ag)).look x.op;refine ay ?_;refine _m jP hJ ?_;cases lW:o.gJ x.op with
  | none =>
   simp only[lW] at wJ yi;subst wJ;simp only[mX,Option.map_none,Option.getD_none,Option.isSome_none,if_true];refine ay ?_;refine O_ fun aR cx e3 aw bf=>?_;refine⟨aw,?_⟩;refine ay ?_;refine T_ (cs:=#[.I 0,.I 0,.I 0,.nilFunc]) bf rfl rfl (by simp[Value.oneCell']) fun bo e4 bY=>?_;have aF:Ext aK bo:=e4.ext aw e3;clear bf e4 aw;refine ay ?_;refine R_ (c:=[_,_]) (aj.obj al) (fE) rfl ?_;refine ay ?_;refine Qa Aw Aw lW _ _ _ ((ev.trans ag).trans aF) fun bt aI=>?_;refine ay ?_;rw[yi];exact⟨trivial,trivial,rfl,rfl,((ev.trans ag).trans aF).trans aI⟩
  | some ae =>
   simp only[lW] at wJ yi;obtain⟨i,ep,rfl,u,rfl,a6⟩:=wJ;obtain⟨bI,bO⟩:=RK lW;have on:=(o.FR lW).1;simp only[mX,Option.map_some,Option.getD_some,Option.isSome_some,if_true];refine ay ?_;refine O_ fun aR cx e3 aw bf=>?_;refine⟨aw,?_⟩;refine ay ?_;refine T_ (cs:=#[.I ae.parts,.I ae.jC,.I ae.makes,u]) bf rfl rfl (by rcases a6 with ⟨f,rfl,_⟩ | ⟨c,f,p,rfl,_⟩<;>simp[Value.oneCell']) fun bo e4 bY=>?_;have aF:Ext aK bo:=e4.ext aw e3;clear bf e4 aw;have PO:=(ev.trans ag).trans aF;have auC:Dl aK ae (.agg #[.I ae.parts,.I ae.jC,.I ae.makes,u]):=⟨u,rfl,a6⟩;obtain⟨p,rfl⟩:=Rt (show 0<=n by omega);have aq:ae.parts.toNat=p:=Aw
   refine ay ?_;refine R_ (c:=[_,_,_,_]) bY (Ext.refl _) rfl ?_;refine ay ?_;refine _8 (st.length - p) (by refine aT ?_;rw[Int.ofNat_sub Aw]) ⟨Aw,Aw⟩ ?_;have aA:=U.tail (st.length - p) Aw;rw[aq] at yi;refine ay ?_;refine _w _ (fun w' e=>Fg ae _ _ w' _ _ (PO.trans e) lW ⟨u,rfl,a6.ext (aF.trans e)⟩ Aw (by rw[aq];exact aA.ext Flat.ext (PO.trans e)) fun bM e2=>⟨rfl,e2⟩) ?_;refine ay ?_;intro bt aI;refine ay ?_;rw[yi,aq];exact⟨trivial,trivial,rfl,rfl,PO.trans aI⟩
 .clear al ah aj ev;rintro S aK b3 ⟨kf,Gd,Gc,CM,ag⟩;simp -dsimp only[cu];refine dh (i_ kf (i_ Gd (i_ Gc CM))) ?_;apply I_<;>intro g3;rotate_left
  .refine dh CM ?_;rw[if_pos g3];exact⟨rfl,ag.mod,fun h=>absurd h g3⟩
  obtain⟨p,rfl⟩:=Rt (show 0<=n by omega);have q4:¬r.2≠0:=by simpa using g3
  rw[if_neg q4];have ic:(st.take (st.length - p)++[r.1]).length=st.length - p+1:=by simp[List.length_take]
  have iY:=hm.ext ag;have dG:nf base aK (.slice aO st.length cap) st:=fK.ext ag;refine qV ?_;simp -dsimp only[cu];refine dh (i_ kf (i_ Gd (i_ Gc CM))) ?_;intro aR aw;have dz:nf base aR (.slice aO st.length cap) st:=dG.ext aw;refine dh (i_ kf (i_ Gd (i_ Gc CM))) ?_;refine _N (st.length - p) (by refine aT ?_;rw[Int.ofNat_sub Aw]) Aw ?_;refine dh (i_ kf (i_ Gd (i_ Gc CM))) ?_;refine Y_ (cs:=[r.1].flatMap encI) (by simp[List.range,List.range.loop,eZ,lay,c0,bL,Value.cells,encI]) fun bo dE kI aF bY=>?_;refine⟨aF,?_⟩;refine ay ?_;have dt:nf base bo (.slice aO (st.length - p) cap) (st.take (st.length - p)):=aP.head (enc:=encI) (sz:=1) (xs:=st) (fun _=>rfl) (aP.ext aF dz) (st.length - p) (AI0 _ _);have b4:(st.take (st.length - p)).length=st.length - p:=by simp[List.length_take]
  have CB:((st.take (st.length - p)).length+[r.1].length)*8<=140737488355328:=by rw[b4];simp only[List.length_cons,List.length_nil];omega
  have apY:(st.take (st.length - p)).length+[r.1].length<=maxLen:=by rw[b4];simp only[List.length_cons,List.length_nil,maxLen];omega
  have cO:∀y,∀u∈encI y,u.oneCell'=true:=fun y u h=>by simp[encI] at h;subst h;rfl
  refine _O (xs:=st.take (st.length - p)) (ys:=[r.1]) dt (fun _=>rfl) (gN bY) rfl cO CB apY (by have:=hm.le;have:=ag.size;have:=aw.size;have:=aF.size;omega) fun v6 bt c9 iq=>?_;have Eu:bo.heap[b]? = some (.cells #[.slice aO st.length cap,m] T.ni):=aF.obj (aw.obj (ag.obj cN));have gf:bt.heap[b]? = some (.cells #[.slice aO st.length cap,m] T.ni):=by
   refine(iq.block b (cr Eu) fun e=>?_).trans Eu
   have:=(dt.lt b e.symm).1
   have:=hm.lt
   omega
  refine ay ?_;refine _E gf Bh (by obtain⟨aO,cap,e,_⟩:=c9.form;rw[e];rfl) fun bG dy cf=>?_;have wv:Mod (fun k=>k=b\/base<=k) w bG :=
   (((ag.trans aw).trans aF).mod.trans (Mod.grown iq fun k hk=>.inr (dt.lt k hk).1)).trans (dy.mod (.inl rfl))
  have ib:qO base b bG m (st.take (st.length - p)++[r.1]) :=
   ⟨⟨v6,cf,c9.wr dy hm.lt⟩,hm.lt,Ru hm.le wv.size⟩
  obtain⟨qF,atM,rfl,b1,_⟩:=c9.form;rw[ic];have auP:((st.take (st.length - p)++[r.1]).length:Int)=st.length - p+1:=by rw[ic];omega
  refine dh (i_ kf (i_ Gd (i_ Gc CM))) ?_;apply I_<;>intro g4
  .refine ay ?_;simp only[Int.toNat_natCast,ic];rw[if_pos Aw];exact⟨rfl,wv,fun h=>by cases h⟩
  .refine ay ?_;simp only[Int.toNat_natCast,ic];rw[if_neg Aw];exact⟨rfl,wv,fun _=>ib⟩
end Go.Proofs.R
end