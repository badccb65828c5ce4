/- Parts. -/
import Derived.Test.YtakmdjclehkglaaGreatDoorQapg
import Derived.RangeFuncWrites
set_option linter.all false
set_option maxRecDepth 100000
set_option maxHeartbeats 4000000
namespace a8
open Go Go.RowKit
inductive te where
 | ur (g:Operand) (p:Nat) (a b:e0)
 | uv (x:te) (y:e0)
 | je (x:e0) (y:te)
 | cy (id:Nat) (x:te)
def nT(P:D_)(n:Nat):Code->H_ te
 | .rangeFunc g dx a b=>match dx.toList,comp P n a,comp P n b with
  | [p],some qg,some hr=>if p<n then some (.ur g p qg hr) else none
  | _,_,_=>none
 | .seq x y=>match comp P n x with
  | some xw=>(nT P n y).map (.je xw)
  | none=>match nT P n x,comp P n y with
   | some rx,some xx=>some (.uv rx xx)
   | _,_=>none
 | .block id x=>(nT P n x).map (.cy id)
 | _=>none
structure zO where
 n:Nat
 res:List nk
 code:te
def Ab(P:D_)(f:E_):H_ zO :=
 match P.funcs[f]? with
 | some fn=>match fn.body with
  | some c=>match nT P fn.ntmps c,yx P fn.results.toList with
   | some lc,some r=>some ⟨fn.ntmps,r,lc⟩
   | _,_=>none
  | none=>none
 | none=>none
structure Em(iC:World->World->Prop)(B:Nat):Prop where
 trans:∀{a b c:World},iC a b->iC b c->iC a c
 put:∀(W:World) (l:Nat) (ae o':Obj),B<=l->W.heap[l]? = some ae->ae.isCells=false->iC W (W.putObj l o')
def nh(hU:Nat)(cF:C_ F_)(W b3:A_):Prop:=Below hU W b3/\∀(k:Nat) (c:Array B_) (t:F_) (f:Nat×Nat),W.heap[k]? = some (.cells c t f)->t∈cF->b3.heap[k]? = W.heap[k]?
def nh.ok{hU B:Nat}(cF:C_ F_)(h:hU<=B):Em (nh hU cF) B where
 trans h k:=⟨h.1.trans k.1,λi c t f U aB=>by rw[<-h.2 i c t f U aB];exact k.2 i c t f ((h.2 i c t f U aB).trans U) aB⟩
 put W l ae o' aE aQ an:=⟨(Below.refl hU W).grown (grownBy_putObj' W l o') (by have:=(Array.getElem?_eq_some_iff.1 aQ).1;omega) (λk e=>by cases e;omega),λk c t f hk _=>by
  have ct:l≠k:=λe=>by subst e;rw[aQ] at hk;injection hk with hk;subst hk;cases an
  exact World.putObj_heap_other (Ne.symm ct)⟩
def Ext.iy{hU:Nat}{cF:C_ F_}{W b3:A_}(h:Ext W b3)(aw:hU<=W.heap.size):nh hU cF W b3:=⟨Below.mono h aw,λk c t f hk _=>h.heap (cq hk)⟩
def asv{α:Type}(iC:A_->A_->Prop)(B:Nat)(da:C_ α->A_->Prop)(rn:fK->C_ α->A_->Prop)(xs:C_ α)(W:A_):fK->Fr->A_->Prop
 | .normal,_,b3=>KeepsFrom B W b3/\iC W b3/\da xs b3
 | .ht _,_,_=>False
 | e,_,b3=>KeepsFrom B W b3/\rn e xs b3
def uI(B:Nat)(W b3:A_):Prop := ∃l,B<=l/\(∃ae,W.heap[l]? = some ae/\ae.isCells=false)/\W.grownBy b3 (some l)
def agf(P:D_)(g:B_)(p:Nat)(a b:e0)(Q:Nat->fK->Fr->A_->Prop)(S:Fr)(w:A_):Prop :=
 ∃(α:Type) (enc:α->B_) (jr:Nat) (hr:Array B_) (iC:A_->A_->Prop) (oF qE:C_ α->Prop) (N:Nat) (w0:A_),g = .func (.func jr) #[] hr/\okF P jr=true/\SeqStopsK Fence.wide 0 P jr hr (λx=>#[enc x]) iC oF qE N w0/\Ext w0 w/\Em iC w.heap.size /\
 ∃(da:C_ α->A_->Prop) (rn:fK->C_ α->A_->Prop),OwnFrom w.heap.size da/\(∀e,OwnFrom w.heap.size (rn e))/\da [] w /\
  (∀pre x W,da pre W->pre.length<N->dV P a (vM (λuJ iP=>KeepsFrom w.heap.size W iP/\iC W iP/\∀e4,uI w.heap.size iP e4->dV P b (asv iC w.heap.size da rn (pre++[x]) e4) uJ e4) (λ_ _ _=>False)) (cc S p (enc x)) W) /\
  (∀D xs W,w.heap.size<=D->oF xs->da xs W->W.heap[D]? = some (.deferred (some []))->Q D .normal S W) /\
  (∀D e pre W,e≠.normal->w.heap.size<=D->qE pre->rn e pre W->W.heap[D]? = some (.deferred (some []))->Q D e S W)
def asx{α:Type}{enc:α->B_}{P:D_}{g:G_}{p:Nat}{zW body:Code}{Q:Exit->Act->A_->Prop}{a:Act}{w w0:A_}{jr:Nat}{hr:Array B_}{iC:A_->A_->Prop}{N:Nat}{oF qE:C_ α->Prop}
  (aG:a.eval g = .func (.func jr) #[] hr)(c8:okF P jr=true)(tT:SeqStopsK Fence.wide 0 P jr hr (λx=>#[enc x]) iC oF qE N w0)(he:Ext w0 w)(tD:Em iC w.heap.size)
  (da:C_ α->A_->Prop)(rn:Code->C_ α->A_->Prop)(aP:OwnFrom w.heap.size da)(yJ:∀c,OwnFrom w.heap.size (rn c))(ad:da [] w)
  (Gt:∀l pre x W,da pre W->pre.length<N->zW.wpIn (oA (some l)) 1 P (Exit.then (λdb iP=>KeepsFrom w.heap.size W iP/\iC W iP /\
   ∀e4,uI w.heap.size iP e4->body.wpIn (oA (some l)) 1 P (ownPostG w.heap.size iC da rn (pre++[x]) e4) db e4) (λ_ _ _=>False)) { tmps:=a.tmps.setIfInBounds p (enc x),defers:=[] } W)
  (AF:∀D xs W,w.heap.size<=D->oF xs->da xs W->W.heap[D]? = some (.deferred (some []))->Q .normal { a with defers:={ target:=.collected D,args:=#[] } :: a.defers } W)
  (KF:∀D c pre W,w.heap.size<=D->qE pre->rn c pre W->W.heap[D]? = some (.deferred (some []))->c.wpIn Fence.wide 3 P Q { a with defers:={ target:=.collected D,args:=#[] } :: a.defers } W) :
  (Code.rangeFunc g #[p] zW body).wpIn Fence.wide 3 P Q a w:=by
 refine wpIn_rangeFunc λfn lq=>?_;obtain⟨o3,vh⟩:∃o3:LoopState->H_ Code->Loop,o3=λst Tg=>{ state:=st,pending:=Tg,fn,tmps:=a.tmps,params:=#[p],assign:=zW,body,defers:=w.heap.size }:=⟨_,rfl⟩;obtain⟨w1,ix⟩:∃w1,(w.alloc (.deferred (some []))).alloc (.loop (o3 .ready none))=w1:=⟨_,rfl⟩;have abJ:w1.heap.size=w.heap.size+2:=by rw[<-ix];simp
 have k3:w1.heap[w.heap.size+1]? = some (.loop (o3 .ready none)):=by
  rw[<-ix]
  have:=World.alloc_heap_new (w.alloc (.deferred (some []))) (.loop (o3 .ready none))
  rwa[World.size_alloc] at this
 have rP:w1.heap[w.heap.size]? = some (.deferred (some [])):=by rw[<-ix];exact(Below.heap_alloc _ _ _ CC).trans (World.alloc_heap_new w _)
 have Ko:da [] w1:=by rw[<-ix];exact aP.alloc _ (aP.alloc _ ad)
 have cN:Below w0.heap.size w0 w1:=by rw[<-ix];exact(he.alloc _).alloc _
 have low:∀{A B:A_} {row:H_ Nat},(∀r,row=some r->w1.heap.size<=r/\∃ae:Obj,A.heap[r]? = some ae/\ae.isWalk=true)->(∀r,row=some r->w.heap.size<=r/\∃ae:Obj,A.heap[r]? = some ae/\ae.isCells=false) :=
  λaS r e=>by obtain⟨I,ae,aQ,hw⟩:=aS r e;exact⟨Ad,ae,aQ,Obj.not_cells_of_walk hw⟩
 refine⟨w.heap.size+1,[{ target:=.collected w.heap.size,args:=#[] }],w1,{ target:=.fn (.func jr) hr,args:=#[.func (.yield (w.heap.size+1)) #[] #[]] },w1,jr,
  #[.func (.yield (w.heap.size+1)) #[] #[]]++hr,w1,?_,?_,λ_ _=>trivial,?_,λ_=>By,?_⟩
 .rw[<-ix,vh];exact run_enterLoop_outer _ _ _ _ _
 .simp only[resolve,aG];simp[go_sem]
 .simp[invoke,go_sem,DR c8]
 refine CallsIn.mono (O6 (r:=none) (callsIn_wide.1 (tT (w.heap.size+1)
  (λpre W=>da pre W/\W.heap[w.heap.size+1]? = some (.loop (o3 .ready none))/\W.heap[w.heap.size]? = some (.deferred (some [])))
  (λpre W => ∃c,rn c pre W/\W.heap[w.heap.size+1]? = some (.loop (o3 .done (some c)))/\W.heap[w.heap.size]? = some (.deferred (some [])))
  w1 cN ?_ ?_ ?_ ⟨Ko,k3,rP⟩))) ?_
 .exact λs A B row aj rT aS=>⟨aP s A B row aj.1 rT (low (B:=B) aS),(grownBy_keeps rT (λr e=>(aS r e).2) aj.2.1 rfl).trans aj.2.1,(grownBy_keeps rT (λr e=>(aS r e).2) aj.2.2 rfl).trans aj.2.2⟩
 .intro s A B row aj rT aS;obtain⟨c,an,I,ab⟩:=aj;exact⟨c,yJ c s A B row an rT (low (B:=B) aS),(grownBy_keeps rT (λr e=>(aS r e).2) I rfl).trans I,(grownBy_keeps rT (λr e=>(aS r e).2) ab rfl).trans ab⟩
 .rintro pre x W ⟨U,I,ab⟩ hlen;have bE:=run_yield (P:=P) (args:=#[enc x]) I (by rw[vh];rfl);rw[vh] at bE;refine⟨fn,_,zW,body,bE,aej (r:=none) (m:=0 - 1) ?_⟩;refine(roundIn_of_wpIn (F:=Fence.wide) (n:=1) (l:=w.heap.size+1) lq ?_) |> λh=>⟨trivial,λc cs _=>h.2 c cs (room_wide _)⟩
  have bA:(#[p]:Array Tmp).zip #[enc x]=#[(p,enc x)]:=by apply Array.ext';simp[Array.toList_zip]
  have alw:=Gt (w.heap.size+1) pre x W U hlen;simp only[bA];refine wpIn_mono alw λe db iP h=>?_;cases e with
  | normal =>
   obtain⟨cK,cV,fo⟩:=h;have cP:=cK.same _ _ Ad I rfl;have d1:=cK.same _ _ (EC _) ab rfl;refine⟨_,run_beginRound cP (by rw[vh]),?_⟩;have cu:=(Array.getElem?_eq_some_iff.1 cP).1;have cA:(iP.putObj (w.heap.size+1) (.loop { o3 .ready none with state:=.busy })).heap[w.heap.size+1]? = some (.loop { o3 .ready none with state:=.busy }):=World.putObj_heap_same cu;have d2:(iP.putObj (w.heap.size+1) (.loop { o3 .ready none with state:=.busy })).heap[w.heap.size]? = some (.deferred (some [])):=(World.putObj_heap_other Ad).trans d1;have bQ:iC iP (iP.putObj (w.heap.size+1) (.loop { o3 .ready none with state:=.busy })):=tD.put _ _ _ _ Ad cP rfl;refine wpIn_mono (fo _ ⟨_,Ad,⟨_,cP,rfl⟩,grownBy_putObj' _ _ _⟩) λe a3 oH ar=>?_;have fin:∀(jump:H_ Code),KeepsFrom w.heap.size (iP.putObj (w.heap.size+1) (.loop { o3 .ready none with state:=.busy })) oH ->
     (Instr.endRound (w.heap.size+1) jump).run P oH = .ok (.bool jump.isNone) (oH.putObj (w.heap.size+1) (.loop (o3 (if jump.isNone then .ready else .done) jump))) /\
     oH.heap[w.heap.size+1]? = some (.loop { o3 .ready none with state:=.busy }) /\
     (oH.putObj (w.heap.size+1) (.loop (o3 (if jump.isNone then .ready else .done) jump))).heap[w.heap.size+1]? = some (.loop (o3 (if jump.isNone then .ready else .done) jump)) /\
     (oH.putObj (w.heap.size+1) (.loop (o3 (if jump.isNone then .ready else .done) jump))).heap[w.heap.size]? = some (.deferred (some [])):=λjump hC=>by
    have eI:=hC.same _ _ Ad cA rfl
    have:=run_endRound (P:=P) jump eI
    rw[vh] at this ⊢;exact⟨this,by rw[vh] at eI;exact eI,World.putObj_heap_same (Array.getElem?_eq_some_iff.1 eI).1,(World.putObj_heap_other Ad).trans (hC.same _ _ (EC _) d2 rfl)⟩
   cases e with
   | normal =>
    obtain⟨c5,dA,ea⟩:=ar;obtain⟨f1,f2,f3,f4⟩:=fin none c5;exact⟨_,_,f1,.inl ⟨rfl,⟨aP.putObj _ ea Ad f2 rfl,f3,f4⟩,tD.trans (tD.trans (tD.trans cV bQ) dA) (tD.put _ _ _ _ Ad f2 rfl)⟩⟩
   | ret =>
    obtain⟨c5,ea⟩:=ar;obtain⟨f1,f2,f3,f4⟩:=fin (some .ret) c5;exact⟨_,_,f1,.inr ⟨rfl,.ret,(yJ _).putObj _ ea Ad f2 rfl,f3,f4⟩⟩
   | exit id =>
    obtain⟨c5,ea⟩:=ar;obtain⟨f1,f2,f3,f4⟩:=fin (some (.exit id)) c5;exact⟨_,_,f1,.inr ⟨rfl,.exit id,(yJ _).putObj _ ea Ad f2 rfl,f3,f4⟩⟩
   | goto t =>
    obtain⟨c5,ea⟩:=ar;obtain⟨f1,f2,f3,f4⟩:=fin (some (.goto t)) c5;exact⟨_,_,f1,.inr ⟨rfl,.goto t,(yJ _).putObj _ ea Ad f2 rfl,f3,f4⟩⟩
   | _=>exact ar.elim
  | _=>exact h.elim
 .rintro e e4 ⟨⟨v,rfl⟩,(⟨xs,b5,U,I,ab⟩ | ⟨pre,ali,c,U,I,ab⟩)⟩
  .exact⟨none,_,by have:=run_endLoop (P:=P) I (by rw[vh];simp);rw[vh] at this;exact this,AF _ xs _ (EC _) b5 (aP.putObj _ U Ad I rfl) ((World.putObj_heap_other Ad).trans ab)⟩
  .exact⟨some c,_,by have:=run_endLoop (P:=P) I (by rw[vh];simp);rw[vh] at this;exact this,KF _ c pre _ (EC _) ali ((yJ c).putObj _ U Ad I rfl) ((World.putObj_heap_other Ad).trans ab)⟩
def o9(P:D_):te->(H_ Nat->fK->Fr->A_->Prop)->Fr->A_->Prop
 | .ur g p a b,Q,S,w=>agf P (bp S g) p a b (λD=>Q (some D)) S w
 | .uv x y,Q,S,w=>o9 P x (λae=>vM (λS w=>dV P y (Q ae) S w) (Q ae)) S w
 | .je x y,Q,S,w=>dV P x (vM (λS w=>o9 P y Q S w) (Q none)) S w
 | .cy id x,Q,S,w=>o9 P x (λae=>Cf id (Q ae)) S w
def marks:H_ Nat->C_ Deferred
 | none=>[]
 | some D=>[{ target:=.collected D,args:=#[] }]
def acM(n:Nat)(Q:H_ Nat->fK->Fr->A_->Prop):Exit->Act->A_->Prop
 | .normal,a,w => ∃ae S,Fits (marks ae) a S n/\Q ae .normal S w
 | .exit i,a,w => ∃ae S,Fits (marks ae) a S n/\Q ae (.exit i) S w
 | .ret,a,w => ∃ae S,Fits (marks ae) a S n/\Q ae .ret S w
 | .panic c,a,w => ∃ae S,Fits (marks ae) a S n/\Q ae (.ht c) S w
 | _,_,_=>False
theorem apd{n:Nat}{Q:H_ Nat->fK->Fr->A_->Prop}{ae:H_ Nat}{e:Exit}{a:Act}{w:A_}(h:K6 (marks ae) n (Q ae) e a w):acM n Q e a w:=by
 cases e with
 | normal=>obtain⟨S,h1,I⟩:=h;exact⟨ae,S,h1,I⟩
 | exit i=>obtain⟨S,h1,I⟩:=h;exact⟨ae,S,h1,I⟩
 | ret=>obtain⟨S,h1,I⟩:=h;exact⟨ae,S,h1,I⟩
 | panic c=>obtain⟨S,h1,I⟩:=h;exact⟨ae,S,h1,I⟩
 | _=>exact h.elim
theorem Nd{P:D_}(hm:P.follows .mixedOrders=true){n:Nat}:∀(c:Code) (rc:te),nT P n c=some rc->∀(Q:H_ Nat->fK->Fr->A_->Prop) (a:Act) (S:Fr) (w:A_),Fits [] a S n->o9 P rc Q S w->c.wpIn Fence.wide 3 P (acM n Q) a w
 | .rangeFunc g dx zW b,rc,h,Q,a,S,w,ay,aF=>by
  simp only[nT] at h;split at h
  .rename_i p qg hr tR aY ak;split at h
   .rename_i ar;injection h with h;subst h
    obtain⟨α,enc,jr,axe,iC,oF,qE,N,w0,aG,c8,tT,he,tD,da,rn,aP,yJ,ad,alD,AF,KF⟩:=aF;have anC:dx=#[p]:=by rw[<-AG8 (xs:=dx),tR]
    subst anC;refine asx (by rw[ay.eval];exact aG) c8 tT he tD da (λc=>match c with | .ret=>rn .ret | .exit id=>rn (.exit id) | _=>λ_ _=>False) aP ?_ ad ?_ ?_ ?_
    .intro c;split
     .exact yJ _
     .exact yJ _
     .exact λs W b3 row h _ _=>h.elim
    .intro l pre x W U aE;have yV:Fits [] ({ tmps:=a.tmps.setIfInBounds p (enc x),defers:=[] }:Act) (cc S p (enc x)) n:=by
      refine⟨rfl,by simp[ay.2.1],λt=>?_⟩
      have:=ay.2.2 t
      simp only[cc];by_cases aB:t=p
      .subst aB;simp[ay.2.1,ar]
      .have I:(a.tmps.setIfInBounds p (enc x))[t]? = a.tmps[t]? := Array.getElem?_setIfInBounds_ne (Ne.symm aB);rw[if_neg aB,<-this];simp[Array.getD_eq_getD_getElem?,I]
     refine wpIn_mono (sound (ds:=[]) (r:=some l) hm zW qg aY _ _ _ W yV (alD pre x W U aE)) λe cx b3 au=>?_;cases e with
     | normal =>
      obtain⟨aZ,eO,h1,I,ab⟩:=au;refine⟨h1,I,λe4 aC=>?_⟩;refine wpIn_mono (sound (ds:=[]) (r:=some l) hm b hr ak _ _ _ e4 eO (ab e4 aC)) λe a2 oH au=>?_;cases e with
      | normal=>obtain⟨aZ,_,h1,I,ab⟩:=au;exact⟨h1,I,ab⟩
      | ret=>obtain⟨aZ,_,h1,I⟩:=au;exact⟨h1,I⟩
      | exit id=>obtain⟨aZ,_,h1,I⟩:=au;exact⟨h1,I⟩
      | panic c=>obtain⟨aZ,_,h1⟩:=au;exact h1.elim
      | _=>exact au.elim
     | ret=>obtain⟨aZ,_,h1⟩:=au;exact h1.elim
     | exit id=>obtain⟨aZ,_,h1⟩:=au;exact h1.elim
     | panic c=>obtain⟨aZ,_,h1⟩:=au;exact h1.elim
     | _=>exact au.elim
    .intro D xs W gq b5 U bb;exact⟨some D,S,⟨by rw[ay.1];rfl,ay.2⟩,AF D xs W gq b5 U bb⟩
    .intro D c pre W gq b5 U bb;have aaK:Fits (marks (some D)) { a with defers:={ target:=.collected D,args:=#[] } :: a.defers } S n:=⟨by rw[ay.1];rfl,ay.2⟩;split at U
     .exact wpIn_ret ⟨some D,S,aaK,KF D .ret pre W CC gq b5 U bb⟩
     .exact wpIn_exit ⟨some D,S,aaK,KF D (.exit _) pre W CC gq b5 U bb⟩
     .exact U.elim
   .cases h
  .cases h
 | .seq x y,rc,h,Q,a,S,w,ay,aF=>by
  simp only[nT] at h;split at h
  .rename_i xw af;obtain⟨aeB,bE,rfl⟩:=Option.map_eq_some_iff.1 h;refine wpIn_seq (wpIn_mono (sound (ds:=[]) (r:=none) (m:=3) hm x xw af _ a S w ay aF) λe cx w' au=>?_);cases e with
   | normal=>obtain⟨aZ,eO,au⟩:=au;exact Nd hm y aeB bE Q cx aZ w' eO au
   | exit i=>obtain⟨aZ,eO,au⟩:=au;exact⟨none,aZ,eO,au⟩
   | ret=>obtain⟨aZ,eO,au⟩:=au;exact⟨none,aZ,eO,au⟩
   | panic c=>obtain⟨aZ,eO,au⟩:=au;exact⟨none,aZ,eO,au⟩
   | _=>exact au.elim
  .split at h
   .rename_i rx xx af bE;injection h with h;subst h
    refine wpIn_seq (wpIn_mono (Nd hm x rx af _ a S w ay aF) λe cx w' au=>?_);cases e with
    | normal =>
     obtain⟨ae,aZ,eO,au⟩:=au;exact wpIn_mono (sound (ds:=marks ae) (r:=none) (m:=3) hm y xx bE (Q ae) cx aZ w' eO au) λe Xx bM h=>apd h
    | exit i=>obtain⟨ae,aZ,eO,au⟩:=au;exact⟨ae,aZ,eO,au⟩
    | ret=>obtain⟨ae,aZ,eO,au⟩:=au;exact⟨ae,aZ,eO,au⟩
    | panic c=>obtain⟨ae,aZ,eO,au⟩:=au;exact⟨ae,aZ,eO,au⟩
    | _=>exact au.elim
   .cases h
 | .block id b,rc,h,Q,a,S,w,ay,aF=>by
  simp only[nT] at h;obtain⟨Hj,ak,rfl⟩:=Option.map_eq_some_iff.1 h;refine wpIn_block (wpIn_mono (Nd hm b Hj ak _ a S w ay aF) λe cx w' au=>?_);cases e with
  | normal=>obtain⟨ae,aZ,eO,au⟩:=au;exact⟨ae,aZ,eO,au⟩
  | ret=>obtain⟨ae,aZ,eO,au⟩:=au;exact⟨ae,aZ,eO,au⟩
  | panic c=>obtain⟨ae,aZ,eO,au⟩:=au;exact⟨ae,aZ,eO,au⟩
  | exit i =>
   obtain⟨ae,aZ,eO,au⟩:=au;simp only[Cf] at au;simp only[Exit.inBlock];split at au
   .rename_i U;rw[if_pos U];exact⟨ae,aZ,eO,au⟩
   .rename_i U;rw[if_neg U];exact⟨ae,aZ,eO,au⟩
  | _=>exact au.elim
 | .skip,rc,h,_,_,_,_,_,_=>by simp[nT] at h
 | .region _ _ _,rc,h,_,_,_,_,_,_=>by simp[nT] at h
 | .cond _ _ _,rc,h,_,_,_,_,_,_=>by simp[nT] at h
 | .loop _,rc,h,_,_,_,_,_,_=>by simp[nT] at h
 | .exit _,rc,h,_,_,_,_,_,_=>by simp[nT] at h
 | .ret,rc,h,_,_,_,_,_,_=>by simp[nT] at h
 | .scope _,rc,h,_,_,_,_,_,_=>by simp[nT] at h
 | .label _,rc,h,_,_,_,_,_,_=>by simp[nT] at h
 | .goto _,rc,h,_,_,_,_,_,_=>by simp[nT] at h
 | .refuse _,rc,h,_,_,_,_,_,_=>by simp[nT] at h
def Fb(res:C_ nk)(R:B_->A_->Prop):H_ Nat->fK->Fr->A_->Prop
 | none,e,S,w=>E9 res R e S w
 | some D,.normal,S,w=>w.heap[D]? = some (.deferred (some []))/\qp res S (fH w D (.deferred none)) λvs=>R (jE vs) (fH w D (.deferred none))
 | some D,.ret,S,w=>w.heap[D]? = some (.deferred (some []))/\qp res S (fH w D (.deferred none)) λvs=>R (jE vs) (fH w D (.deferred none))
 | some _,.exit _,_,_=>False
 | some _,.ht _,_,_=>False
def asH{P:D_}{D:Nat}{w:A_}(h:w.heap[D]? = some (.deferred (some []))):(Instr.takeDeferred D).run P w = .ok [] (fH w D (.deferred none)):=by
 simp[Instr.takeDeferred,Sem.run_bind,getObj,setObj,Sem.run,h,Result.andThen,fH]
def ai7{P:D_}{f:E_}{L:zO}(hm:P.follows .mixedOrders=true)(an:Ab P f=some L){args:C_ B_}{w:A_}{R:B_->A_->Prop}(aY:args.length<=L.n)
  (h:o9 P L.code (Fb L.res R) (iT args 0) w):aX P f args.toArray w R:=by
 unfold Ab at an;split at an
 .rename_i fn lq;split at an
  .rename_i c ak;split at an
   .rename_i lc r h1 I;injection an with an;subst an
    refine(callsIn_wide (n:=3)).1 (callsIn_of_wp_marks (F:=Fence.wide) lq ak trivial (wpIn_mono (Nd hm c lc h1 _ _ (iT args 0) w ?_ h) ?_))
    .refine⟨rfl,?_,λt=>?_⟩
     .have:=aY;simp only at this;simp;omega
     .rw[Jv];simp only[Nat.zero_le,if_true,Nat.sub_zero];by_cases aB:t<args.length
      .simp[Array.getD_eq_getD_getElem?,Array.getElem?_append,aB]
      .simp only[Array.getD_eq_getD_getElem?,Array.getElem?_append,List.size_toArray,if_neg aB,List.getElem?_eq_none (Nat.le_of_not_lt aB),Option.getD_none];rw[Array.getElem?_replicate];split<;>rfl
    .have fin:∀(ae:H_ Nat) (S:Fr) (cx:Act) (w':A_),Fits (marks ae) cx S fn.ntmps->(Fb r R ae .normal S w')->LeavesInM Fence.wide 3 P fn cx.tmps (λe w' => ∃v,e = .returned v/\R v w') cx.defers .returning w':=by
      intro ae S cx w' ay au;rw[ay.1];cases ae with
      | none =>
       obtain⟨vs,ab,aC⟩:=s4 ay _ _ _ I au;exact⟨_,xJ ab,_,rfl,aC⟩
      | some D =>
       obtain⟨bb,au⟩:=au;obtain⟨vs,ab,aC⟩:=s4 ay _ _ _ I au;exact⟨CC,.inl ⟨D,_,rfl,asH bb,⟨_,xJ ab,_,rfl,aC⟩⟩⟩
     intro e cx w' au;cases e with
     | normal=>obtain⟨ae,S,ay,au⟩:=au;exact fin ae S cx w' ay au
     | ret =>
      obtain⟨ae,S,ay,au⟩:=au;refine fin ae S cx w' ay ?_;cases ae<;>exact au
     | exit i=>obtain⟨ae,S,ay,au⟩:=au;cases ae<;>exact au.elim
     | panic c=>obtain⟨ae,S,ay,au⟩:=au;cases ae<;>exact au.elim
     | _=>exact au.elim
   .cases an
  .cases an
 .cases an
end a8
namespace a8
open Go Go.RowKit
section
variable{P:Program}{S:Fr}{w:World}
def gH.start{f:E_}{L:zO}(hm:P.follows .mixedOrders=true)(an:Ab P f=some L){args:C_ B_}{w:A_}{R:B_->A_->Prop}(aY:args.length<=L.n)(h:o9 P L.code (Fb L.res R) (iT args 0) w):aX P f args.toArray w R:=ai7 hm an aY h
def gH.je{x:e0}{y:te}{Q:H_ Nat->fK->Fr->A_->Prop}(h:eZ P x (jD (λS w=>o9 P y Q S w) (Q none) ⟨⟩) S w ⟨⟩):o9 P (.je x y) Q S w:=by unfold eZ jD at h;exact h
def gH.uv{x:te}{y:e0}{Q:H_ Nat->fK->Fr->A_->Prop}(h:o9 P x (λae=>jD (λS w=>eZ P y (Q ae) S w ⟨⟩) (Q ae) ⟨⟩) S w):o9 P (.uv x y) Q S w:=by unfold eZ jD at h;exact h
def gH.cy{id:Nat}{x:te}{Q:H_ Nat->fK->Fr->A_->Prop}(h:o9 P x (λae=>yn id (Q ae) ⟨⟩) S w):o9 P (.cy id x) Q S w:=by unfold yn at h;exact h
def gH.ret{res:C_ nk}{R:B_->A_->Prop}{D:Nat}(bb:w.heap[D]? = some (.deferred (some [])))(h:ou res S (fH w D (.deferred none)) (λvs=>R (jE vs) (fH w D (.deferred none))) ⟨⟩):Fb res R (some D) .ret S w:=by
 unfold ou at h;exact⟨bb,h⟩
def gH.E8{res:C_ nk}{R:B_->A_->Prop}{e:fK}(h:tA res R ⟨⟩ e S w):Fb res R none e S w:=by
 unfold tA at h;exact h
theorem gH.ur{α:Type}{enc:α->B_}{g:G_}{p:Nat}{a b:e0}{Q:H_ Nat->fK->Fr->A_->Prop}{jr:Nat}{hr:Array B_}{iC:A_->A_->Prop}{oF qE:C_ α->Prop}{N:Nat}{w0:A_}
  (aG:bp S g = .func (.func jr) #[] hr)(c8:okF P jr=true)(tT:SeqStopsK Fence.wide 0 P jr hr (λx=>#[enc x]) iC oF qE N w0)(he:Ext w0 w)(tD:Em iC w.heap.size)
  (da:C_ α->A_->Prop)(aP:OwnFrom w.heap.size da)(ad:da [] w)
  (Gt:∀pre x W,da pre W->pre.length<N->eZ P a (jD (λuJ iP=>KeepsFrom w.heap.size W iP/\iC W iP/\∀e4,uI w.heap.size iP e4 ->
   eZ P b (jD (λ_ b3=>KeepsFrom w.heap.size e4 b3/\iC e4 b3/\da (pre++[x]) b3) (λ_ _ _=>False) ⟨⟩) uJ e4 ⟨⟩) (λ_ _ _=>False) ⟨⟩) (cc S p (enc x)) W ⟨⟩)
  (AF:∀D xs W,w.heap.size<=D->oF xs->da xs W->W.heap[D]? = some (.deferred (some []))->Q (some D) .normal S W):o9 P (.ur g p a b) Q S w:=by
 refine⟨α,enc,jr,hr,iC,oF,qE,N,w0,aG,c8,tT,he,tD,da,λ_ _ _=>False,aP,λ_ _ _ _ _ h _ _=>h.elim,ad,λpre x W U aE=>?_,AF,λD e pre W _ _ _ h _=>h.elim⟩;have h:=Gt pre x W U aE;unfold eZ jD at h;refine qx a _ _ _ W (λe uJ iP _ h1=>?_) h;cases e with
 | normal =>
  obtain⟨cK,cV,fo⟩:=h1;refine⟨cK,cV,λe4 aS=>?_⟩;have I:=fo e4 aS;refine qx b _ _ _ e4 (λe jW oH _ ab=>?_) I;cases e with
  | normal=>exact ab
  | exit _=>exact ab.elim
  | ret=>exact ab.elim
  | ht _=>exact ab.elim
 | exit _=>exact h1.elim
 | ret=>exact h1.elim
 | ht _=>exact h1.elim
theorem uI.cells{B:Nat}{W b3:A_}(h:uI B W b3){k:Nat}{c:Array B_}{t:F_}{f:Nat×Nat}(hk:W.heap[k]? = some (.cells c t f)):b3.heap[k]? = some (.cells c t f):=by
 obtain⟨l,aE,⟨ae,aQ,an⟩,aG⟩:=h;rw[aG.block k (cq hk) λe=>by injection e with e;subst e;rw[aQ] at hk;injection hk with hk;subst hk;cases an];exact hk
def uI.mod{B:Nat}{W b3:A_}(h:uI B W b3):∃l,B<=l/\(∀c t f,W.heap[l]? ≠ some (.cells c t f))/\Mod (λk=>k=l) W b3:=by
 obtain⟨l,aE,⟨ae,aQ,an⟩,aG⟩:=h;exact⟨l,aE,(λc t f e=>by rw[aQ] at e;injection e with e;subst e;cases an),Mod.grown aG λk e=>by injection e with e;exact e.symm⟩
theorem uI.ext{B:Nat}{w W b3:A_}(h:uI B W b3)(he:Ext w W)(hK:w.heap.size<=B):Ext w b3:=by
 obtain⟨l,aE,_,hm⟩:=h.mod;exact hm.ext he λk hk e=>Ad
def Ext.keeps{W b3:A_}(h:Ext W b3)(B:Nat):KeepsFrom B W b3:=⟨h.size,λk ae _ hk _=>h.obj hk⟩
def Mod.keeps{A:Nat->Prop}{B:Nat}{W b3:A_}(h:Mod A W b3)(dd:∀k,B<=k->A k->∃c t f,W.heap[k]? = some (.cells c t f)):KeepsFrom B W b3 :=
 ⟨h.size,λk ae hK hk an=>h.obj (λa=>by obtain⟨c,t,f,e⟩:=dd k hK a;rw[hk] at e;injection e with e;subst e;cases an) hk⟩
def Mod.iy{A:Nat->Prop}{hU:Nat}{cF:C_ F_}{W b3:A_}(h:Mod A W b3)(aw:hU<=W.heap.size)(ad:∀k,k<hU->¬A k)(dd:∀k c t f,A k->W.heap[k]? = some (.cells c t f)->t∉cF):nh hU cF W b3 :=
 ⟨⟨h.os,h.tape,h.output,h.size,λk hk=>h.block k Ad (ad k hk)⟩,λk c t f hk aB=>h.block k (cq hk) λa=>dd k c t f a hk aB⟩
def Mod.high{A:Nat->Prop}{w W b3:A_}{row:H_ Nat}(h:Mod A w W)(aG:W.grownBy b3 row)(aS:∀r,row=some r->w.heap.size<=r):Mod A w b3 :=
 h.comp (Mod.grown (A:=λk=>row=some k) aG λk e=>e) (λ_ _ a=>a) λi U e=>by have:=aS i e;omega
def e7(aV:Nat)(bs:C_ Nat)(cF:C_ F_)(W b3:A_):Prop:=Mod (λk=>k∈bs\/(aV<=k/\∃c t f,t∈cF/\W.heap[k]? = some (.cells c t f))) W b3
def Ext.Cn{aV:Nat}{bs:C_ Nat}{cF:C_ F_}{W b3:A_}(h:Ext W b3):e7 aV bs cF W b3:=h.mod
def e7.trans{aV:Nat}{bs:C_ Nat}{cF:C_ F_}{a b c:A_}(h:e7 aV bs cF a b)(k:e7 aV bs cF b c):e7 aV bs cF a c :=
 ⟨k.os.trans h.os,k.tape.trans h.tape,k.output.trans h.output,Nn h.size k.size,λi U aw=>by
  have e:=h.block i U aw;refine(k.block i (AH3 U h.size) λa=>aw ?_).trans e;rcases a with a | ⟨db,c,t,f,a2,a3⟩
  .exact .inl a
  .exact .inr ⟨db,c,t,f,a2,by rw[<-e];exact a3⟩⟩
def du.Cn{aV b:Nat}{bs:C_ Nat}{cF:C_ F_}{W b3:A_}(h:du b W b3)(ak:b∈bs):e7 aV bs cF W b3:=(h.mod (A:=λk=>k=b) rfl).BI λk e=>.inl (e ▸ ak)
def e7.grown{α:Type}{enc:α->C_ B_}{sz aV:Nat}{e:F_}{bs:C_ Nat}{cF:C_ F_}{W b3:A_}{v:B_}{xs:C_ α}(aQ:aJ enc e sz aV W v xs)(aG:W.grownBy b3 v.ownBlock)(he:e∈cF):e7 aV bs cF W b3 :=
 (Mod.grown (A:=λk=>v.ownBlock=some k) aG λk e=>e).BI λk hk=>by
  obtain⟨cur,h⟩:=aQ.cy k hk;exact .inr ⟨(aQ.lt k hk).1,_,_,_,he,h⟩
def e7.keeps{aV B:Nat}{bs:C_ Nat}{cF:C_ F_}{W b3:A_}(h:e7 aV bs cF W b3)(hK:∀b∈bs,b<B):KeepsFrom B W b3 :=
 Mod.keeps h λk hk a=>by
  rcases a with a | ⟨_,c,t,f,_,a⟩
  .have:=hK k a;omega
  .exact⟨c,t,f,a⟩
def e7.iy{aV hU:Nat}{bs:C_ Nat}{cF ov:C_ F_}{W b3:A_}(h:e7 aV bs cF W b3)(aw:hU<=W.heap.size)(ad:hU<=aV)(ak:∀b∈bs,hU<=b/\∀c t f,W.heap[b]? = some (.cells c t f)->t∉ov)(aB:∀t∈cF,t∉ov):nh hU ov W b3 :=
 Mod.iy h aw (λk hk a=>by
  rcases a with a | ⟨a,_⟩
  .have:=(ak k a).1;omega
  .omega) λk c t f a hk=>by
  rcases a with a | ⟨_,iQ,hW,uY,db,a2⟩
  .exact(ak k a).2 c t f hk
  .rw[hk] at a2;injection a2 with a2;injection a2 with _ a2;subst a2;exact aB _ db
theorem e7.from{bs:C_ Nat}{cF:C_ F_}{w W b3:A_}(h:Mod (λk=>k∈bs) w W)(c:e7 w.heap.size bs cF W b3):Mod (λk=>k∈bs) w b3 :=
 h.comp c (λ_ _ a=>a) λk hk a=>by
  rcases a with a | ⟨a,_⟩
  .exact a
  .omega
theorem e7.obj{aV:Nat}{bs:C_ Nat}{cF:C_ F_}{W b3:A_}(h:e7 aV bs cF W b3){k:Nat}{c:Array B_}{t:F_}{f:Nat×Nat}(hk:W.heap[k]? = some (.cells c t f))(ak:k∉bs)(aB:t∉cF):b3.heap[k]? = some (.cells c t f):=by
 rw[Mod.block h k (cq hk) λa=>?_]
 .exact hk
 .rcases a with a | ⟨_,iQ,hW,uY,db,a2⟩
  .exact ak a
  .rw[hk] at a2;injection a2 with a2;injection a2 with _ a2;subst a2;exact aB db
end
end a8
namespace Go.Proofs.R
open Go a8 Go.Proofs
def D.d:zO:=⟨37,[.tmp 2], (.je (.dy [dr 1 (.box T.f (aO 0)),fI 2 (.const iK)]) (.je (.dy [dr 3 (.new T.g iK)]) (.je (.dy [cQ 8 (.h3 [dN,dN] [(0,1),(1,1)] [(0,(cC (-1)))]),dr 4 (.new T.a dN),dr 5 (.new T.d (.agg #[dN,dN])),hy (.st (aO 4) (cC (-1))),qy 2 5 8]) (.uv (.je (.dy [ig 9 5 1,ow 10 F.yi [9]]) (.cy 0 (.ur (aO 10) 11 (.dy [dr 6 (.new T.d (.agg #[dN,dN])),qy 2 6 11]) (.cy 1 (.seq (cS [ig 12 2 6,ig 13 2 5,iL .neq T.d 14 12 13] (kh 14 (.dy [eE 15 4,ki .add T.a 16 15 1,ys 4 16]) .skip)) (cS [ig 17 2 6,qy 2 5 17] (cS [fq 18 3 1,eE 19 18,fq 20 0 6,eE 21 20,ij 22 5 19 21,fq 23 4 22,eE 24 23,l2 25 24,fI 26 (cC 0)] (.cy 2 (.loop (cS [iL .lss T.a 27 26 25] (vQ 27 2
 (.seq (.cy 3 (cS [aT 28 26,aT 7 28] (.dy [eE 29 3,eE 30 4,aT 31 7,cQ 32 (.h3 [dN,dN] [(0,1),(1,1)] [(0,(aO 30)),(1,(aO 31))]),dr 33 (.kk T.c 1 2 [dN,dN] [(0,(aO 32))]),dr 34 (.app T.g T.c 2 16 (aO 29) (aO 33)),ys 3 34]))) (vP T.a 35 26))))))))))))) (cS [eE 36 3,aT 2 36] .ret)))))⟩
theorem Ej.d:Ab Tryz.prog F.d=some D.d:=Ci
def D.bL:zO:=⟨78,[.cell 6], (.je (.dy [dr 3 (.box T.f (aO 0)),dr 4 (.box T.a (aO 1)),dr 6 (.new T.j (.bool false))]) (.je (cS [ig 14 5 3,ow 15 F.tr [14],cQ 16 (.ln 0 (aO 15)),ki .neq T.a5 17 16 0] (kh 17 (cS [hy (.st (aO 6) (ky false))] .ret) .skip)) (.je (.rf (xX (ig 18 5 3) (xX (ig 20 5 3) (.alt (ow 19 F.c [18]) (.ff (ow 21 F.d [20]) (.alt (dr 8 (.new T.g iK)) (xX (aT 7 19) (.ff (ys 8 21) .done .nil)) .nil) (.alt (dr 8 (.new T.g iK)) (.ff (ow 21 F.d [20]) (xX (aT 7 19) (.ff (ys 8 21) .done .nil)) .nil) .nil)) (.alt (dr 8 (.new T.g iK)) (.alt (ow 19 F.c [18]) (.ff (ow 21 F.d [20]) (xX (aT 7 19) (.ff (ys 8 21) .done .nil)) .nil) .nil) .nil))))) (.je (.seq (.sx [eE 22 4,ki .lss T.a 23 22 0,aT 24 23,l1 24 (eE 25 4),l1 24 (aT 26 7),l1 24 (l2 27 26),l1 24 (iL .geq T.a 28 25 27),pe 29 24 28,aT 30 29,l1 30 (aT 31 2),l1 30 (ki .lss T.a 32 31 0),pe 33 30 32,aT 34 33,l1 34 (aT 35 2),l1 34 (fq 36 3 3),l1 34 (eE 37 36),l1 34 (aT 38 7),l1 34 (eE 39 4),l1 34 (ij 40 2 38 39),l1 34 (fq 41 0 40),l1 34 (eE 42 41),l1 34 (ij 43 5 37 42),l1 34 (fq 44 2 43),l1 34 (eE 45 44),l1 34 (iL .geq T.a 46 35 45),pe 47 34 46]) (kh 47 (cS [hy (.st (aO 6) (ky false))] .ret) .skip)) (.je (.dy [ig 48 5 3,ow 49 F.pq [48],dr 9 (.new T.sq iK),ys 9 49]) (.uv (.je (.dy [ig 50 5 3,eE 51 4,aT 52 2,ow 53 F.yj [50,51,52]]) (.cy 0 (.ur (aO 53) 54 (.dy [aT 10 54]) (.cy 1 (cS [cQ 55 (.xz F.r [] [(aO 4)]),aT 11 55] (cS [eE 56 8,l2 57 56,fI 58 (cC 0)] (.cy 2 (.loop (cS [iL .lss T.a 59 58 57] (vQ 59 2
 (.seq (.cy 3 (cS [aT 60 58,ij 61 2 56 58,ig 62 2 61,dr 13 (.new T.c (.agg #[dN,dN])),aT 12 60,qy 2 13 62] (.seq (.sx [aT 63 11,ig 64 2 13,ih 65 (.val (aO 63) [(aO 64)]),aT 66 65,sd 66 (eE 67 9),sd 66 (aT 68 10),sd 66 (ij 69 2 67 68),sd 66 (ig 70 2 69),sd 66 (eE 71 9),sd 66 (aT 72 12),sd 66 (ij 73 2 71 72),sd 66 (ig 74 2 73),sd 66 (ow 75 F.yk [70,74]),xY 76 66 75]) (kh 76 (cS [hy (.st (aO 6) (ky false))] .ret) .skip)))) (vP T.a 77 58)))))))))))) (cS [hy (.st (aO 6) (ky true))] .ret)))))))⟩
theorem Ej.bL:Ab Tryz.prog F.bL=some D.bL:=Ci
def D.CI:zO:=⟨13,[.tmp 4], (.je (.dy [dr 2 (.box T.p (aO 0)),fI 4 (.const iK)]) (.uv (.je (.dy [aT 6 1]) (.cy 0 (.ur (aO 6) 7 (.dy [dr 5 (.new T.d (.agg #[dN,dN])),qy 2 5 7]) (.cy 1 (.dy [eE 8 2,ig 9 2 5,dr 10 (.kk T.d 1 2 [dN,dN] [(0,(aO 9))]),dr 11 (.app T.p T.d 2 16 (aO 8) (aO 10)),ys 2 11]))))) (cS [eE 12 2,aT 4 12] .ret)))⟩
def Ej.CI:Ab Tryz.prog F.CI=some D.CI:=Ci
end Go.Proofs.R
namespace o
open Go Go.RowKit a8
def Yq(x:cO):sw aeO x.enc:=⟨⟨_,rfl⟩,⟨_,rfl⟩,trivial⟩
def aom(x y:cO)(h:x.enc=y.enc):x=y:=by cases x;cases y;simpa[cO.enc] using h
abbrev yh(m:Model):={x:cO // x.of m}
end o
namespace a8
open Go Go.RowKit
def Ext.Zy{w w':A_}(h:Ext w w'):w.grownBy w' none:=⟨h.os,h.tape,h.output,h.size,λk hk _=>h.heap hk⟩
end a8
namespace Go.Proofs.R
open Go Go.RowKit a8
def aiW(cs:C_ B_)(m:o.Model)(p:o.dt)(bY dV:B_)(w:A_)(h:o.dj w cs m) :
  Du F.I8 #[.agg cs.toArray,.agg (p.enc bY dV).toArray] w λv w'=>v = .I (o.elems m p)/\Ext w w':=by
 obtain⟨b0,bz,bO,c1,bT,c2,bV,bu,b1,bB,rfl,ad,h1,I,ab,aC,eu,dz,dJ,dR,ee⟩:=h.form;refine bl E.I8 ?_;refine aa ?_;intro w1 bx cN ag al;refine aa ?_;intro aA bQ c7 ai ao;have df:∀{w'},Ext aA w'->Ext w w':=λe=>(ag.trans ai).trans e;refine aa ?_;rw[o.elems];apply I_<;>intro g1
 .refine aa ?_;rw[o.hs (.inl Ad)];exact⟨aK,df (Ext.refl _)⟩
 refine aa ?_;apply I_<;>intro g2
 .refine aa ?_;rw[o.hs (.inr Ad)];exact⟨aK,df (Ext.refl _)⟩
 have U:(p.over - 1).toNat<m.scalars.length:=Ad
 obtain⟨a,rfl⟩:=ad.addr;rw[o.jd Ad Ad];refine aa ?_;refine K_ (p.over - 1).toNat Ad U ?_;refine aa ?_;apply I_<;>intro g3
 .refine aa ?_;refine⟨?_,df (Ext.refl _)⟩;rw[if_pos Ad];rfl
 refine aa ?_;apply I_<;>intro g4
 .refine aa ?_;refine⟨?_,df (Ext.refl _)⟩;rw[if_pos Ad];rfl
 refine aa ?_;refine⟨?_,df (Ext.refl _)⟩;rw[if_neg Ad];congr 1;omega
def ar8(cs:C_ B_)(m:o.Model)(p:o.dt)(bY dV:B_)(w:A_)(h:o.dj w cs m) :
  Du F.LH #[.agg cs.toArray,.agg (p.enc bY dV).toArray] w λv w'=>v = .I (o.elems m p)/\Ext w w':=by
 obtain⟨b0,bz,bO,c1,bT,c2,bV,bu,b1,bB,rfl,ad,h1,I,ab,aC,eu,dz,dJ,dR,ee⟩:=h.form;refine bl E.LH ?_;refine aa ?_;intro w1 bx cN ag al;refine aa ?_;intro aA bQ c7 ai ao;have df:∀{w'},Ext aA w'->Ext w w':=λe=>(ag.trans ai).trans e;refine aa ?_;rw[o.elems];apply I_<;>intro g1
 .refine aa ?_;rw[o.hs (.inl Ad)];exact⟨aK,df (Ext.refl _)⟩
 refine aa ?_;apply I_<;>intro g2
 .refine aa ?_;rw[o.hs (.inr Ad)];exact⟨aK,df (Ext.refl _)⟩
 have U:(p.over - 1).toNat<m.scalars.length:=Ad
 obtain⟨a,rfl⟩:=ad.addr;rw[o.jd Ad Ad];refine aa ?_;refine K_ (p.over - 1).toNat Ad U ?_;refine aa ?_;apply I_<;>intro g3
 .refine aa ?_;refine⟨?_,df (Ext.refl _)⟩;rw[if_pos Ad];rfl
 refine aa ?_;apply I_<;>intro g4
 .refine aa ?_;refine⟨?_,df (Ext.refl _)⟩;rw[if_pos Ad];rfl
 refine aa ?_;refine⟨?_,df (Ext.refl _)⟩;rw[if_neg Ad];congr 1;omega
def abU(x:o.cO):B_:=.agg x.enc.toArray
def ab2{pM w0:A_}{b:Nat}{cs:C_ B_}{m:o.Model}(an:w0.heap[b]? = some (.cells cs.toArray T.f))(h:o.dj pM cs m)(q0:Ext pM w0) :
  SeqStopsK Fence.wide 0 Tryz.prog F.t #[.pointer (some ⟨b,0,none⟩)] (λx:o.yh m=>#[abU x.1]) (nh pM.heap.size [T.k,T.f]) (λxs=>xs.map Subtype.val=o.insts m) (λ_=>True) (o.insts m).length w0:=by
 intro l jj Oc W ak rL akW bE Kp;have C2:Ext pM W:=q0.trans ak;have aaj:=Ext.obj (w:=w0) ak an;obtain⟨b0,bz,bO,c1,bT,c2,bV,bu,b1,bB,rfl,ad,h1,I,ab,aC,eu,dz,dJ,dR,ee⟩:=h.form;refine callsIn_wide.2 (Calls.mono (show Du F.t #[.func (.yield l) #[] #[],.pointer (some ⟨b,0,none⟩)] W (λ_ b3=>(∃xs,xs.map Subtype.val=o.insts m/\jj xs b3)\/(∃pre:C_ (o.yh m),True/\Oc pre b3)) from ?_) λe b3 ⟨v,bF,aH⟩=>⟨⟨v,bF⟩,aH⟩);have CQ:∀{pre:C_ (o.yh m)} {w w':A_},jj pre w->Ext w w'->jj pre w':=λ{pre w w'} az e=>rL pre w w' none az e.Zy (λr e=>by cases e);refine bl E.t ?_;refine aa ?_;refine L_ 9 m.procs.length [0,1,7,8] (λ_=>[]) ([]:C_ (o.yh m)) (λk pre w'=>(Ext pM w'/\w'.heap[b]? = some (.cells #[.slice b0 m.scalars.length bz,.slice bO m.vars.length c1,.slice bT m.ax.length c2,.slice bV m.procs.length bu,.slice b1 m.props.length bB] T.f)/\jj pre w')/\pre.map Subtype.val++o.j9 m (m.procs.drop k) k=o.insts m) a6 a6 ⟨⟨C2,aaj,Kp⟩,by simp[o.insts]⟩ ?_;clear aaj an;rintro k pre S w1 hk ⟨⟨ag,aak,aaU⟩,sN⟩;refine aa ?_;apply I_<;>intro g1
 .have a7:k<m.procs.length:=Ad
  obtain⟨a,rfl⟩:=ab.addr;obtain⟨aj,bY,dV,c3,eQ,er⟩:=ab.at k a7;obtain⟨_,_,rfl,_⟩:=eQ.form;obtain⟨_,_,rfl,_⟩:=er.form;rw[o.abW a7] at sN;have rN:=cq aak;refine dS ?_;simp -dsimp only[cH];refine dS ?_;simp -dsimp only[cH];refine dS ?_;intro D8 bQ c7 n1 p8;refine dS ?_;intro aA aoa ao;have ai:=aoa.ext n1 c7;have aal:=ai.obj aak;have ju:=CQ aaU ai;have en:∀(q:C_ (o.yh m)) (r:C_ o.cO),q.map Subtype.val++r=o.insts m->r≠[]->q.length<(o.insts m).length:=λq r e aS=>by
   rw[<-e,MD,AK0]
   have:=List.length_pos_iff.2 aS
   omega
  have tK:=o.E7 m m.procs[k];refine dS ?_;refine R_ [0,1,3,4,7,8,9] (λ_=>[]) (λ(Hb:C_ (o.yh m)) w'=>(Ext pM w'/\w'.heap[bQ]? = aA.heap[bQ]? /\ w'.heap[b]? = aA.heap[b]? /\ jj Hb w')/\Hb.map Subtype.val=pre.map Subtype.val++o.jA k m.procs[k]) ?_ ?_
  .refine aa ?_;apply I_<;>intro g2
   .have bF:o.jA k m.procs[k]=[⟨(k:Int),0⟩]:=by unfold o.jA;rw[if_pos g2]
    rw[bF] at sN;refine aa ?_;refine _2 (bE pre ⟨⟨(k:Int),0⟩,CC,by simpa using a7,CC⟩ aA ju (en pre _ (by simpa[List.append_assoc] using sN) CC)) ?_;rintro e aM (⟨rfl,sI,oa⟩ | ⟨rfl,sI⟩)
    .refine⟨.bool true,rfl,?_⟩;refine aa ?_;exact⟨_,trivial,⟨Below.trans (Ext.trans ag ai) oa.1,oa.2 bQ _ _ _ ao CC,oa.2 b _ _ _ aal CC,sI⟩,by simp[bF]⟩
    .refine⟨.bool false,rfl,?_⟩;refine aa ?_;exact .inr ⟨_,trivial,sI⟩
   .have bF:o.jA k m.procs[k]=[]:=by unfold o.jA;rw[if_neg g2]
    refine aa ?_;exact⟨pre,trivial,⟨ag.trans ai,aK,aK,ju⟩,by simp[bF]⟩
  rintro Tj S aM ⟨⟨ah,ba,aam,sI⟩,y3⟩;rw[ao] at ba;rw[aal] at aam;refine aa ?_;refine J_ (aiW _ m m.procs[k] _ _ aM (h.ext ah)) ?_;rintro _ aU ⟨rfl,aq⟩;have amQ:=CQ sI aq;have aan:=aq.obj aam;have qT:=ah.trans aq;have abq:Tj.map Subtype.val++o.kb k (o.elems m m.procs[k])++o.j9 m (m.procs.drop (k+1)) (k+1)=o.insts m:=by rw[y3,<-sN];simp
  refine aa ?_;refine L_ 27 (o.elems m m.procs[k]) [0,1,3,7,8,9,26] (λ_=>[]) Tj (λj Hb w'=>(Ext pM w'/\w'.heap[b]? = aU.heap[b]? /\ jj Hb w')/\Hb.map Subtype.val=Tj.map Subtype.val++o.kb k j) a6 a6 ⟨⟨qT,rfl,amQ⟩,by simp[o.kb]⟩ ?_;rintro j Tk S bh az ⟨⟨av,J9,Gb⟩,xa⟩;rw[aan] at J9;refine aa ?_;apply I_<;>intro g3
  .have eP:j<o.elems m m.procs[k]:=Ad
   have cu:Tk.length<(o.insts m).length:=by
    have bF:=congrArg List.length abq;have aH:=congrArg List.length xa;simp only[List.length_append,List.length_map,o.kb,List.length_range] at bF aH;omega
   refine aa ?_;refine _2 (bE Tk ⟨⟨(k:Int),(j:Int)+1⟩,CC,by simpa using a7,by constructor<;>simp<;>omega⟩ bh Gb cu) ?_;rintro e bq (⟨rfl,De,Gd⟩ | ⟨rfl,De⟩)
   .refine⟨.bool true,rfl,?_⟩;refine aa ?_;exact⟨eP,aK,_,trivial,⟨Below.trans av Gd.1,by rw[Gd.2 b _ _ _ J9 CC,J9,aan],De⟩,by simp[xa,o.ado]⟩
   .refine⟨.bool false,rfl,?_⟩;refine aa ?_;exact .inr ⟨_,trivial,De⟩
  .have nw:j=o.elems m m.procs[k]:=Ad
   subst nw;refine aa ?_;exact⟨a7,aK,Tk,trivial,⟨av,J9,Gb⟩,by rw[xa];exact abq⟩
 .refine aa ?_;rw[AE9 Ad] at sN;exact .inl ⟨pre,by simpa[o.j9] using sN,aaU⟩
end Go.Proofs.R
namespace o
open Go
def cO.key(x:cO):Int:=5*x.proc+x.elem
def chain:cO->C_ cO->Prop
 | _,[]=>True
 | a,x :: r=>x≠a/\chain x r
theorem Yf:∀(l:C_ cO) (a:cO),(a :: l).Pairwise (λx y=>x.key<y.key)->chain a l
 | [],_,_=>trivial
 | x :: r,a,h=>by
  obtain⟨h1,I⟩:=List.pairwise_cons.1 h;refine⟨λe=>?_,Yf r x I⟩
  have:=h1 x CC
  rw[e] at this;exact absurd this (Int.lt_irrefl _)
theorem ab1{m:Model}:∀(l:C_ dt) (i:Nat),(j9 m l i).Pairwise (λx y=>x.key<y.key)/\∀x∈j9 m l i,5*(i:Int)<=x.key
 | [],_=>⟨List.Pairwise.nil,λx af=>by simp[j9] at af⟩
 | p :: r,i=>by
  obtain⟨h1,I⟩:=ab1 r (i+1);have aQ:∀x∈jA i p,x=⟨(i:Int),0⟩:=λx af=>by
   unfold jA at af;split at af
   .simpa using af
   .cases af
  have aF:∀x∈kb i (elems m p),∃k:Nat,k<4/\x=⟨(i:Int),(k:Int)+1⟩:=λx af=>by
   unfold kb at af;obtain⟨k,hk,rfl⟩:=List.mem_map.1 af
   have:=List.mem_range.1 hk
   have:=E7 m p
   exact⟨k,Ad,rfl⟩
  have qk:(kb i (elems m p)).Pairwise (λx y=>x.key<y.key):=by
   unfold kb;rw[List.pairwise_map];exact List.Pairwise.imp (λ{a b} FG=>by simp only[cO.key];omega) List.pairwise_lt_range
  have aq3:(jA i p).Pairwise (λx y=>x.key<y.key):=by
   unfold jA;split
   .exact List.pairwise_singleton _ _
   .exact List.Pairwise.nil
  simp only[j9];refine⟨List.pairwise_append.2 ⟨List.pairwise_append.2 ⟨aq3,qk,λa aY b ak=>?_⟩,h1,λa aY b ak=>?_⟩,λx af=>?_⟩
  .obtain rfl:=aQ a aY;obtain⟨k,_,rfl⟩:=aF b ak;simp only[cO.key];omega
  .have c7:=I b ak;rcases List.mem_append.1 aY with aY | aY
   .obtain rfl:=aQ a aY;simp only[cO.key];simp at c7;unfold cO.key at c7;omega
   .obtain⟨k,hk,rfl⟩:=aF a aY;unfold cO.key at c7 ⊢;simp at c7 ⊢;omega
  .rcases List.mem_append.1 af with af | af
   .rcases List.mem_append.1 af with af | af
    .obtain rfl:=aQ x af;simp[cO.key]
    .obtain⟨k,hk,rfl⟩:=aF x af;unfold cO.key;simp;omega
   .have:=I x af
    simp at this;omega
def aop(m:Model):chain ⟨-1,0⟩ (insts m):=by
 obtain⟨h1,I⟩:=ab1 (m:=m) m.procs 0;refine Yf _ _ (List.pairwise_cons.2 ⟨λx af=>?_,h1⟩)
 have:=I x af
 unfold cO.key at this ⊢;simp at this ⊢;omega
theorem Zs(m:Model):∀(l:C_ cO) (i:Nat) (a:cO) (out:C_ Ref),chain a l->(l.foldl (mW m) ((i:Int) - 1,a,out)).2.2=out++qn m l i
 | [],_,_,_,_=>by simp[qn]
 | x :: r,i,a,out,h=>by
  simp only[List.foldl_cons];have e:mW m ((i:Int) - 1,a,out) x=(((i+1:Nat):Int) - 1,x,out++refsOf i (sX m x)):=by
   unfold mW;simp only;rw[if_pos h.1];congr 1
   .omega
   .congr 2;congr 1;omega
  rw[e,Zs m r (i+1) x _ h.2];simp[qn]
def asm(m:Model):((insts m).foldl (mW m) (-1,⟨-1,0⟩,[])).2.2=refs m:=by
 have:=Zs m (insts m) 0 ⟨-1,0⟩ [] (aop m)
 simpa[refs] using this
structure uF(m:Model):Prop where
 procs:m.procs.length<=30
 c0:∀p∈m.procs,p.c0.length<=30
def S1{m:Model}(h:uF m)(x:cO):sX m x<=30:=by
 unfold sX;split
 .rename_i p ar;refine h.c0 p ?_;unfold nth at ar;by_cases ad:0<=x.proc
  .rw[if_pos ad] at ar;exact List.mem_of_getElem? ar
  .rw[if_neg ad] at ar;cases ar
 .omega
theorem Zr{m:Model}(h:uF m):∀(l:C_ cO) (s:Int×cO×C_ Ref),s.1<=(l.foldl (mW m) s).1/\(l.foldl (mW m) s).1<=s.1+l.length/\(l.foldl (mW m) s).2.2.length<=s.2.2.length+30*l.length
 | [],s=>CC
 | x :: r,s=>by
  obtain⟨h1,I,ab⟩:=Zr h r (mW m s x);simp only[List.foldl_cons,List.length_cons];have aw:=S1 h x;have bF:s.1<=(mW m s x).1/\(mW m s x).1<=s.1+1:=by unfold mW;simp only;split<;>omega
  have aH:(mW m s x).2.2.length<=s.2.2.length+30:=by unfold mW refsOf;simp only[List.length_append,List.length_map,List.length_range];omega
  omega
theorem ad6{m:Model}(h:uF m):∀(l:C_ cO) (i:Nat),(qn m l i).length<=30*l.length
 | [],_=>by simp[qn]
 | x :: r,i=>by
  have:=ad6 h r (i+1)
  have:=S1 h x
  simp only[qn,List.length_append,refsOf,List.length_map,List.length_range,List.length_cons];omega
def qo{m:Model}(h:uF m):(refs m).length<=4500:=by
 have:=ad6 h (insts m) 0
 have:=vo m
 have:=h.procs
 unfold refs;omega
structure WY(m:Model)(r:Ref)(i p k:Nat):Prop where
 U:i<(insts m).length
 mX:r.inst=i
 ip:(insts m)[i].proc=p
 ar:p<m.procs.length
 pI:r.cmd=k
 hk:k<m.procs[p].c0.length
theorem ad7{m:Model}:∀(l:C_ cO) (i0:Nat) (r:Ref),r∈qn m l i0->∃j,∃az:j<l.length,r.inst=((i0+j:Nat):Int)/\∃k:Nat,k<sX m l[j]/\r.cmd=k
 | [],_,_,h=>by simp[qn] at h
 | x :: l,i0,r,h=>by
  simp only[qn,List.mem_append] at h;rcases h with h | h
  .unfold refsOf at h;obtain⟨k,hk,rfl⟩:=List.mem_map.1 h;exact⟨0,CC,CC,k,by simpa using hk,rfl⟩
  .obtain⟨j,az,h1,k,I,ab⟩:=ad7 l (i0+1) r h;exact⟨j+1,by simpa using az,by rw[h1];congr 1;omega,k,by simpa using I,ab⟩
def asl{m:Model}{r:Ref}(h:r∈refs m):∃i p k,WY m r i p k:=by
 obtain⟨j,az,h1,k,I,ab⟩:=ad7 _ _ _ h;have af:=q5 (insts m)[j] (ED _);obtain⟨p,ar⟩:=Nb af.aV;have sM:p<m.procs.length:=by have:=af.U;omega
 refine⟨j,p,k,az,by rw[h1];simp,ar,sM,ab,?_⟩;unfold sX at I;rw[ar,jd Ad Ad] at I;simpa using I
end o
namespace a8
open Go Go.RowKit
def XL(cF t:F_)(sz b:Nat)(z:Array B_):zO:=⟨13,[.tmp 4],
 (.je (.dy [dr 2 (.box cF (aO 0)),fI 4 (.const (.slice none 0 0))])
 (.uv (.je (.dy [aT 6 1])
 (.cy 0 (.ur (aO 6) 7 (.dy [dr 5 (.new t (.agg z)),hy (.lZ sz (aO 5) (aO 7))]) (.cy 1 (.dy [eE 8 2,pO 9 (.k5 sz (aO 5)),dr 10 (.kk t 1 sz z.toList [(0,(aO 9))]),dr 11 (.app cF t sz b (aO 8) (aO 10)),ys 2 11])))))
 (.seq (.dy [eE 12 2,aT 4 12])
 .ret)))⟩
theorem acE:∀(vs pre post:C_ B_),vs.length<=post.length->(vs.zipIdx pre.length).foldl (λcs (x:B_×Nat)=>cs.set (0+x.2) x.1) (pre++post)=pre++vs++post.drop vs.length
 | [],pre,post,_=>CC
 | v :: vs,pre,[],h=>by simp at h
 | v :: vs,pre,p :: post,h=>by
  have fm:=acE vs (pre++[v]) post (by simpa using h);simp only[List.length_append,List.length_cons,List.length_nil] at fm;simp only[List.zipIdx_cons,List.foldl_cons,List.length_cons,List.drop_succ_cons];rw[show(pre++p :: post).set (0+pre.length) v=(pre++[v])++post from CC,fm];simp
def ajX{S:Fr}{sz:Nat}{z cs:C_ B_}{t:Nat}(aB:S t = .agg cs.toArray)(an:cs.length=sz)(bA:z.length=sz)(ad:0<sz):gC S ((List.range 1).map λi=>(i*sz,sz)) [(0,.tmp t)] z=some cs:=by
 have e:lay z 0 (.agg cs.toArray)=cs:=by
  have:=acE cs [] z Ad
  simp only[List.nil_append,List.length_nil] at this;unfold lay;simp only[Value.cells];rw[this,AE9 Ad,SN]
 have bF:(bp S (.tmp t)).cells.size=sz:=by
  show(S t).cells.size=sz;rw[aB];simp[Value.cells,an]
 have aH:((List.range 1).map λi=>(i*sz,sz))[0]? = some (0,sz):=CC
 unfold gC;simp only[aH];rw[if_pos ⟨bF,Ad⟩];unfold gC;show some (lay z 0 (S t))=_;rw[aB,e]
section
variable{α:Type}{P:Program}{f:FuncId}{t cF:TypeId}{sz b:Nat}{enc:α->List Value}{z:Array Value}
def agM(hm:P.follows .mixedOrders=true)(de:Ab P f=some (XL cF t sz b z))(bA:z.size=sz)(hlen:∀x,(enc x).length=sz)(w8:∀x,∀u∈enc x,u.oneCell'=true)(dq:0<sz)
  {jr:Nat}{hr:Array B_}{hU:Nat}{ov:C_ F_}{oF qE:C_ α->Prop}{N:Nat}{w0 w:A_}(c8:okF P jr=true)
  (tT:SeqStopsK Fence.wide 0 P jr hr (λx=>#[.agg (enc x).toArray]) (nh hU ov) oF qE N w0)(he:Ext w0 w)(AT:hU<=w.heap.size)(aB:t∉ov)(Gz:cF∉ov)(ct:cF≠t)(fj:N*b<=140737488355328)(CU:N<=maxLen) :
  aX P f #[.slice none 0 0,.func (.func jr) #[] hr] w λv w'=>(∃xs,oF xs/\aJ enc t sz w.heap.size w' v xs)/\Ext w w':=by
 refine gH.start hm de (args:=[_,_]) (Nat.le_of_ble_eq_true rfl) ?_;dsimp only[XL,aO,cC,ky,cQ,pO,dr,ih,hy,eb,aT,fI,fq,eE,ij,ys,l2];refine gH.je ?_;refine aa ?_;intro w1 bx cN ag al;refine aa ?_;refine gH.uv (gH.je ?_);simp -dsimp only[dg,cH,Nat.reduceAdd,Nat.reduceEqDiff,reduceIte,reduceCtorEq,dm];refine gH.cy (gH.ur (w0:=w0) (enc:=λx=>.agg (enc x).toArray) (by simp[dc,bD]) c8 tT (he.trans ag) (nh.ok ov (Nn AT ag.size))
  (λpre W=>Mod (λk=>k=bx) w1 W/\∃(aN:H_ Addr) (n c:Nat),W.heap[bx]? = some (.cells #[.slice aN n c] cF)/\aJ enc t sz w1.heap.size W (.slice aN n c) pre) ?_ ⟨Mod.refl _ _,none,0,0,al,aJ.nil _ _ _ _ _⟩ ?_ ?_)
 .rintro pre W b3 row ⟨hm,aN,n,c,ak,aQ⟩ aG aS;refine⟨hm.high aG λr e=>(aS r e).1,aN,n,c,?_,aQ.mod (Mod.grown (A:=λk=>row=some k) aG λk e=>e) λk hk a=>?_⟩
  .rw[aG.block bx (cq ak) λe=>?_]
   .exact ak
   .obtain⟨ae,h1,I⟩:=(aS bx e.symm).2;rw[ak] at h1;injection h1 with h1;subst h1;cases I
  .obtain⟨cur,ab⟩:=aQ.cy k hk;obtain⟨ae,h1,I⟩:=(aS k a).2;rw[ab] at h1;injection h1 with h1;subst h1;cases I
 .rintro pre x W ⟨hm,aN,n,c,pz,aQ⟩ cu;have aa3:=cq al;have awA:=hm.size
  try (simp -dsimp only[dg,cH,Nat.reduceAdd,Nat.reduceEqDiff,reduceIte,reduceCtorEq,dm])
  refine O_ λiP dF jt av bI=>?_
  try (simp -dsimp only[dg,cH,Nat.reduceAdd,Nat.reduceEqDiff,reduceIte,reduceCtorEq,dm])
  refine U_ bI bA (by simpa using hlen x) (by simpa using w8 x) λe4 hw ao=>?_
  try (simp -dsimp only[dg,cH,Nat.reduceAdd,Nat.reduceEqDiff,reduceIte,reduceCtorEq,dm])
  have aH:=hw.ext av jt;refine⟨aH.keeps _,aH.iy Ad,λoH xd=>?_⟩;obtain⟨l,aE,nx,jv⟩:=xd.mod;have ba:=xd.cells ao;have eX:=xd.cells (aH.obj pz);have eT:aJ enc t sz w1.heap.size oH (.slice aN n c) pre:=(aQ.ext aH).mod jv λk hk a=>by
   subst a;obtain⟨cur,ab⟩:=(aQ.ext aH).cy k hk;exact nx _ _ _ ab
  try (simp -dsimp only[dg,cH,Nat.reduceAdd,Nat.reduceEqDiff,reduceIte,reduceCtorEq,dm])
  refine _E eX (Ext.refl _) rfl ?_
  try (simp -dsimp only[dg,cH,Nat.reduceAdd,Nat.reduceEqDiff,reduceIte,reduceCtorEq,dm])
  refine Z_ (im ba) (hlen x) ?_
  try (simp -dsimp only[dg,cH,Nat.reduceAdd,Nat.reduceEqDiff,reduceIte,reduceCtorEq,dm])
  refine _D (ajX (cs:=enc x) (by simp[bD]) (hlen x) (by simpa using bA) dq) λB9 rD wT aq bo=>?_
  try (simp -dsimp only[dg,cH,Nat.reduceAdd,Nat.reduceEqDiff,reduceIte,reduceCtorEq,dm])
  have am0:pre.length+1<=N:=cu;refine _T (ys:=[x]) (eT.ext aq) hlen (by simpa using im bo) rfl w8 (Nn (AI8 b am0) fj) (by simp only[List.length_cons,List.length_nil];omega) (by have:=jv.size;have:=aq.size;have:=aH.size;omega) λbU qG dM mP jJ=>?_;obtain⟨iI,qI,rfl,_⟩:=dM.form;have fT:=aq.obj eX;have CZ:qG.heap[bx]? = some (.cells #[.slice aN n c] cF):=by
   rw[mP.block bx (cq fT) λe=>?_]
   .exact fT
   .obtain⟨cur,ab⟩:=(eT.ext aq).cy bx e.symm;rw[fT] at ab;injection ab with ab;injection ab with _ ab;exact ct ab
  try (simp -dsimp only[dg,cH,Nat.reduceAdd,Nat.reduceEqDiff,reduceIte,reduceCtorEq,dm])
  refine _V CZ CC rfl λlG gE bS=>?_
  try (simp -dsimp only[dg,cH,Nat.reduceAdd,Nat.reduceEqDiff,reduceIte,reduceCtorEq,dm])
  have gx:∀k,(Value.slice aN n c).ownBlock=some k->w1.heap.size<=k:=λk hk=>(eT.lt k hk).1;have apr:Mod (λk=>(Value.slice aN n c).ownBlock=some k\/k=bx) B9 lG:=(Mod.grown (A:=λk=>(Value.slice aN n c).ownBlock=some k) mP λk e=>e).comp (A':=λk=>k=bx) (gE.mod rfl) (λ_ _ a=>.inl a) (λ_ _ a=>.inr a);have SU:Mod (λk=>(Value.slice aN n c).ownBlock=some k\/k=bx) oH lG:=aq.mod.comp apr (A:=λ_=>False) (λ_ _ h=>h.elim) (λ_ _ h=>h);refine⟨SU.keeps λk hk a=>?_,SU.iy (by have:=jv.size;have:=aH.size;omega) (λk hk a=>?_) (λk iQ hW uY a hk y7=>?_),?_,iI,_,qI,bS,?_⟩
  .rcases a with a | a
   .obtain⟨cur,ab⟩:=eT.cy k a;exact⟨_,_,_,ab⟩
   .subst a;exact⟨_,_,_,eX⟩
  .rcases a with a | a
   .have:=gx k a;have:=ag.size;omega
   .omega
  .rcases a with a | a
   .obtain⟨cur,ab⟩:=eT.cy k a;rw[ab] at hk;injection hk with hk;injection hk with _ hk;subst hk;exact aB y7
   .subst a;rw[eX] at hk;injection hk with hk;injection hk with _ hk;subst hk;exact Gz y7
  .refine(hm.comp (B:=λk=>k=bx) (A':=λk=>(Value.slice aN n c).ownBlock=some k\/k=bx\/k=l) ?_ (λ_ _ a=>a) λk hk a=>?_)
   .exact(aH.mod (A:=λ_=>False)).comp (jv.comp SU (λ_ _ a=>(Or.inr (Or.inr a):_\/_\/_)) (λ_ _ a=>by rcases a with a | a;exact .inl a;exact .inr (.inl a))) (λ_ _ h=>h.elim) (λ_ _ h=>h)
   .rcases a with a | a | a
    .have:=gx k a;omega
    .exact a
    .omega
  .refine dM.mod (gE.mod (A:=λk=>k=bx) rfl) λk hk a=>?_;subst a;obtain⟨cur,ab⟩:=dM.cy k hk;rw[CZ] at ab;injection ab with ab;injection ab with _ ab;exact ct ab
 .rintro D xs W gq b5 ⟨hm,aN,n,c,pz,aQ⟩ bb;simp -dsimp only[dg,cH,Nat.reduceAdd,Nat.reduceEqDiff,reduceIte,reduceCtorEq,dm];refine _E pz (Ext.refl _) rfl ?_;simp -dsimp only[dg,cH,Nat.reduceAdd,Nat.reduceEqDiff,reduceIte,reduceCtorEq,dm];refine gH.ret bb ?_;simp -dsimp only[dg,cH,Nat.reduceAdd,Nat.reduceEqDiff,reduceIte,reduceCtorEq,dm];have bF:Ext w W:=hm.ext ag λk hk e=>Ad
  refine⟨⟨xs,b5,(aQ.mod (A:=λk=>k=D) ((du.fH _ _ _).mod rfl) λk hk a=>?_).low ag.size⟩,bF.fH (Nn ag.size gq) _⟩;subst a;obtain⟨cur,ab⟩:=aQ.cy k hk;rw[bb] at ab;injection ab with ab;cases ab
end
end a8
namespace a8
open Go Go.RowKit
theorem aJ.map{α β:Type}{enc:β->C_ B_}{g:α->β}{e:F_}{sz base:Nat}{w:A_}{v:B_}{xs:C_ α}(h:aJ (λx=>enc (g x)) e sz base w v xs):aJ enc e sz base w v (xs.map g):=by
 unfold aJ at *;rw[AK0,List.flatMap_map];exact h
def aJ.e3{α:Type}{enc:α->C_ B_}{e:F_}{sz base:Nat}{w:A_}{v:B_}{xs:C_ α}(dq:∀x,(enc x).length=sz)(h:aJ enc e sz base w v xs):bm sz (Flat enc) w v xs:=aJ.jN dq h
def aJ.new{α:Type}{enc:α->C_ B_}{e:F_}{sz:Nat}{w w':A_}{v:B_}{xs:C_ α}(dq:∀x,(enc x).length=sz)(h:aJ enc e sz w.heap.size w' v xs):eL w (λw=>bm sz (Flat enc) w v xs) w':=λaA m =>
 aJ.jN dq (aJ.mod h m λk hk a=>by have:=(h.lt k hk).1;omega)
end a8
namespace Go.Proofs.R
open Go Go.RowKit a8
abbrev ik(w:A_)(v:B_)(l:C_ o.cO):Prop:=bm 2 (Flat o.cO.enc) w v l
abbrev tf(w:A_)(v:B_)(l:C_ o.Ref):Prop:=bm 2 (Flat o.Ref.enc) w v l
def acd(cs:C_ B_)(m:o.Model)(w:A_)(h:o.dj w cs m) :
  Du F.yi #[.agg cs.toArray] w λv w'=>(∃b,v = .func (.func F.t) #[] #[.pointer (some ⟨b,0,none⟩)]/\w'.heap[b]? = some (.cells cs.toArray T.f))/\Ext w w':=by
 obtain⟨b0,bz,bO,c1,bT,c2,bV,bu,b1,bB,rfl,_⟩:=h.form;refine bl E.yi ?_;refine aa ?_;intro w1 bx cN ag al;refine aa ?_;exact⟨⟨bx,rfl,al⟩,ag⟩
def xl(cs:C_ B_)(m:o.Model)(w:A_)(h:o.dj w cs m)(aG:m.cv) :
  Du F.c #[.agg cs.toArray] w λv w'=>aJ o.cO.enc T.d 2 w.heap.size w' v (o.insts m)/\Ext w w':=by
 obtain⟨b0,bz,bO,c1,bT,c2,bV,bu,b1,bB,rfl,_⟩:=h.form;have ar:=aG.procs;have aE:=o.vo m;unfold o.ep at ar;refine bl E.c ?_;refine aa ?_;intro w1 bx cN ag al;refine aa ?_;refine J_ (acd _ m w1 (h.ext ag)) ?_;rintro _ aA ⟨⟨b,rfl,ao⟩,ai⟩;have df:Ext w aA:=ag.trans ai;refine aa ?_;refine J_ (f:=F.II) (R:=λv w'=>aJ o.cO.enc T.d 2 aA.heap.size w' v (o.insts m)/\Ext aA w') ?_ ?_
 .refine vW E.II ?_;refine oI ?_;refine aa ?_;refine J_ (agM (α:=o.yh m) (enc:=λx=>x.1.enc) lR Ej.CI rfl (λ_=>rfl) (λx u hu=>by simp[o.cO.enc] at hu;rcases hu with rfl | rfl<;>rfl) By Ci
   (ab2 ao h df) (Ext.refl _) df.size By By By Ad (by unfold maxLen;omega)) ?_
  rintro v aM ⟨⟨xs,tW,aQ⟩,ah⟩;refine aa ?_;exact⟨by rw[<-tW];exact aQ.map,ah⟩
 .rintro v aM ⟨aQ,ah⟩;refine aa ?_;exact⟨aQ.low df.size,df.trans ah⟩
structure mF(w1:World)(bW c6 dF:Nat)(s:Int×o.cO×List o.Ref)(W:World):Prop where
 mod:Mod (λk=>k∈[bW,c6,dF]) w1 W
 ex:∃aN n c,W.heap[bW]? = some (.cells #[.slice aN n c] T.g)/\aJ o.Ref.enc T.c 2 w1.heap.size W (.slice aN n c) s.2.2
 aC:W.heap[c6]? = some (.cells #[.int .i64 s.1] T.a)
 a1:W.heap[dF]? = some (.cells s.2.1.enc.toArray T.d)
def mF.move{w1:A_}{bW c6 dF:Nat}{s:Int×o.cO×C_ o.Ref}{W b3:A_}{A:Nat->Prop}(h:mF w1 bW c6 dF s W)(m:Mod A W b3)(dd:∀k c t f,W.heap[k]? = some (.cells c t f)->¬A k)(hQ:∀k,A k->w1.heap.size<=k):mF w1 bW c6 dF s b3:=by
 obtain⟨aN,n,c,e,aQ⟩:=h.ex;refine⟨h.mod.comp m (λ_ _ a=>a) λk hk a=>absurd (hQ k a) Ad,⟨aN,n,c,m.obj (dd _ _ _ _ e) e,aQ.mod m λk hk a=>?_⟩,m.obj (dd _ _ _ _ h.aC) h.aC,m.obj (dd _ _ _ _ h.a1) h.a1⟩;obtain⟨cur,ab⟩:=aQ.cy k hk;exact dd _ _ _ _ ab a
theorem mF.ext{w1:A_}{bW c6 dF:Nat}{s:Int×o.cO×C_ o.Ref}{W b3:A_}(h:mF w1 bW c6 dF s W)(e:Ext W b3):mF w1 bW c6 dF s b3:=h.move (A:=λ_=>False) e.mod (λ_ _ _ _ _ h=>h) λ_ h=>h.elim
def yq{W:A_}{k:Nat}{c iQ:Array B_}{t hW:F_}{f uY:Nat×Nat}(h:W.heap[k]? = some (.cells c t f))(br:W.heap[k]? = some (.cells iQ hW uY)):t=hW:=by
 rw[h] at br;injection br with br;injection br
def mF.lB{w1:A_}{bW c6 dF:Nat}{s:Int×o.cO×C_ o.Ref}{W b3:A_}{n:Int}(h:mF w1 bW c6 dF s W)(hw:du c6 W b3)(an:b3.heap[c6]? = some (.cells #[.I n] T.a))(n34:bW≠c6)(n45:dF≠c6):mF w1 bW c6 dF (n,s.2) b3:=by
 obtain⟨aN,k,c,e,aQ⟩:=h.ex;refine⟨h.mod.comp (A':=λk=>k=c6) (hw.mod rfl) (λ_ _ a=>a) λk hk a=>by simp[a],⟨aN,k,c,hw.obj e n34,aQ.mod (hw.mod (A:=λk=>k=c6) rfl) λk hk a=>?_⟩,an,hw.obj h.a1 n45⟩;subst a;obtain⟨cur,ab⟩:=aQ.cy k hk;exact absurd (yq ab h.aC) By
def mF.iB{w1:A_}{bW c6 dF:Nat}{s:Int×o.cO×C_ o.Ref}{W b3:A_}{x:o.cO}(h:mF w1 bW c6 dF s W)(hw:du dF W b3)(an:b3.heap[dF]? = some (.cells x.enc.toArray T.d))(n35:bW≠dF)(n45:dF≠c6):mF w1 bW c6 dF (s.1,x,s.2.2) b3:=by
 obtain⟨aN,k,c,e,aQ⟩:=h.ex;refine⟨h.mod.comp (A':=λk=>k=dF) (hw.mod rfl) (λ_ _ a=>a) λk hk a=>by simp[a],⟨aN,k,c,hw.obj e n35,aQ.mod (hw.mod (A:=λk=>k=dF) rfl) λk hk a=>?_⟩,hw.obj h.aC (Ne.symm n45),an⟩;subst a;obtain⟨cur,ab⟩:=aQ.cy k hk;exact absurd (yq ab h.a1) By
def mF.app{w1:A_}{bW c6 dF:Nat}{s:Int×o.cO×C_ o.Ref}{W b3 Iq:A_}{aN iI:H_ Addr}{n c iH iQ:Nat}{l:C_ o.Ref}(h:mF w1 bW c6 dF s W)(he:W.heap[bW]? = some (.cells #[.slice aN n c] T.g))
  (aQ:aJ o.Ref.enc T.c 2 w1.heap.size W (.slice aN n c) s.2.2)(mS:aJ o.Ref.enc T.c 2 w1.heap.size b3 (.slice iI iH iQ) l)(aG:W.grownBy b3 (Value.slice aN n c).ownBlock)(hw:du bW b3 Iq)
  (an:Iq.heap[bW]? = some (.cells #[.slice iI iH iQ] T.g))(n34:bW≠c6)(n35:bW≠dF):mF w1 bW c6 dF (s.1,s.2.1,l) Iq/\e7 w1.heap.size [bW,c6,dF] [T.c] W Iq:=by
 have bw:e7 w1.heap.size [bW,c6,dF] [T.c] W b3:=e7.grown aQ aG CC;have lT:∀{k:Nat} {c:Array B_} {t:F_},W.heap[k]? = some (.cells c t)->t≠T.c->b3.heap[k]? = some (.cells c t):=λ{k c t} hk aB=>by
  rw[aG.block k (cq hk) λe=>?_]
  .exact hk
  .obtain⟨cur,ab⟩:=aQ.cy k e.symm;exact aB (yq hk ab)
 have CN:=bw.trans (hw.Cn CC);refine⟨⟨e7.from h.mod CN,⟨iI,iH,iQ,an,mS.mod (hw.mod (A:=λk=>k=bW) rfl) λk hk a=>?_⟩,hw.obj (lT h.aC By) (Ne.symm n34),hw.obj (lT h.a1 By) (Ne.symm n35)⟩,CN⟩;subst a;obtain⟨cur,ab⟩:=mS.cy k hk;exact absurd (yq ab (lT he By)) By
def zt(cs:C_ B_)(m:o.Model)(w:A_)(h:o.dj w cs m)(ch:o.uF m) :
  Du F.d #[.agg cs.toArray] w λv w'=>aJ o.Ref.enc T.c 2 w.heap.size w' v (o.refs m)/\Ext w w':=by
 obtain⟨b0,bz,bO,c1,bT,c2,bV,bu,b1,bB,rfl,ad,h1,I,ab,aC,eu,dz,dJ,dR,ee⟩:=h.form;have kp:=o.vo m;have sM:=ch.procs;refine gH.start lR Ej.d (args:=[_]) (Nat.le_of_ble_eq_true rfl) ?_;dsimp only[D.d,aO,cC,ky,cQ,pO,dr,ih,hy,eb,aT,fI,fq,eE,ij,ys,l2,dN,iK,BK,iL,ki,xY,pe,cS,kh,ig,qy,NP,Eb,ow,vQ,vP,sd,l1,xX,List.map_cons,List.map_nil];refine gH.je ?_;refine aa ?_;intro NG bx cN rR FU;refine aa ?_;refine gH.je ?_;refine aa ?_;intro NH bW eX qW pz;refine aa ?_;refine gH.je ?_;refine aa ?_;intro zB c6 fT n2 e2;refine aa ?_;intro wd dF jt qX aao;have J0:dF≠c6:=by have:=cq e2;omega
 replace e2:=qX.obj e2;refine aa ?_;intro auy KM eB;have al8:=KM.obj aao J0;refine aa ?_;intro wf KN Ka;replace Ka:wf.heap[dF]? = some (.cells (⟨-1,0⟩:o.cO).enc.toArray T.d):=Ka;have HQ:=cq FU;have HR:=cq pz;have ayt:=cq e2;have PD:Ext NG wf:=KN.ext (KM.ext ((qW.trans n2).trans qX) (by have:=qW.size;omega)) (by have:=qW.size;have:=n2.size;omega);have YU:Ext NH auy:=KM.ext (n2.trans qX) Ad;have YV:Ext NH wf:=KN.ext YU (by have:=n2.size;omega);have Z9:=YV.obj pz;have alr:=PD.obj FU;replace eB:=KN.obj eB (Ne.symm J0);have n34:bW≠c6:=Ad
 have n35:bW≠dF:=by have:=n2.size;omega
 have ayn:=qW.size;have ays:=n2.size;clear al8 aao e2 KM KN YU YV pz FU qW n2 qX;refine gH.uv (gH.je ?_);refine aa ?_;refine J_ (acd _ m wf (h.ext (rR.trans PD))) ?_;rintro _ s7 ⟨⟨avf,rfl,QG⟩,F5⟩;have x2:∀{w'},Ext s7 w'->Ext w w':=λe=>((rR.trans PD).trans F5).trans e;have J4:=F5.obj Z9;have Qu:=F5.obj alr;have P3:=F5.obj eB;have P5:=F5.obj Ka;have axa:=cq J4;have axb:=cq P3;have axc:=cq P5;simp -dsimp only[dg,cH,Nat.reduceAdd,Nat.reduceEqDiff,reduceIte,reduceCtorEq,dm];refine gH.cy (gH.ur (w0:=s7) (enc:=λx:o.yh m=>abU x.1) (by simp[dc,bD]) Ci (ab2 QG h (x2 (Ext.refl _))) (Ext.refl _) (nh.ok _ (x2 (Ext.refl _)).size)
  (λpre W=>mF s7 bW c6 dF ((pre.map Subtype.val).foldl (o.mW m) (-1,⟨-1,0⟩,[])) W) ?_ ⟨Mod.refl _ _,⟨none,0,0,J4,aJ.nil _ _ _ _ _⟩,P3,P5⟩ ?_ ?_)
 .rintro pre W b3 row hS aG aS;refine hS.move (A:=λk=>row=some k) (Mod.grown aG λk e=>e) (λk c t f hk a=>?_) λk a=>(aS k a).1;obtain⟨ae,h1,I⟩:=(aS k a).2;rw[hk] at h1;injection h1 with h1;subst h1;cases I
 .rintro pre x W hS cu;have qP:=o.Zr ch (pre.map Subtype.val) (-1,⟨-1,0⟩,[]);simp only[List.length_map,List.length_nil] at qP;have key:((pre++[x]).map Subtype.val).foldl (o.mW m) (-1,⟨-1,0⟩,[])=o.mW m ((pre.map Subtype.val).foldl (o.mW m) (-1,⟨-1,0⟩,[])) x.1:=by
   rw[AF1,List.foldl_append];rfl
  generalize (pre.map Subtype.val).foldl (o.mW m) (-1,⟨-1,0⟩,[])=s at hS qP key;have y1:=o.S1 ch x.1;have A3:=x.2;refine dS ?_;intro iP dC e5 ag bS;refine dS ?_;refine⟨ag.keeps _,ag.iy (Nn (x2 (Ext.refl _)).size hS.mod.size),λe4 xd=>?_⟩;obtain⟨l,aE,nx,fU⟩:=xd.mod;replace bS:=xd.cells bS;have xe:mF s7 bW c6 dF s e4:=(hS.ext ag).move fU (λk c t f hk a=>by subst a;exact nx _ _ _ hk) λk a=>Ad
  have aiU:s7.heap.size<=e4.heap.size:=xe.mod.size;have avI:e4.heap[bx]? = s7.heap[bx]? := xe.mod.block bx (cq Qu) (by simp;omega);have aa9:dC∉[bW,c6,dF]:=by have:=hS.mod.size;simp;omega
  clear hS xd fU nx P3 P5 J4 eB Z9 Ka;generalize jJ:(if x.1≠s.2.1 then s.1+1 else s.1)=at' at key;refine dS ?_;refine R_ [1,3,4,5,6] (λ_=>[]) (λ(_:Unit) b3=>mF s7 bW c6 dF (at',s.2) b3/\e7 s7.heap.size [bW,c6,dF] [T.c] e4 b3) ?_ ?_
  .have avy:=xe.aC;have ZD:=xe.a1;refine aa ?_;refine _9 (sig:=o.aeO) Ci (o.Yq _) (o.Yq _) λr aS=>?_;refine aa ?_;refine N_ (λg1=>?_) (λg1=>?_)
   .have ct:x.1≠s.2.1:=λe=>aS.1 g1 (by rw[e]);rw[if_pos ct] at jJ;subst jJ;refine aa ?_;intro oH fE ba;refine aa ?_;exact⟨(),trivial,xe.lB fE ba n34 J0,fE.Cn CC⟩
   .have heq:x.1=s.2.1:=o.aom _ _ (Classical.byContradiction λaw=>by rw[aS.2 aw] at g1;cases g1);rw[if_neg (by simp[heq])] at jJ;subst jJ;refine aa ?_;exact⟨(),trivial,xe,(Ext.refl e4).Cn⟩
  rintro _ S oH ⟨RY,aap⟩;replace bS:=e7.obj aap bS aa9 By;have Qv:=RY.mod.block bx (cq Qu) (by simp;omega);rw[Qu] at Qv;have ZD:=RY.a1;have YH:∀b∈[bW,c6,dF],w.heap.size<=b:=λb ak=>by
   have:=rR.size
   simp at ak;rcases ak with rfl | rfl | rfl<;>omega
  refine dS ?_;simp -dsimp only[cH];refine dS ?_;intro B9 dQ bo;have abC:=RY.iB dQ bo n35 J0;have amb:=e7.trans aap (dQ.Cn CC);have avJ:=dQ.obj Qv Ad;replace bS:=dQ.obj bS (by simp at aa9;omega);have E3:Ext w B9:=abC.mod.ext (x2 (Ext.refl _)) λk hk a=>by have:=YH k a;omega
  clear Qv ZD;obtain⟨q6,vf⟩:=Nb A3.aV;have oW:q6<m.procs.length:=by have:=A3.U;omega
  obtain⟨a,rfl⟩:=ab.addr;obtain⟨aj,bY,dV,c3,eQ,er⟩:=ab.at q6 oW;obtain⟨_,_,rfl,_⟩:=eQ.form;obtain⟨_,_,rfl,lc⟩:=er.form;have mR:o.sX m x.1=m.procs[q6].c0.length:=by
   unfold o.sX;rw[vf,o.jd Ad Ad];simp
  rw[mR] at y1;refine aa ?_;refine K_ q6 vf oW ?_;refine aa ?_;refine L_ 26 m.procs[q6].c0.length [1,3,4,5,6,25] (λ_=>[]) () (λj _ b3=>mF s7 bW c6 dF (at',x.1,s.2.2++o.refsOf at' j) b3/\e7 s7.heap.size [bW,c6,dF] [T.c] e4 b3) a6 a6 ⟨by simpa[o.refsOf] using abC,amb⟩ ?_;rintro j _ S lG az ⟨Gx,QK⟩;refine aa ?_;apply I_<;>intro g2
  .obtain⟨aN,n,c,aR,aQ⟩:=Gx.ex;have bn:=Gx.aC;have awJ:=Gx.mod.size;refine aa ?_;intro sm ava gZ bc bZ;refine aa ?_;have hlen:(s.2.2++o.refsOf at' j).length+1<=5000:=by
    simp only[List.length_append,o.refsOf,List.length_map,List.length_range];omega
   refine _T (ys:=[(⟨at',(j:Int)⟩:o.Ref)]) (aQ.ext bc) (λ_=>rfl) (by simpa[o.Ref.enc] using im bZ) rfl (by intro y u hu;simp[o.Ref.enc] at hu;rcases hu with rfl | rfl<;>rfl)
    (by simp only[List.length_cons,List.length_nil];omega) (by simp only[List.length_cons,List.length_nil];unfold maxLen;omega) (by have:=bc.size;omega) λbU agk gw tM _=>?_
   obtain⟨iI,qI,rfl,_⟩:=gw.form;have avu:agk.heap[bW]? = some (.cells #[.slice aN n c] T.g):=by
    rw[tM.block bW (cq (bc.obj aR)) λe=>?_]
    .exact bc.obj aR
    .obtain⟨cur,ab⟩:=(aQ.ext bc).cy bW e.symm;exact absurd (yq ab (bc.obj aR)) By
   refine aa ?_;intro au4 gy cE;obtain⟨anX,amc⟩:=(Gx.ext bc).app (bc.obj aR) (aQ.ext bc) gw tM gy cE n34 n35;refine aa ?_;exact⟨Ad,aK,(),trivial,by rw[o.ad8,<-MV];exact anX,e7.trans QK (e7.trans bc.Cn amc)⟩
  .have nw:j=m.procs[q6].c0.length:=Ad
   refine aa ?_;refine⟨e7.keeps QK (λb ak=>?_),e7.iy QK (Nn (x2 (Ext.refl _)).size aiU) (x2 (Ext.refl _)).size (λb ak=>⟨YH b ak,λc t f hk aB=>?_⟩) By,?_⟩
   .simp at ak;rcases ak with rfl | rfl | rfl<;>omega
   .simp at ak;rcases ak with rfl | rfl | rfl
    .obtain⟨_,_,_,e,_⟩:=xe.ex
     have:=yq hk e;subst this;revert aB;decide
    .have:=yq hk xe.aC;subst this;revert aB;decide
    .have:=yq hk xe.a1;subst this;revert aB;decide
   .show mF s7 bW c6 dF _ lG;rw[key]
    have:o.mW m s x.1=(at',x.1,s.2.2++o.refsOf at' j):=by unfold o.mW;rw[jJ,mR,nw]
    rw[this];exact Gx
 .rintro D xs W gq b5 hS bb;obtain⟨aN,n,c,aR,aQ⟩:=hS.ex;have tL:=o.asm m;rw[b5] at aQ;rw[tL] at aQ;simp -dsimp only[dg,cH,Nat.reduceAdd,Nat.reduceEqDiff,reduceIte,reduceCtorEq,dm];refine _E aR (Ext.refl _) rfl ?_;simp -dsimp only[dg,cH,Nat.reduceAdd,Nat.reduceEqDiff,reduceIte,reduceCtorEq,dm];refine gH.ret bb ?_;simp -dsimp only[dg,cH,Nat.reduceAdd,Nat.reduceEqDiff,reduceIte,reduceCtorEq,dm];have wK:w.heap.size<=s7.heap.size:=(x2 (Ext.refl _)).size;have bF:Ext w W:=hS.mod.ext (x2 (Ext.refl _)) λk hk a=>by
   have:=rR.size
   simp at a;rcases a with rfl | rfl | rfl<;>omega
  refine⟨(aQ.mod (A:=λk=>k=D) ((du.fH _ _ _).mod rfl) λk hk a=>?_).low wK,bF.fH (Nn wK gq) _⟩;subst a;obtain⟨cur,ab⟩:=aQ.cy k hk;rw[bb] at ab;injection ab with ab;cases ab
end Go.Proofs.R
namespace o
def abV:∀(y:cO),∀u∈y.enc,u.oneCell'=true:=by intro y u hu;simp[cO.enc] at hu;rcases hu with rfl | rfl<;>rfl
def asi:∀(y:Ref),∀u∈y.enc,u.oneCell'=true:=by intro y u hu;simp[Ref.enc] at hu;rcases hu with rfl | rfl<;>rfl
end o
namespace Go.Proofs.R
open Go Go.RowKit a8
def s0(cs:C_ B_)(m:o.Model)(w:A_)(h:o.dj w cs m)(aG:m.cv) :
  Du F.GX #[.agg cs.toArray] w λv w'=>aJ o.cO.enc T.d 2 w.heap.size w' v (o.insts m)/\Ext w w':=by
 obtain⟨b0,bz,bO,c1,bT,c2,bV,bu,b1,bB,rfl,ad,h1,I,ab,aC,eu,dz,dJ,dR,ee⟩:=h.form;have ar:=aG.procs;have aE:=o.vo m;unfold o.ep at ar;refine bl E.GX ?_;refine aa ?_;intro w1 bx cN ag al;refine aa ?_;refine L_ 4 m.procs.length [1] (λx:fy×C_ o.cO=>[(3,.slice x.1.1 x.1.2.1 x.1.2.2)]) ((none,0,0),[]) (λk x w'=>(Ext w w'/\w'.heap[bx]? = w1.heap[bx]?)/\aJ o.cO.enc T.d 2 w.heap.size w' (.slice x.1.1 x.1.2.1 x.1.2.2) x.2/\x.2++o.j9 m (m.procs.drop k) k=o.insts m) a6 a6 ⟨⟨ag,rfl⟩,aJ.nil _ _ _ _ _,by simp[o.insts]⟩ ?_;rw[al];clear al;rintro k ⟨v,l⟩ S aA hk ⟨⟨ai,ao⟩,ed,rV⟩;refine aa ?_;apply I_<;>intro g1
 .have a7:k<m.procs.length:=Ad
  obtain⟨a,rfl⟩:=ab.addr;obtain⟨aj,bY,dV,c3,eQ,er⟩:=ab.at k a7;obtain⟨_,_,rfl,_⟩:=eQ.form;obtain⟨_,_,rfl,_⟩:=er.form;rw[o.abW a7] at rV;have qa:=congrArg List.length rV;simp only[List.length_append] at qa;have tK:=o.E7 m m.procs[k];refine dS ?_;simp -dsimp only[cH];refine dS ?_;refine R_ [1,4] (λx:fy=>[(3,.slice x.1 x.2.1 x.2.2)]) (λx w'=>(Ext w w'/\w'.heap[bx]? = aA.heap[bx]?)/\aJ o.cO.enc T.d 2 w.heap.size w' (.slice x.1 x.2.1 x.2.2) (l++o.jA k m.procs[k])) ?_ ?_
  .refine aa ?_;apply I_<;>intro g2
   .have bF:o.jA k m.procs[k]=[⟨(k:Int),0⟩]:=by unfold o.jA;rw[if_pos g2]
    rw[bF] at qa ⊢;simp only[List.length_cons,List.length_nil] at qa;refine aa ?_;intro aM bW eX ah ba;have eT:=ed.ext ah;have pz:=ah.obj ao;refine aa ?_;refine S_ (y:=⟨(k:Int),0⟩) eT ba rfl (λ_=>rfl) o.abV (by simp only;omega) (by unfold maxLen;simp only;omega) (ai.trans ah).size λaN n c aU dD n4=>?_;refine aa ?_;exact⟨(aN,n,c),a6,⟨eT.kG (ai.trans ah) n4 (EC _),by rw[ao];exact eT.box n4 pz By⟩,dD⟩
   .have bF:o.jA k m.procs[k]=[]:=by unfold o.jA;rw[if_neg g2]
    refine aa ?_;exact⟨v,a6,⟨ai,aK⟩,by rw[bF,SN];exact ed⟩
  rintro v3 S aM ⟨⟨ah,ba⟩,eT⟩;rw[ao] at ba;clear ao;refine aa ?_;refine _M [1,4] (λx:fy×Nat=>[(3,.slice x.1.1 x.1.2.1 x.1.2.2),(5,.I ((x.2:Int)+1))]) (v3,0) (λx w'=>(x.2<=o.elems m m.procs[k]/\Ext w w'/\w'.heap[bx]? = aM.heap[bx]?)/\aJ o.cO.enc T.d 2 w.heap.size w' (.slice x.1.1 x.1.2.1 x.1.2.2) (l++o.jA k m.procs[k]++o.kb k x.2)) (λx=>4 - x.2) a6 ⟨⟨AF6 _,ah,rfl⟩,by simpa[o.kb] using eT⟩ ?_;rw[ba];clear ba;rintro⟨v4,j⟩ S aU ⟨⟨az,aq,bo⟩,dD⟩;refine aa ?_;refine P_ _ (λw' e=>ar8 _ m m.procs[k] _ _ w' (h.ext (aq.trans e))) ?_;refine aa ?_;intro bh av;have bI:=av.obj bo;have dM:=dD.ext av;refine aa ?_;apply I_<;>intro g2
  .have eP:j<o.elems m m.procs[k]:=Ad
   refine aa ?_;intro bq dC e5 aD bS;have dn:=dM.ext aD;have pz:=aD.obj bI;have wZ:=(aq.trans av).trans aD;refine aa ?_;have hQ:(l++o.jA k m.procs[k]++o.kb k j).length+1<=(o.insts m).length:=by
    simp only[List.length_append,o.kb,List.length_map,List.length_range] at qa ⊢;omega
   refine S_ (y:=⟨(k:Int),(j:Int)+1⟩) dn bS rfl (λ_=>rfl) o.abV (Nn (AI8 16 hQ) Ad) (Nn hQ (by unfold maxLen;omega)) wZ.size λaN n c bH dU ko=>?_;refine aa ?_;exact⟨((aN,n,c),j+1),a6,⟨⟨by show j+1<=_;omega,dn.kG wZ ko (EC _),dn.box ko pz By⟩,by rw[o.ado,<-MV];exact dU⟩,by show 4 - (j+1)<4 - j;omega⟩
  .have nw:j=o.elems m m.procs[k]:=by simp only at az;omega
   refine aa ?_;exact⟨a7,aK,(v4,l++(o.jA k m.procs[k]++o.kb k j)),a6,⟨aq.trans av,bI⟩,by rw[<-MV];exact dM,by rw[nw,<-rV];simp⟩
 .rw[AE9 Ad] at rV;refine aa ?_;refine⟨?_,ai⟩;simp only[o.j9,List.append_nil] at rV;rw[<-rV];exact ed
def asd(cs:C_ B_)(m:o.Model)(w:A_)(h:o.dj w cs m)(aG:m.cv)(hR:(o.refs m).length*16<=140737488351232) :
  Du F.GY #[.agg cs.toArray] w λv w'=>aJ o.Ref.enc T.c 2 w.heap.size w' v (o.refs m)/\Ext w w':=by
 obtain⟨b0,bz,bO,c1,bT,c2,bV,bu,b1,bB,rfl,ad,h1,I,ab,aC,eu,dz,dJ,dR,ee⟩:=h.form;refine bl E.GY ?_;refine aa ?_;intro w1 bx cN ag al;refine aa ?_;refine J_ (s0 _ m w1 (h.ext ag) aG) ?_;rintro bK aA ⟨U,ai⟩;have ao:=ai.obj al;have jL:ik aA bK (o.insts m):=aJ.e3 (enc:=o.cO.enc) (λ_=>rfl) U;obtain⟨b8,ci,rfl,bi⟩:=jL.form;have Pw:=ag.trans ai;refine aa ?_;refine L_ 5 (o.insts m).length [1,3] (λx:fy×C_ o.Ref=>[(4,.slice x.1.1 x.1.2.1 x.1.2.2)]) ((none,0,0),[]) (λk x w'=>(Ext aA w'/\aJ o.Ref.enc T.c 2 aA.heap.size w' (.slice x.1.1 x.1.2.1 x.1.2.2) x.2)/\x.2++o.qn m ((o.insts m).drop k) k=o.refs m) a6 a6 ⟨⟨Ext.refl _,aJ.nil _ _ _ _ _⟩,by simp[o.refs]⟩ ?_;rintro k ⟨v,l⟩ S aM hk ⟨⟨ah,eT⟩,Dg⟩;have ba:=ah.obj ao;refine aa ?_;apply I_<;>intro g1
 .have a7:k<(o.insts m).length:=Ad
  have A3:=o.q5 (o.insts m)[k] (ED _);obtain⟨q6,vf⟩:=Nb A3.aV;have oW:q6<m.procs.length:=by have:=A3.U;omega
  obtain⟨a,rfl⟩:=ab.addr;obtain⟨gp,rfl⟩:=jL.addr;obtain⟨aj,bY,dV,c3,eQ,er⟩:=ab.at q6 oW;obtain⟨_,_,rfl,_⟩:=eQ.form;obtain⟨_,_,rfl,lc⟩:=er.form;have mR:o.sX m (o.insts m)[k]=m.procs[q6].c0.length:=by
   unfold o.sX;rw[vf,o.jd Ad Ad];simp
  rw[o.asj a7,mR] at Dg;have qa:=congrArg List.length Dg;simp only[List.length_append] at qa;refine aa ?_;refine L_ 6 m.procs[q6].c0.length [1,3,5] (λx:fy=>[(4,.slice x.1 x.2.1 x.2.2)]) v (λj x w'=>Ext aA w'/\aJ o.Ref.enc T.c 2 aA.heap.size w' (.slice x.1 x.2.1 x.2.2) (l++o.refsOf k j)) a6 a6 ⟨ah,by simpa[o.refsOf] using eT⟩ ?_;clear ba;rintro j v4 S aU az ⟨aq,dD⟩;have bo:=aq.obj ao;have Dk:=c3.ext Pw;refine aa ?_;refine K_ q6 vf oW ?_;refine aa ?_;intro bh av;have dM:=dD.ext av;refine aa ?_;apply I_<;>intro g2
  .have eP:j<m.procs[q6].c0.length:=Ad
   refine aa ?_;intro bq dC e5 aD bS;have dn:=dM.ext aD;have wZ:=(aq.trans av).trans aD;refine aa ?_;have hQ:(l++o.refsOf k j).length+1<=(o.refs m).length:=by
    simp only[List.length_append,o.refsOf,List.length_map,List.length_range] at qa ⊢;omega
   refine S_ (y:=⟨(k:Int),(j:Int)⟩) dn bS rfl (λ_=>rfl) o.asi Ad (by unfold maxLen;omega) wZ.size λaN n c bH dU ko=>?_;refine aa ?_;exact⟨eP,aK,(aN,n,c),a6,dn.kG wZ ko (EC _),by rw[o.ad8,<-MV];exact dU⟩
  .have nw:j=m.procs[q6].c0.length:=Ad
   refine aa ?_;exact⟨a7,aK,(v4,l++o.refsOf k j),a6,⟨aq.trans av,dM⟩,by rw[nw,<-Dg];simp⟩
 .rw[AE9 Ad] at Dg;refine aa ?_;refine⟨?_,Pw.trans ah⟩;simp only[o.qn,List.append_nil] at Dg;rw[<-Dg];exact eT.low Pw.size
def Bs(cs:C_ B_)(m:o.Model)(w:A_)(h:o.dj w cs m)(aG:m.cv)(ch:o.uF m) :
  Du F.GY #[.agg cs.toArray] w λv w'=>aJ o.Ref.enc T.c 2 w.heap.size w' v (o.refs m)/\Ext w w' :=
 asd cs m w h aG (by have:=o.qo ch;omega)
end Go.Proofs.R
namespace a8
open Go
def bX(n:Int):C_ B_:=[.int .i64 n]
def hA:∀(y:Int),∀u∈bX y,u.oneCell'=true:=by intro y u hu;simp[bX] at hu;subst hu;rfl
instance awO:pg (Flat bX) (λn=>[Value.int .i64 n]):=⟨λ_ _ _ h=>h⟩
end a8
namespace Go.Proofs.R
open Go Go.RowKit a8
abbrev encI:Int->C_ B_:=λn=>[Value.int .i64 n]
abbrev uG(base:Nat)(w:A_)(v:B_)(xs:C_ Int):Prop:=aJ encI T.a 1 base w v xs
structure rp(base b:Nat)(w:World)(m:Value)(st:List Int):Prop where
 ex:∃BB,w.heap[b]? = some (.cells #[BB,m] T.nL)/\uG base w BB st
 lt:b<base
 le:base<=w.heap.size
theorem rp.ext{base b:Nat}{w w':A_}{m:B_}{st:C_ Int}(h:rp base b w m st)(he:Ext w w'):rp base b w' m st :=
 let ⟨BB,h1,I⟩:=h.ex
 ⟨⟨BB,he.obj h1,I.ext he⟩,h.lt,Nn h.le he.size⟩
theorem Fk(st:C_ Int)(h:0<st.length):st.getLastD 0=st[st.length - 1]:=by
 rw[List.getLastD_eq_getLast?,List.getLast?_eq_getElem?,List.getElem?_eq_getElem Ad];rfl
def afc(base b:Nat)(w:A_)(m:B_)(st:C_ Int)(h:rp base b w m st)(ad:0<st.length) :
  Du F.f5 #[.pointer (some ⟨b,0,none⟩)] w λv w'=>v = .I (st.getLastD 0)/\Ext w w':=by
 obtain⟨BB,cR,aQ⟩:=h.ex;obtain⟨aN,cap,rfl,an,hm⟩:=aQ.form;have U:Ints w _ st:=aJ.jN (enc:=encI) (sz:=1) (λ_=>rfl) aQ;obtain⟨a,rfl⟩:=U.addr ad;unfold maxLen at hm;refine bl E.f5 ?_;refine aI ?_;refine K_ (st.length - 1) Ad Ad ?_;refine aI ?_;intro w1 he;refine aI ?_;rw[Fk _ ad];exact ca
def aoH(x:o.Node)(cs:C_ B_)(s:o.Scope)(base b:Nat)(w:A_)(m:B_)(st:C_ Int)(af:x.ok)(h:o.gg w cs s)(hm:rp base b w m st)(ab:x.op=3->0<st.length) :
  Du F.bF #[.pointer (some ⟨b,0,none⟩),.agg x.enc.toArray,.agg cs.toArray] w λv w'=>v = .tuple #[.I (o.jy x s (st.getLastD 0)).1,.I (o.jy x s (st.getLastD 0)).2]/\Ext w w':=by
 obtain⟨a0,bz,db,c1,a2,c2,a3,bu,a4,bB,rfl,o7,c5,dA,ea,hg,eu,dz,dJ,dR,ee⟩:=h.form;refine bl E.bF ?_;simp -dsimp only[cH];refine rA ?_;refine O_ λw1 bx cN ag al=>?_;refine rA ?_;refine O_ λaA bQ c7 ai ao=>?_;have he:=ag.trans ai;have cK:aA.heap[bx]? = some (.cells #[.I x.op,.I x.n] T.e):=ai.obj al;clear al;refine rA ?_;simp -dsimp only[cH];refine rA ?_;refine _u (λaZ w'=>aZ 0 = .pointer (some ⟨b,0,none⟩)/\aZ 4 = .pointer (some ⟨bx,0,none⟩)/\aZ 5 = .pointer (some ⟨bQ,0,none⟩)/\w'=aA/\(x.op=2\/x.op=3\/x.op=4) /\
  aZ 8=if x.op=4 then .slice a4 s.locals.length bB else .slice db s.vars.length c1) ?_ ?_
 .refine aI ?_;apply I_<;>intro g1
  .refine aI ?_;refine J_ (OK x.n 0 aA) ?_;rintro _ aM ⟨rfl,ah⟩;have hk:o.jy x s (st.getLastD 0)=if o.within x.n then (0,0) else (0,10):=by rw[o.jy,if_pos g1]
   have aB:(o.tell (· + ·) x.n 0).2=o.within x.n:=by
    unfold o.tell
    have:o.within 0=true:=rfl
    simp only[Int.add_zero,this,Bool.and_true,Bool.and_self];split<;>simp_all
   rw[hk,aB];refine aI ?_;refine N_ (λg2=>?_) (λg2=>?_)
   all_goals
    refine aI ?_;rw[g2];exact ca
  refine aI ?_;apply I_<;>intro g4
  .refine aI ?_;refine⟨trivial,trivial,trivial,trivial,.inr (.inr g4),by rw[if_pos g4]⟩
  refine aI ?_;apply I_<;>intro g2
  .refine aI ?_;refine⟨trivial,trivial,trivial,trivial,.inl g2,by rw[if_neg g4]⟩
  refine aI ?_;apply I_<;>intro g3
  .refine aI ?_;refine⟨trivial,trivial,trivial,trivial,.inr (.inl g3),by rw[if_neg g4]⟩
  refine aI ?_;refine T_ (c:=[_,_]) cK (Ext.refl _) rfl ?_;refine aI ?_;refine T_ (c:=[_,_,_,_,_,_]) ao (Ext.refl _) rfl ?_;refine aI ?_;refine J_ (aoI x _ s aA af (h.ext he)) ?_;rintro _ aM ⟨rfl,ah⟩;refine aI ?_;have hk:o.jy x s (st.getLastD 0)=o.mU x s:=by rw[o.jy,if_neg g1,if_neg Ad]
  rw[hk];exact ca
 .rintro S w' b5 ⟨kv,qt,pJ,rfl,mT,aeC⟩;have hk:o.jy x s (st.getLastD 0)=(let q:=o.gz (if x.op=4 then s.locals else s.vars) x.n s;if q.2.2=false then (0,8) else if (x.op=3/\(q.2.1=0\/st.getLastD 0≠q.2.1))\/(x.op≠3/\q.2.1≠0) then (0,9) else (q.1,0)):=by
   rw[o.jy,if_neg Ad,if_pos mT]
  rw[hk];clear hk;have aF:o.hZ w' (S 8) (if x.op=4 then s.locals else s.vars):=by
   rw[aeC];split
   .exact hg.ext he
   .exact c5.ext he
  generalize (if x.op=4 then s.locals else s.vars)=l at aF ⊢;obtain⟨Uo,eN⟩:∃Uo,S 8=Uo:=⟨_,rfl⟩;rw[eN] at aF;clear aeC;refine eh (i_ kv (i_ qt (i_ pJ eN))) ?_;refine T_ (c:=[_,_,_,_,_,_]) ao (Ext.refl _) rfl ?_;refine eh (i_ kv (i_ qt pJ)) ?_;refine J_ (auf _ l x.n _ s w' aF (h.ext he)) ?_;rintro _ aM ⟨rfl,ah⟩;generalize o.gz l x.n s=q;obtain⟨zp,Bo,Ts⟩:=q;refine eh (i_ kv (i_ qt pJ)) ?_;refine N_ (λg1=>?_) (λg1=>?_);rotate_left
  .refine aI ?_;simp only[g1,if_true];exact ca
  have m3:=(hm.ext he).ext ah;refine eh (i_ kv (i_ qt pJ)) ?_;apply I_<;>intro g2
  .refine eh (i_ kv (i_ qt pJ)) ?_;apply I_<;>intro g3
   .refine eh (i_ kv (i_ qt pJ)) ?_;simp only[g1,Bool.true_eq_false,if_false];rw[if_pos (.inl ⟨g2,.inl g3⟩)];exact ca
   refine eh (i_ kv (i_ qt pJ)) ?_;refine J_ (afc base b aM m st m3 (ab g2)) ?_;rintro _ aU ⟨rfl,aq⟩;refine eh (i_ kv (i_ qt pJ)) ?_;apply I_<;>intro g4
   .refine eh (i_ kv (i_ qt pJ)) ?_;simp only[g1,Bool.true_eq_false,if_false];rw[if_neg Ad];exact ca
   .refine aI ?_;simp only[g1,Bool.true_eq_false,if_false];rw[if_pos (.inl ⟨g2,.inr g4⟩)];exact ca
  .refine eh (i_ kv (i_ qt pJ)) ?_;apply I_<;>intro g4
   all_goals
    refine aI ?_;simp only[g1,Bool.true_eq_false,if_false]
   .rw[if_neg Ad];exact ca
   .rw[if_pos (.inr ⟨g2,g4⟩)];exact ca
def _v{P:D_}{x:B_}{args:C_ B_}{w:A_}{bj:B_->Prop}{t}(v:B_)(h:∀w',Ext w w'->x0 P x args w' (λu bM=>u=v/\Ext w' bM) ⟨⟩)(hk:bj v):Il P x args w bj t:=by
 unfold Il;refine⟨v,λw' he=>?_,hk⟩
 have:=h w' he
 unfold x0 at this;obtain⟨f,first,cap,e,ay,aS⟩:=this;exact⟨f,first,cap,e,ay,aS.mono λ_ _ ⟨h1,I⟩=>⟨h1,he.trans I⟩⟩
theorem x1.ext{w w':A_}{v:B_}{g:Int->Int->Int×Bool}(he:Ext w w')(h:x1 w v g):x1 w' v g:=by
 rcases h with h | ⟨c,f,p,h1,I,ab⟩
 .exact .inl h
 .exact .inr ⟨c,f,p,h1,he.obj I,ab⟩
def Nq(f:o.Node->C_ Int->Int×Int)(two:o.pU->C_ Int->Int×Int)(leaf:o.Node->C_ Int->Int×Int):Prop :=
 ∀x st,f x st=match o.hf x.op with | some ae=>two ae (st.drop (st.length - ae.parts.toNat)) | none=>leaf x st
def S5{x:Int}{ae:o.pU}(h:o.hf x=some ae):1<=ae.parts/\ae.parts<=2:=by
 unfold o.hf at h
 repeat' split at h
 all_goals first | (cases h;exact⟨By,By⟩) | cases h
def atB(f:o.Node->C_ Int->Int×Int)(two:o.pU->C_ Int->Int×Int)(leaf:o.Node->C_ Int->Int×Int)(ay:Nq f two leaf)
  (x:o.Node)(base b:Nat)(w:A_)(m nF v2:B_)(st:C_ Int)(hm:rp base b w m st)(aQ:rq w m)(wO:st.length<=24)
  (Rn:0<=o.fO x.op->o.fO x.op<=st.length->o.hf x.op=none->∀w' cL t,Ext w w'->(∀bM,Ext w' bM->cL (.tuple #[.I (leaf x st).1,.I (leaf x st).2]) bM)->BP Tryz.prog nF [.agg x.enc.toArray] w' cL t)
  (R1:∀ae ei e6 w' cL t,Ext w w'->o.hf x.op=some ae->Er w' ae ei->ae.parts<=st.length->Ints w' e6 (st.drop (st.length - ae.parts.toNat)) ->
   (∀bM,Ext w' bM->cL (.tuple #[.I (two ae (st.drop (st.length - ae.parts.toNat))).1,.I (two ae (st.drop (st.length - ae.parts.toNat))).2]) bM)->x0 Tryz.prog v2 [ei,e6] w' cL t) :
  Du F.f2 #[.pointer (some ⟨b,0,none⟩),.agg x.enc.toArray,nF,v2] w λv w' =>
   v = .I (o.stepG f x st).1/\Mod (λk=>k=b\/base<=k) w w'/\((o.stepG f x st).1=0->rp base b w' m (o.stepG f x st).2):=by
 obtain⟨BB,cR,gx⟩:=hm.ex;obtain⟨aN,cap,rfl,FX,mi⟩:=gx.form;have U:Ints w _ st:=aJ.jN (enc:=encI) (sz:=1) (λ_=>rfl) gx;unfold maxLen at mi;refine bl E.f2 ?_;simp -dsimp only[cH];refine rA ?_;refine O_ λw1 bx cN ag al=>?_;refine rA ?_;simp -dsimp only[cH];refine rA ?_;refine P_ _ (λw' e=>aqV x.op m w' (aQ.ext (ag.trans e))) ?_;refine rA ?_;intro aA ai;have dW:=ag.trans ai;refine rA ?_;simp -dsimp only[cH];generalize aw:o.fO x.op=n;have hc : -1<=n/\n<=2:=by rw[<-aw];unfold o.fO; (repeat' split)<;>omega
 refine aI ?_;apply I_<;>intro g1
 .refine aI ?_;have aj:o.stepG f x st=(3,st):=by unfold o.stepG;rw[aw,if_pos g1]
  rw[aj];exact⟨rfl,dW.mod,λh=>by cases h⟩
 refine aI ?_;apply I_<;>intro g2
 .refine aI ?_;have aj:o.stepG f x st=(4,st):=by unfold o.stepG;rw[aw,if_neg g1,if_pos g2]
  rw[aj];exact⟨rfl,dW.mod,λh=>by cases h⟩
 refine rA ?_;simp -dsimp only[cH];refine rA ?_;simp -dsimp only[cH];refine rA ?_;have k4:o.stepG f x st=if (f x st).2≠0 then ((f x st).2,st) else if (st.take (st.length - n.toNat)++[(f x st).1]).length > 12 then (12,st) else (0,st.take (st.length - n.toNat)++[(f x st).1]):=by
  unfold o.stepG;rw[aw,if_neg g1,if_neg g2]
 rw[k4];clear k4;have yV:=ay x st;generalize aS:f x st=r at yV ⊢;refine _u (λaZ w'=>aZ 0 = .pointer (some ⟨b,0,none⟩)/\aZ 9 = .I n/\aZ 10 = .I r.1/\aZ 11 = .I r.2/\Ext w w') ?_ ?_
 .refine aI ?_;intro aM ah;obtain⟨es,q,kO,jM,xn⟩:=(aQ.ext (dW.trans ah)).look x.op;refine aI ?_;refine _m kO jM ?_;cases mT:o.hf x.op with
  | none =>
   simp only[mT] at xn yV;subst xn;simp only[nA,Option.map_none,Option.getD_none,Option.isSome_none,if_true];refine aI ?_;refine O_ λaU c6 fT aq bo=>?_;refine⟨aq,?_⟩;refine aI ?_;refine U_ (cs:=#[.I 0,.I 0,.I 0,.nilFunc]) bo rfl rfl (by simp[Value.oneCell']) λbh eY bI=>?_;have av:Ext aM bh:=eY.ext aq fT;clear bo eY aq;refine aI ?_;refine T_ (c:=[_,_]) (ai.obj al) (fR) rfl ?_;refine aI ?_;refine Rn Ad Ad mT _ _ _ ((dW.trans ah).trans av) λbq aD=>?_;refine aI ?_;rw[yV];exact⟨trivial,trivial,rfl,rfl,((dW.trans ah).trans av).trans aD⟩
  | some ae =>
   simp only[mT] at xn yV;obtain⟨i,ei,rfl,u,rfl,bb⟩:=xn;obtain⟨bO,bT⟩:=S5 mT;have on:=(o.G8 mT).1;simp only[nA,Option.map_some,Option.getD_some,Option.isSome_some,if_true];refine aI ?_;refine O_ λaU c6 fT aq bo=>?_;refine⟨aq,?_⟩;refine aI ?_;refine U_ (cs:=#[.I ae.parts,.I ae.jQ,.I ae.makes,u]) bo rfl rfl (by rcases bb with ⟨f,rfl,_⟩ | ⟨c,f,p,rfl,_⟩<;>simp[Value.oneCell']) λbh eY bI=>?_;have av:Ext aM bh:=eY.ext aq fT;clear bo eY aq;have Q0:=(dW.trans ah).trans av;have av9:Er aM ae (.agg #[.I ae.parts,.I ae.jQ,.I ae.makes,u]):=⟨u,rfl,bb⟩;obtain⟨p,rfl⟩:=Nb (show 0<=n by omega);have ar:ae.parts.toNat=p:=Ad
   refine aI ?_;refine T_ (c:=[_,_,_,_]) bI (Ext.refl _) rfl ?_;refine aI ?_;refine _8 (st.length - p) (by refine aW ?_;rw[Int.ofNat_sub Ad]) ⟨Ad,Ad⟩ ?_;have aB:=U.tail (st.length - p) Ad;rw[ar] at yV;refine aI ?_;refine _v _ (λw' e=>R1 ae _ _ w' _ _ (Q0.trans e) mT ⟨u,rfl,bb.ext (av.trans e)⟩ Ad (by rw[ar];exact aB.ext Flat.ext (Q0.trans e)) λbM aH=>⟨rfl,aH⟩) ?_;refine aI ?_;intro bq aD;refine aI ?_;rw[yV,ar];exact⟨trivial,trivial,rfl,rfl,Q0.trans aD⟩
 .clear al ag ai dW;rintro S aM b5 ⟨kv,Hq,Hp,DT,ah⟩;simp -dsimp only[cH];refine eh (i_ kv (i_ Hq (i_ Hp DT))) ?_;apply I_<;>intro g3;rotate_left
  .refine eh DT ?_;rw[if_pos g3];exact⟨rfl,ah.mod,λh=>absurd h g3⟩
  obtain⟨p,rfl⟩:=Nb (show 0<=n by omega);have rJ:¬r.2≠0:=by simpa using g3
  rw[if_neg rJ];have mi:(st.take (st.length - p)++[r.1]).length=st.length - p+1:=by simp[List.length_take]
  have jv:=hm.ext ah;have eT:uG base aM (.slice aN st.length cap) st:=gx.ext ah;refine rA ?_;simp -dsimp only[cH];refine eh (i_ kv (i_ Hq (i_ Hp DT))) ?_;intro aU aq;have dD:uG base aU (.slice aN st.length cap) st:=eT.ext aq;refine eh (i_ kv (i_ Hq (i_ Hp DT))) ?_;refine _i (st.length - p) (by refine aW ?_;rw[Int.ofNat_sub Ad]) Ad ?_;refine eh (i_ kv (i_ Hq (i_ Hp DT))) ?_;refine _D (cs:=[r.1].flatMap encI) (by simp[List.range,List.range.loop,gC,lay,dc,bD,Value.cells,encI]) λbh dF jt av bI=>?_;refine⟨av,?_⟩;refine aI ?_;have dM:uG base bh (.slice aN (st.length - p) cap) (st.take (st.length - p)):=aJ.head (enc:=encI) (sz:=1) (xs:=st) (λ_=>rfl) (aJ.ext av dD) (st.length - p) (Nat.sub_le _ _);have cu:(st.take (st.length - p)).length=st.length - p:=by simp[List.length_take]
  have DI:((st.take (st.length - p)).length+[r.1].length)*8<=140737488355328:=by rw[cu];simp only[List.length_cons,List.length_nil];omega
  have art:(st.take (st.length - p)).length+[r.1].length<=maxLen:=by rw[cu];simp only[List.length_cons,List.length_nil,maxLen];omega
  have c5:∀y,∀u∈encI y,u.oneCell'=true:=λy u h=>by simp[encI] at h;subst h;rfl
  refine _j (xs:=st.take (st.length - p)) (ys:=[r.1]) dM (λ_=>rfl) (im bI) rfl c5 DI art (by have:=hm.le;have:=ah.size;have:=aq.size;have:=av.size;omega) λv6 bq dn iF=>?_;have CZ:bh.heap[b]? = some (.cells #[.slice aN st.length cap,m] T.nL):=av.obj (aq.obj (ah.obj cR));have e5:bq.heap[b]? = some (.cells #[.slice aN st.length cap,m] T.nL):=by
   refine(iF.block b (cq CZ) λe=>?_).trans CZ
   have:=(dM.lt b e.symm).1
   have:=hm.lt
   omega
  refine aI ?_;refine _G e5 CC (by obtain⟨aN,cap,e,_⟩:=dn.form;rw[e];rfl) λbH dw bZ=>?_;have w6:Mod (λk=>k=b\/base<=k) w bH :=
   (((ah.trans aq).trans av).mod.trans (Mod.grown iF λk hk=>.inr (dM.lt k hk).1)).trans (dw.mod (.inl rfl))
  have hb:rp base b bH m (st.take (st.length - p)++[r.1]) :=
   ⟨⟨v6,bZ,dn.wr dw hm.lt⟩,hm.lt,Nn hm.le w6.size⟩
  obtain⟨ug,avj,rfl,bS,_⟩:=dn.form;rw[mi];have awm:((st.take (st.length - p)++[r.1]).length:Int)=st.length - p+1:=by rw[mi];omega
  refine eh (i_ kv (i_ Hq (i_ Hp DT))) ?_;apply I_<;>intro g4
  .refine aI ?_;simp only[Int.toNat_natCast,mi];rw[if_pos Ad];exact⟨rfl,w6,λh=>by cases h⟩
  .refine aI ?_;simp only[Int.toNat_natCast,mi];rw[if_neg Ad];exact⟨rfl,w6,λ_=>hb⟩
end Go.Proofs.R