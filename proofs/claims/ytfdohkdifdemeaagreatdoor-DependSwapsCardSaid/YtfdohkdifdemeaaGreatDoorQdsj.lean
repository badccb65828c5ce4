/- Parts. -/
import Derived.Test.YtfdohkdifdemeaaGreatDoorQdsi
import Derived.RangeFuncWrites
set_option linter.all false
set_option maxRecDepth 100000
set_option maxHeartbeats 4000000
section
namespace bt
open Go Go.RowKit
inductive rA where
 | sk (g:Operand) (p:Nat) (a b:fa)
 | sl (x:rA) (y:fa)
 | h7 (x:fa) (y:rA)
 | aX (id:Nat) (x:rA)
def ml(P:Program)(n:Nat):Code->Option rA
 | .rangeFunc g dv a b=>match dv.toList,comp P n a,comp P n b with
  | [p],some oC,some hb=>if p<n then some (.sk g p oC hb) else none
  | _,_,_=>none
 | .seq x y=>match comp P n x with
  | some wO=>(ml P n y).map (.h7 wO)
  | none=>match ml P n x,comp P n y with
   | some rx,some u1=>some (.sl rx u1)
   | _,_=>none
 | .block id x=>(ml P n x).map (.aX id)
 | _=>none
structure xr where
 n:Nat
 res:List me
 code:rA
def xO(P:Program)(f:FuncId):Option xr :=
 match P.funcs[f]? with
 | some fn=>match fn.body with
  | some c=>match ml P fn.ntmps c,vR P fn.results.toList with
   | some lc,some r=>some ⟨fn.ntmps,r,lc⟩
   | _,_=>none
  | none=>none
 | none=>none
structure BQ(hG:World->World->Prop)(B:Nat):Prop where
 trans:∀{a b c:World},hG a b->hG b c->hG a c
 put:∀(W:World) (l:Nat) (al o':Obj),B<=l->W.heap[l]? = some al->al.isCells=false->hG W (W.putObj l o')
def lW(hc:Nat)(cJ:List TypeId)(W b8:World):Prop:=Below hc W b8/\∀(k:Nat) (c:Array Value) (t:TypeId) (f:Nat×Nat),W.heap[k]? = some (.cells c t f)->t∈cJ->b8.heap[k]? = W.heap[k]?
theorem lW.ok{hc B:Nat}(cJ:List TypeId)(h:hc<=B):BQ (lW hc cJ) B where
 trans h k:=⟨h.1.trans k.1,fun i c t f ad aO=>by rw[<-h.2 i c t f ad aO];exact k.2 i c t f ((h.2 i c t f ad aO).trans ad) aO⟩
 put W l al o' aS ba aw:=⟨(Below.refl hc W).grown (grownBy_putObj' W l o') (by have:=(Array.getElem?_eq_some_iff.1 ba).1;omega) (fun k e=>by cases e;omega),fun k c t f hk _=>by
  have cI:l≠k:=fun e=>by subst e;rw[ba] at hk;injection hk with hk;subst hk;cases aw
  exact World.putObj_heap_other (Ne.symm cI)⟩
theorem Ext.hB{hc:Nat}{cJ:List TypeId}{W b8:World}(h:Ext W b8)(aE:hc<=W.heap.size):lW hc cJ W b8:=⟨Below.mono h aE,fun k c t f hk _=>h.heap (cG hk)⟩
def aj5{α:Type}(hG:World->World->Prop)(B:Nat)(eo:List α->World->Prop)(pG:dW->List α->World->Prop)(xs:List α)(W:World):dW->Fr->World->Prop
 | .normal,_,b8=>KeepsFrom B W b8/\hG W b8/\eo xs b8
 | .fV _,_,_=>False
 | e,_,b8=>KeepsFrom B W b8/\pG e xs b8
def sv(B:Nat)(W b8:World):Prop := ∃l,B<=l/\(∃al,W.heap[l]? = some al/\al.isCells=false)/\W.grownBy b8 (some l)
def ZF(P:Program)(g:Value)(p:Nat)(a b:fa)(Q:Nat->dW->Fr->World->Prop)(S:Fr)(w:World):Prop :=
 ∃(α:Type) (enc:α->Value) (jV:Nat) (hb:Array Value) (hG:World->World->Prop) (mS oU:List α->Prop) (N:Nat) (w0:World),g = .func (.func jV) #[] hb/\okF P jV=true/\SeqStopsK Fence.wide 0 P jV hb (fun x=>#[enc x]) hG mS oU N w0/\Ext w0 w/\BQ hG w.heap.size /\
 ∃(eo:List α->World->Prop) (pG:dW->List α->World->Prop),OwnFrom w.heap.size eo/\(∀e,OwnFrom w.heap.size (pG e))/\eo [] w /\
  (∀pre x W,eo pre W->pre.length<N->dU P a (tx (fun sw hV=>KeepsFrom w.heap.size W hV/\hG W hV/\∀eI,sv w.heap.size hV eI->dU P b (aj5 hG w.heap.size eo pG (pre++[x]) eI) sw eI) (fun _ _ _=>False)) (cm S p (enc x)) W) /\
  (∀D xs W,w.heap.size<=D->mS xs->eo xs W->W.heap[D]? = some (.deferred (some []))->Q D .normal S W) /\
  (∀D e pre W,e≠.normal->w.heap.size<=D->oU pre->pG e pre W->W.heap[D]? = some (.deferred (some []))->Q D e S W)
theorem aj7{α:Type}{enc:α->Value}{P:Program}{g:Operand}{p:Nat}{xA body:Code}{Q:Exit->Act->World->Prop}{a:Act}{w w0:World}{jV:Nat}{hb:Array Value}{hG:World->World->Prop}{N:Nat}{mS oU:List α->Prop}
  (a1:a.eval g = .func (.func jV) #[] hb)(dq:okF P jV=true)(rZ:SeqStopsK Fence.wide 0 P jV hb (fun x=>#[enc x]) hG mS oU N w0)(he:Ext w0 w)(rQ:BQ hG w.heap.size)
  (eo:List α->World->Prop)(pG:Code->List α->World->Prop)(bB:OwnFrom w.heap.size eo)(wc:∀c,OwnFrom w.heap.size (pG c))(ak:eo [] w)
  (DU:∀l pre x W,eo pre W->pre.length<N->xA.wpIn (mM (some l)) 1 P (Exit.then (fun dJ hV=>KeepsFrom w.heap.size W hV/\hG W hV /\
   ∀eI,sv w.heap.size hV eI->body.wpIn (mM (some l)) 1 P (ownPostG w.heap.size hG eo pG (pre++[x]) eI) dJ eI) (fun _ _ _=>False)) { tmps:=a.tmps.setIfInBounds p (enc x),defers:=[] } W)
  (yc:∀D xs W,w.heap.size<=D->mS xs->eo xs W->W.heap[D]? = some (.deferred (some []))->Q .normal { a with defers:={ target:=.collected D,args:=#[] } :: a.defers } W)
  (HS:∀D c pre W,w.heap.size<=D->oU pre->pG c pre W->W.heap[D]? = some (.deferred (some []))->c.wpIn Fence.wide 3 P Q { a with defers:={ target:=.collected D,args:=#[] } :: a.defers } W) :
  (Code.rangeFunc g #[p] xA body).wpIn Fence.wide 3 P Q a w:=by
 refine wpIn_rangeFunc fun fn kl=>?_;obtain⟨np,s4⟩:∃np:LoopState->Option Code->Loop,np=fun st Nj=>{ state:=st,pending:=Nj,fn,tmps:=a.tmps,params:=#[p],assign:=xA,body,defers:=w.heap.size }:=⟨_,rfl⟩;obtain⟨av,nh⟩:∃av,(w.alloc (.deferred (some []))).alloc (.loop (np .ready none))=av:=⟨_,rfl⟩;have Vw:av.heap.size=w.heap.size+2:=by rw[<-nh];simp
 have ko:av.heap[w.heap.size+1]? = some (.loop (np .ready none)):=by
  rw[<-nh]
  have:=World.alloc_heap_new (w.alloc (.deferred (some []))) (.loop (np .ready none))
  rwa[World.size_alloc] at this
 have sY:av.heap[w.heap.size]? = some (.deferred (some [])):=by rw[<-nh];exact(Below.heap_alloc _ _ _ (by simp)).trans (World.alloc_heap_new w _)
 have HF:eo [] av:=by rw[<-nh];exact bB.alloc _ (bB.alloc _ ak)
 have cR:Below w0.heap.size w0 av:=by rw[<-nh];exact(he.alloc _).alloc _
 have low:∀{A B:World} {row:Option Nat},(∀r,row=some r->av.heap.size<=r/\∃al:Obj,A.heap[r]? = some al/\al.isWalk=true)->(∀r,row=some r->w.heap.size<=r/\∃al:Obj,A.heap[r]? = some al/\al.isCells=false) :=
  fun a6 r e=>by obtain⟨U,al,ba,hw⟩:=a6 r e;exact⟨by omega,al,ba,Obj.not_cells_of_walk hw⟩
 refine⟨w.heap.size+1,[{ target:=.collected w.heap.size,args:=#[] }],av,{ target:=.fn (.func jV) hb,args:=#[.func (.yield (w.heap.size+1)) #[] #[]] },av,jV,
  #[.func (.yield (w.heap.size+1)) #[] #[]]++hb,av,?_,?_,fun _ _=>trivial,?_,fun _=>by decide,?_⟩
 .rw[<-nh,s4];exact run_enterLoop_outer _ _ _ _ _
 .simp only[resolve,a1];simp[go_sem]
 .simp[invoke,go_sem,Fh dq]
 refine CallsIn.mono (JZ (r:=none) (callsIn_wide.1 (rZ (w.heap.size+1)
  (fun pre W=>eo pre W/\W.heap[w.heap.size+1]? = some (.loop (np .ready none))/\W.heap[w.heap.size]? = some (.deferred (some [])))
  (fun pre W => ∃c,pG c pre W/\W.heap[w.heap.size+1]? = some (.loop (np .done (some c)))/\W.heap[w.heap.size]? = some (.deferred (some [])))
  av cR ?_ ?_ ?_ ⟨HF,ko,sY⟩))) ?_
 .exact fun s A B row ay p6 a6=>⟨bB s A B row ay.1 p6 (low (B:=B) a6),(grownBy_keeps p6 (fun r e=>(a6 r e).2) ay.2.1 rfl).trans ay.2.1,(grownBy_keeps p6 (fun r e=>(a6 r e).2) ay.2.2 rfl).trans ay.2.2⟩
 .intro s A B row ay p6 a6;obtain⟨c,aw,U,ag⟩:=ay;exact⟨c,wc c s A B row aw p6 (low (B:=B) a6),(grownBy_keeps p6 (fun r e=>(a6 r e).2) U rfl).trans U,(grownBy_keeps p6 (fun r e=>(a6 r e).2) ag rfl).trans ag⟩
 .rintro pre x W ⟨ad,U,ag⟩ hlen;have b2:=run_yield (P:=P) (args:=#[enc x]) U (by rw[s4];rfl);rw[s4] at b2;refine⟨fn,_,xA,body,b2,XS (r:=none) (m:=0 - 1) ?_⟩;refine(roundIn_of_wpIn (F:=Fence.wide) (n:=1) (l:=w.heap.size+1) kl ?_) |> fun h=>⟨trivial,fun c cs _=>h.2 c cs (room_wide _)⟩
  have bN:(#[p]:Array Tmp).zip #[enc x]=#[(p,enc x)]:=by apply Array.ext';simp[Array.toList_zip]
  have aed:=DU (w.heap.size+1) pre x W ad hlen;simp only[bN];refine wpIn_mono aed fun e dJ hV h=>?_;cases e with
  | normal =>
   obtain⟨cX,c0,gD⟩:=h;have fi:=cX.same _ _ (by omega) U rfl;have d1:=cX.same _ _ (Nat.le_refl _) ag rfl;refine⟨_,run_beginRound fi (by rw[s4]),?_⟩;have cv:=(Array.getElem?_eq_some_iff.1 fi).1;have fR:(hV.putObj (w.heap.size+1) (.loop { np .ready none with state:=.busy })).heap[w.heap.size+1]? = some (.loop { np .ready none with state:=.busy }):=World.putObj_heap_same cv;have d2:(hV.putObj (w.heap.size+1) (.loop { np .ready none with state:=.busy })).heap[w.heap.size]? = some (.deferred (some [])):=(World.putObj_heap_other (by omega)).trans d1;have cp:hG hV (hV.putObj (w.heap.size+1) (.loop { np .ready none with state:=.busy })):=rQ.put _ _ _ _ (by omega) fi rfl;refine wpIn_mono (gD _ ⟨_,by omega,⟨_,fi,rfl⟩,grownBy_putObj' _ _ _⟩) fun e a3 mU aN=>?_;have fin:∀(jump:Option Code),KeepsFrom w.heap.size (hV.putObj (w.heap.size+1) (.loop { np .ready none with state:=.busy })) mU ->
     (Instr.endRound (w.heap.size+1) jump).run P mU = .ok (.bool jump.isNone) (mU.putObj (w.heap.size+1) (.loop (np (if jump.isNone then .ready else .done) jump))) /\
     mU.heap[w.heap.size+1]? = some (.loop { np .ready none with state:=.busy }) /\
     (mU.putObj (w.heap.size+1) (.loop (np (if jump.isNone then .ready else .done) jump))).heap[w.heap.size+1]? = some (.loop (np (if jump.isNone then .ready else .done) jump)) /\
     (mU.putObj (w.heap.size+1) (.loop (np (if jump.isNone then .ready else .done) jump))).heap[w.heap.size]? = some (.deferred (some [])):=fun jump iK=>by
    have ix:=iK.same _ _ (by omega) fR rfl
    have:=run_endRound (P:=P) jump ix
    rw[s4] at this ⊢;exact⟨this,by rw[s4] at ix;exact ix,World.putObj_heap_same (Array.getElem?_eq_some_iff.1 ix).1,(World.putObj_heap_other (by omega)).trans (iK.same _ _ (Nat.le_refl _) d2 rfl)⟩
   cases e with
   | normal =>
    obtain⟨dH,dN,eb⟩:=aN;obtain⟨f1,f2,f3,f4⟩:=fin none dH;exact⟨_,_,f1,.inl ⟨rfl,⟨bB.putObj _ eb (by omega) f2 rfl,f3,f4⟩,rQ.trans (rQ.trans (rQ.trans c0 cp) dN) (rQ.put _ _ _ _ (by omega) f2 rfl)⟩⟩
   | ret =>
    obtain⟨dH,eb⟩:=aN;obtain⟨f1,f2,f3,f4⟩:=fin (some .ret) dH;exact⟨_,_,f1,.inr ⟨rfl,.ret,(wc _).putObj _ eb (by omega) f2 rfl,f3,f4⟩⟩
   | exit id =>
    obtain⟨dH,eb⟩:=aN;obtain⟨f1,f2,f3,f4⟩:=fin (some (.exit id)) dH;exact⟨_,_,f1,.inr ⟨rfl,.exit id,(wc _).putObj _ eb (by omega) f2 rfl,f3,f4⟩⟩
   | goto t =>
    obtain⟨dH,eb⟩:=aN;obtain⟨f1,f2,f3,f4⟩:=fin (some (.goto t)) dH;exact⟨_,_,f1,.inr ⟨rfl,.goto t,(wc _).putObj _ eb (by omega) f2 rfl,f3,f4⟩⟩
   | _=>exact aN.elim
  | _=>exact h.elim
 .rintro e eI ⟨⟨v,rfl⟩,(⟨xs,cq,ad,U,ag⟩ | ⟨pre,ad2,c,ad,U,ag⟩)⟩
  .exact⟨none,_,by have:=run_endLoop (P:=P) U (by rw[s4];simp);rw[s4] at this;exact this,yc _ xs _ (Nat.le_refl _) cq (bB.putObj _ ad (by omega) U rfl) ((World.putObj_heap_other (by omega)).trans ag)⟩
  .exact⟨some c,_,by have:=run_endLoop (P:=P) U (by rw[s4];simp);rw[s4] at this;exact this,HS _ c pre _ (Nat.le_refl _) ad2 ((wc c).putObj _ ad (by omega) U rfl) ((World.putObj_heap_other (by omega)).trans ag)⟩
def nt(P:Program):rA->(Option Nat->dW->Fr->World->Prop)->Fr->World->Prop
 | .sk g p a b,Q,S,w=>ZF P (bo S g) p a b (fun D=>Q (some D)) S w
 | .sl x y,Q,S,w=>nt P x (fun al=>tx (fun S w=>dU P y (Q al) S w) (Q al)) S w
 | .h7 x y,Q,S,w=>dU P x (tx (fun S w=>nt P y Q S w) (Q none)) S w
 | .aX id x,Q,S,w=>nt P x (fun al=>zF id (Q al)) S w
def marks:Option Nat->List Deferred
 | none=>[]
 | some D=>[{ target:=.collected D,args:=#[] }]
def Wx(n:Nat)(Q:Option Nat->dW->Fr->World->Prop):Exit->Act->World->Prop
 | .normal,a,w => ∃al S,Fits (marks al) a S n/\Q al .normal S w
 | .exit i,a,w => ∃al S,Fits (marks al) a S n/\Q al (.exit i) S w
 | .ret,a,w => ∃al S,Fits (marks al) a S n/\Q al .ret S w
 | .panic c,a,w => ∃al S,Fits (marks al) a S n/\Q al (.fV c) S w
 | _,_,_=>False
theorem ahH{n:Nat}{Q:Option Nat->dW->Fr->World->Prop}{al:Option Nat}{e:Exit}{a:Act}{w:World}(h:Ik (marks al) n (Q al) e a w):Wx n Q e a w:=by
 cases e with
 | normal=>obtain⟨S,h1,U⟩:=h;exact⟨al,S,h1,U⟩
 | exit i=>obtain⟨S,h1,U⟩:=h;exact⟨al,S,h1,U⟩
 | ret=>obtain⟨S,h1,U⟩:=h;exact⟨al,S,h1,U⟩
 | panic c=>obtain⟨S,h1,U⟩:=h;exact⟨al,S,h1,U⟩
 | _=>exact h.elim
theorem IL{P:Program}(hm:P.follows .mixedOrders=true){n:Nat}:∀(c:Code) (rc:rA),ml P n c=some rc->∀(Q:Option Nat->dW->Fr->World->Prop) (a:Act) (S:Fr) (w:World),Fits [] a S n->nt P rc Q S w->c.wpIn Fence.wide 3 P (Wx n Q) a w
 | .rangeFunc g dv xA b,rc,h,Q,a,S,w,aK,aT=>by
  simp only[ml] at h;split at h
  .rename_i p oC hb wy bj aC;split at h
   .rename_i aN;injection h with h;subst h
    obtain⟨α,enc,jV,aoW,hG,mS,oU,N,w0,a1,dq,rZ,he,rQ,eo,pG,bB,wc,ak,ael,yc,HS⟩:=aT;have afV:dv=#[p]:=by rw[<-Array.toArray_toList (xs:=dv),wy]
    subst afV;refine aj7 (by rw[aK.eval];exact a1) dq rZ he rQ eo (fun c=>match c with | .ret=>pG .ret | .exit id=>pG (.exit id) | _=>fun _ _=>False) bB ?_ ak ?_ ?_ ?_
    .intro c;split
     .exact wc _
     .exact wc _
     .exact fun s W b8 row h _ _=>h.elim
    .intro l pre x W ad aS;have wk:Fits [] ({ tmps:=a.tmps.setIfInBounds p (enc x),defers:=[] }:Act) (cm S p (enc x)) n:=by
      refine⟨rfl,by simp[aK.2.1],fun t=>?_⟩
      have:=aK.2.2 t
      simp only[cm];by_cases aO:t=p
      .subst aO;simp[aK.2.1,aN]
      .have U:(a.tmps.setIfInBounds p (enc x))[t]? = a.tmps[t]? := Array.getElem?_setIfInBounds_ne (Ne.symm aO);rw[if_neg aO,<-this];simp[Array.getD_eq_getD_getElem?,U]
     refine wpIn_mono (sound (ds:=[]) (r:=some l) hm xA oC bj _ _ _ W wk (ael pre x W ad aS)) fun e c5 b8 aD=>?_;cases e with
     | normal =>
      obtain⟨bh,ek,h1,U,ag⟩:=aD;refine⟨h1,U,fun eI aJ=>?_⟩;refine wpIn_mono (sound (ds:=[]) (r:=some l) hm b hb aC _ _ _ eI ek (ag eI aJ)) fun e a2 mU aD=>?_;cases e with
      | normal=>obtain⟨bh,_,h1,U,ag⟩:=aD;exact⟨h1,U,ag⟩
      | ret=>obtain⟨bh,_,h1,U⟩:=aD;exact⟨h1,U⟩
      | exit id=>obtain⟨bh,_,h1,U⟩:=aD;exact⟨h1,U⟩
      | panic c=>obtain⟨bh,_,h1⟩:=aD;exact h1.elim
      | _=>exact aD.elim
     | ret=>obtain⟨bh,_,h1⟩:=aD;exact h1.elim
     | exit id=>obtain⟨bh,_,h1⟩:=aD;exact h1.elim
     | panic c=>obtain⟨bh,_,h1⟩:=aD;exact h1.elim
     | _=>exact aD.elim
    .intro D xs W lz cq ad bx;exact⟨some D,S,⟨by rw[aK.1];rfl,aK.2⟩,yc D xs W lz cq ad bx⟩
    .intro D c pre W lz cq ad bx;have Uy:Fits (marks (some D)) { a with defers:={ target:=.collected D,args:=#[] } :: a.defers } S n:=⟨by rw[aK.1];rfl,aK.2⟩;split at ad
     .exact wpIn_ret ⟨some D,S,Uy,HS D .ret pre W (by simp) lz cq ad bx⟩
     .exact wpIn_exit ⟨some D,S,Uy,HS D (.exit _) pre W (by simp) lz cq ad bx⟩
     .exact ad.elim
   .cases h
  .cases h
 | .seq x y,rc,h,Q,a,S,w,aK,aT=>by
  simp only[ml] at h;split at h
  .rename_i wO ar;obtain⟨X8,b2,rfl⟩:=Option.map_eq_some_iff.1 h;refine wpIn_seq (wpIn_mono (sound (ds:=[]) (r:=none) (m:=3) hm x wO ar _ a S w aK aT) fun e c5 w' aD=>?_);cases e with
   | normal=>obtain⟨bh,ek,aD⟩:=aD;exact IL hm y X8 b2 Q c5 bh w' ek aD
   | exit i=>obtain⟨bh,ek,aD⟩:=aD;exact⟨none,bh,ek,aD⟩
   | ret=>obtain⟨bh,ek,aD⟩:=aD;exact⟨none,bh,ek,aD⟩
   | panic c=>obtain⟨bh,ek,aD⟩:=aD;exact⟨none,bh,ek,aD⟩
   | _=>exact aD.elim
  .split at h
   .rename_i rx u1 ar b2;injection h with h;subst h
    refine wpIn_seq (wpIn_mono (IL hm x rx ar _ a S w aK aT) fun e c5 w' aD=>?_);cases e with
    | normal =>
     obtain⟨al,bh,ek,aD⟩:=aD;exact wpIn_mono (sound (ds:=marks al) (r:=none) (m:=3) hm y u1 b2 (Q al) c5 bh w' ek aD) fun e RA b1 h=>ahH h
    | exit i=>obtain⟨al,bh,ek,aD⟩:=aD;exact⟨al,bh,ek,aD⟩
    | ret=>obtain⟨al,bh,ek,aD⟩:=aD;exact⟨al,bh,ek,aD⟩
    | panic c=>obtain⟨al,bh,ek,aD⟩:=aD;exact⟨al,bh,ek,aD⟩
    | _=>exact aD.elim
   .cases h
 | .block id b,rc,h,Q,a,S,w,aK,aT=>by
  simp only[ml] at h;obtain⟨NH,aC,rfl⟩:=Option.map_eq_some_iff.1 h;refine wpIn_block (wpIn_mono (IL hm b NH aC _ a S w aK aT) fun e c5 w' aD=>?_);cases e with
  | normal=>obtain⟨al,bh,ek,aD⟩:=aD;exact⟨al,bh,ek,aD⟩
  | ret=>obtain⟨al,bh,ek,aD⟩:=aD;exact⟨al,bh,ek,aD⟩
  | panic c=>obtain⟨al,bh,ek,aD⟩:=aD;exact⟨al,bh,ek,aD⟩
  | exit i =>
   obtain⟨al,bh,ek,aD⟩:=aD;simp only[zF] at aD;simp only[Exit.inBlock];split at aD
   .rename_i ad;rw[if_pos ad];exact⟨al,bh,ek,aD⟩
   .rename_i ad;rw[if_neg ad];exact⟨al,bh,ek,aD⟩
  | _=>exact aD.elim
 | .skip,rc,h,_,_,_,_,_,_=>by simp[ml] at h
 | .region _ _ _,rc,h,_,_,_,_,_,_=>by simp[ml] at h
 | .cond _ _ _,rc,h,_,_,_,_,_,_=>by simp[ml] at h
 | .loop _,rc,h,_,_,_,_,_,_=>by simp[ml] at h
 | .exit _,rc,h,_,_,_,_,_,_=>by simp[ml] at h
 | .ret,rc,h,_,_,_,_,_,_=>by simp[ml] at h
 | .scope _,rc,h,_,_,_,_,_,_=>by simp[ml] at h
 | .label _,rc,h,_,_,_,_,_,_=>by simp[ml] at h
 | .goto _,rc,h,_,_,_,_,_,_=>by simp[ml] at h
 | .refuse _,rc,h,_,_,_,_,_,_=>by simp[ml] at h
def CJ(res:List me)(R:Value->World->Prop):Option Nat->dW->Fr->World->Prop
 | none,e,S,w=>CH res R e S w
 | some D,.normal,S,w=>w.heap[D]? = some (.deferred (some []))/\oJ res S (fe w D (.deferred none)) fun vs=>R (gG vs) (fe w D (.deferred none))
 | some D,.ret,S,w=>w.heap[D]? = some (.deferred (some []))/\oJ res S (fe w D (.deferred none)) fun vs=>R (gG vs) (fe w D (.deferred none))
 | some _,.exit _,_,_=>False
 | some _,.fV _,_,_=>False
theorem akn{P:Program}{D:Nat}{w:World}(h:w.heap[D]? = some (.deferred (some []))):(Instr.takeDeferred D).run P w = .ok [] (fe w D (.deferred none)):=by
 simp[Instr.takeDeferred,Sem.run_bind,getObj,setObj,Sem.run,h,Result.andThen,fe]
theorem acm{P:Program}{f:FuncId}{L:xr}(hm:P.follows .mixedOrders=true)(aw:xO P f=some L){args:List Value}{w:World}{R:Value->World->Prop}(bj:args.length<=L.n)
  (h:nt P L.code (CJ L.res R) (hY args 0) w):bu P f args.toArray w R:=by
 unfold xO at aw;split at aw
 .rename_i fn kl;split at aw
  .rename_i c aC;split at aw
   .rename_i lc r h1 U;injection aw with aw;subst aw
    refine(callsIn_wide (n:=3)).1 (callsIn_of_wp_marks (F:=Fence.wide) kl aC trivial (wpIn_mono (IL hm c lc h1 _ _ (hY args 0) w ?_ h) ?_))
    .refine⟨rfl,?_,fun t=>?_⟩
     .have:=bj;simp only at this;simp;omega
     .rw[G0];simp only[Nat.zero_le,if_true,Nat.sub_zero];by_cases aO:t<args.length
      .simp[Array.getD_eq_getD_getElem?,Array.getElem?_append,aO]
      .simp only[Array.getD_eq_getD_getElem?,Array.getElem?_append,List.size_toArray,if_neg aO,List.getElem?_eq_none (Nat.le_of_not_lt aO),Option.getD_none];rw[Array.getElem?_replicate];split<;>rfl
    .have fin:∀(al:Option Nat) (S:Fr) (c5:Act) (w':World),Fits (marks al) c5 S fn.ntmps->(CJ r R al .normal S w')->LeavesInM Fence.wide 3 P fn c5.tmps (fun e w' => ∃v,e = .returned v/\R v w') c5.defers .returning w':=by
      intro al S c5 w' aK aD;rw[aK.1];cases al with
      | none =>
       obtain⟨vs,ag,aJ⟩:=rh aK _ _ _ U aD;exact⟨_,va ag,_,rfl,aJ⟩
      | some D =>
       obtain⟨bx,aD⟩:=aD;obtain⟨vs,ag,aJ⟩:=rh aK _ _ _ U aD;exact⟨by simp,.inl ⟨D,_,rfl,akn bx,⟨_,va ag,_,rfl,aJ⟩⟩⟩
     intro e c5 w' aD;cases e with
     | normal=>obtain⟨al,S,aK,aD⟩:=aD;exact fin al S c5 w' aK aD
     | ret =>
      obtain⟨al,S,aK,aD⟩:=aD;refine fin al S c5 w' aK ?_;cases al<;>exact aD
     | exit i=>obtain⟨al,S,aK,aD⟩:=aD;cases al<;>exact aD.elim
     | panic c=>obtain⟨al,S,aK,aD⟩:=aD;cases al<;>exact aD.elim
     | _=>exact aD.elim
   .cases aw
  .cases aw
 .cases aw
end bt
namespace bt
open Go Go.RowKit
section
variable{P:Program}{S:Fr}{w:World}
theorem gb.start{f:FuncId}{L:xr}(hm:P.follows .mixedOrders=true)(aw:xO P f=some L){args:List Value}{w:World}{R:Value->World->Prop}(bj:args.length<=L.n)(h:nt P L.code (CJ L.res R) (hY args 0) w):bu P f args.toArray w R:=acm hm aw bj h
theorem gb.h7{x:fa}{y:rA}{Q:Option Nat->dW->Fr->World->Prop}(h:dV P x (hr (fun S w=>nt P y Q S w) (Q none) ⟨⟩) S w ⟨⟩):nt P (.h7 x y) Q S w:=by unfold dV hr at h;exact h
theorem gb.sl{x:rA}{y:fa}{Q:Option Nat->dW->Fr->World->Prop}(h:nt P x (fun al=>hr (fun S w=>dV P y (Q al) S w ⟨⟩) (Q al) ⟨⟩) S w):nt P (.sl x y) Q S w:=by unfold dV hr at h;exact h
theorem gb.aX{id:Nat}{x:rA}{Q:Option Nat->dW->Fr->World->Prop}(h:nt P x (fun al=>pR id (Q al) ⟨⟩) S w):nt P (.aX id x) Q S w:=by unfold pR at h;exact h
theorem gb.ret{res:List me}{R:Value->World->Prop}{D:Nat}(bx:w.heap[D]? = some (.deferred (some [])))(h:iz res S (fe w D (.deferred none)) (fun vs=>R (gG vs) (fe w D (.deferred none))) ⟨⟩):CJ res R (some D) .ret S w:=by
 unfold iz at h;exact⟨bx,h⟩
theorem gb.CG{res:List me}{R:Value->World->Prop}{e:dW}(h:rM res R ⟨⟩ e S w):CJ res R none e S w:=by
 unfold rM at h;exact h
theorem gb.sk{α:Type}{enc:α->Value}{g:Operand}{p:Nat}{a b:fa}{Q:Option Nat->dW->Fr->World->Prop}{jV:Nat}{hb:Array Value}{hG:World->World->Prop}{mS oU:List α->Prop}{N:Nat}{w0:World}
  (a1:bo S g = .func (.func jV) #[] hb)(dq:okF P jV=true)(rZ:SeqStopsK Fence.wide 0 P jV hb (fun x=>#[enc x]) hG mS oU N w0)(he:Ext w0 w)(rQ:BQ hG w.heap.size)
  (eo:List α->World->Prop)(bB:OwnFrom w.heap.size eo)(ak:eo [] w)
  (DU:∀pre x W,eo pre W->pre.length<N->dV P a (hr (fun sw hV=>KeepsFrom w.heap.size W hV/\hG W hV/\∀eI,sv w.heap.size hV eI ->
   dV P b (hr (fun _ b8=>KeepsFrom w.heap.size eI b8/\hG eI b8/\eo (pre++[x]) b8) (fun _ _ _=>False) ⟨⟩) sw eI ⟨⟩) (fun _ _ _=>False) ⟨⟩) (cm S p (enc x)) W ⟨⟩)
  (yc:∀D xs W,w.heap.size<=D->mS xs->eo xs W->W.heap[D]? = some (.deferred (some []))->Q (some D) .normal S W):nt P (.sk g p a b) Q S w:=by
 refine⟨α,enc,jV,hb,hG,mS,oU,N,w0,a1,dq,rZ,he,rQ,eo,fun _ _ _=>False,bB,fun _ _ _ _ _ h _ _=>h.elim,ak,fun pre x W ad aS=>?_,yc,fun D e pre W _ _ _ h _=>h.elim⟩;have h:=DU pre x W ad aS;unfold dV hr at h;refine oM a _ _ _ W (fun e sw hV _ h1=>?_) h;cases e with
 | normal =>
  obtain⟨cX,c0,gD⟩:=h1;refine⟨cX,c0,fun eI a6=>?_⟩;have U:=gD eI a6;refine oM b _ _ _ eI (fun e kR mU _ ag=>?_) U;cases e with
  | normal=>exact ag
  | exit _=>exact ag.elim
  | ret=>exact ag.elim
  | fV _=>exact ag.elim
 | exit _=>exact h1.elim
 | ret=>exact h1.elim
 | fV _=>exact h1.elim
theorem sv.cells{B:Nat}{W b8:World}(h:sv B W b8){k:Nat}{c:Array Value}{t:TypeId}{f:Nat×Nat}(hk:W.heap[k]? = some (.cells c t f)):b8.heap[k]? = some (.cells c t f):=by
 obtain⟨l,aS,⟨al,ba,aw⟩,a1⟩:=h;rw[a1.block k (cG hk) fun e=>by injection e with e;subst e;rw[ba] at hk;injection hk with hk;subst hk;cases aw];exact hk
theorem sv.mod{B:Nat}{W b8:World}(h:sv B W b8):∃l,B<=l/\(∀c t f,W.heap[l]? ≠ some (.cells c t f))/\Mod (fun k=>k=l) W b8:=by
 obtain⟨l,aS,⟨al,ba,aw⟩,a1⟩:=h;exact⟨l,aS,(fun c t f e=>by rw[ba] at e;injection e with e;subst e;cases aw),Mod.grown a1 fun k e=>by injection e with e;exact e.symm⟩
theorem sv.ext{B:Nat}{w W b8:World}(h:sv B W b8)(he:Ext w W)(ji:w.heap.size<=B):Ext w b8:=by
 obtain⟨l,aS,_,hm⟩:=h.mod;exact hm.ext he fun k hk e=>by omega
theorem Ext.keeps{W b8:World}(h:Ext W b8)(B:Nat):KeepsFrom B W b8:=⟨h.size,fun k al _ hk _=>h.obj hk⟩
theorem Mod.keeps{A:Nat->Prop}{B:Nat}{W b8:World}(h:Mod A W b8)(eJ:∀k,B<=k->A k->∃c t f,W.heap[k]? = some (.cells c t f)):KeepsFrom B W b8 :=
 ⟨h.size,fun k al ji hk aw=>h.obj (fun a=>by obtain⟨c,t,f,e⟩:=eJ k ji a;rw[hk] at e;injection e with e;subst e;cases aw) hk⟩
theorem Mod.hB{A:Nat->Prop}{hc:Nat}{cJ:List TypeId}{W b8:World}(h:Mod A W b8)(aE:hc<=W.heap.size)(ak:∀k,k<hc->¬A k)(eJ:∀k c t f,A k->W.heap[k]? = some (.cells c t f)->t∉cJ):lW hc cJ W b8 :=
 ⟨⟨h.os,h.tape,h.output,h.size,fun k hk=>h.block k (by omega) (ak k hk)⟩,fun k c t f hk aO=>h.block k (cG hk) fun a=>eJ k c t f a hk aO⟩
theorem Mod.high{A:Nat->Prop}{w W b8:World}{row:Option Nat}(h:Mod A w W)(a1:W.grownBy b8 row)(a6:∀r,row=some r->w.heap.size<=r):Mod A w b8 :=
 h.comp (Mod.grown (A:=fun k=>row=some k) a1 fun k e=>e) (fun _ _ a=>a) fun i ad e=>by have:=a6 i e;omega
def eK(bf:Nat)(b3:List Nat)(cJ:List TypeId)(W b8:World):Prop:=Mod (fun k=>k∈b3\/(bf<=k/\∃c t f,t∈cJ/\W.heap[k]? = some (.cells c t f))) W b8
theorem Ext.zL{bf:Nat}{b3:List Nat}{cJ:List TypeId}{W b8:World}(h:Ext W b8):eK bf b3 cJ W b8:=h.mod
theorem eK.trans{bf:Nat}{b3:List Nat}{cJ:List TypeId}{a b c:World}(h:eK bf b3 cJ a b)(k:eK bf b3 cJ b c):eK bf b3 cJ a c :=
 ⟨k.os.trans h.os,k.tape.trans h.tape,k.output.trans h.output,Nat.le_trans h.size k.size,fun i ad aE=>by
  have e:=h.block i ad aE;refine(k.block i (Nat.lt_of_lt_of_le ad h.size) fun a=>aE ?_).trans e;rcases a with a | ⟨dJ,c,t,f,a2,a3⟩
  .exact .inl a
  .exact .inr ⟨dJ,c,t,f,a2,by rw[<-e];exact a3⟩⟩
theorem dA.zL{bf b:Nat}{b3:List Nat}{cJ:List TypeId}{W b8:World}(h:dA b W b8)(aC:b∈b3):eK bf b3 cJ W b8:=(h.mod (A:=fun k=>k=b) rfl).I8 fun k e=>.inl (e ▸ aC)
theorem eK.grown{α:Type}{enc:α->List Value}{sz bf:Nat}{e:TypeId}{b3:List Nat}{cJ:List TypeId}{W b8:World}{v:Value}{xs:List α}(ba:bs enc e sz bf W v xs)(a1:W.grownBy b8 v.ownBlock)(he:e∈cJ):eK bf b3 cJ W b8 :=
 (Mod.grown (A:=fun k=>v.ownBlock=some k) a1 fun k e=>e).I8 fun k hk=>by
  obtain⟨cur,h⟩:=ba.aX k hk;exact .inr ⟨(ba.lt k hk).1,_,_,_,he,h⟩
theorem eK.keeps{bf B:Nat}{b3:List Nat}{cJ:List TypeId}{W b8:World}(h:eK bf b3 cJ W b8)(ji:∀b∈b3,b<B):KeepsFrom B W b8 :=
 Mod.keeps h fun k hk a=>by
  rcases a with a | ⟨_,c,t,f,_,a⟩
  .have:=ji k a;omega
  .exact⟨c,t,f,a⟩
theorem eK.hB{bf hc:Nat}{b3:List Nat}{cJ mJ:List TypeId}{W b8:World}(h:eK bf b3 cJ W b8)(aE:hc<=W.heap.size)(ak:hc<=bf)(aC:∀b∈b3,hc<=b/\∀c t f,W.heap[b]? = some (.cells c t f)->t∉mJ)(aO:∀t∈cJ,t∉mJ):lW hc mJ W b8 :=
 Mod.hB h aE (fun k hk a=>by
  rcases a with a | ⟨a,_⟩
  .have:=(aC k a).1;omega
  .omega) fun k c t f a hk=>by
  rcases a with a | ⟨_,mW,hg,sN,dJ,a2⟩
  .exact(aC k a).2 c t f hk
  .rw[hk] at a2;injection a2 with a2;injection a2 with _ a2;subst a2;exact aO _ dJ
theorem eK.from{b3:List Nat}{cJ:List TypeId}{w W b8:World}(h:Mod (fun k=>k∈b3) w W)(c:eK w.heap.size b3 cJ W b8):Mod (fun k=>k∈b3) w b8 :=
 h.comp c (fun _ _ a=>a) fun k hk a=>by
  rcases a with a | ⟨a,_⟩
  .exact a
  .omega
theorem eK.obj{bf:Nat}{b3:List Nat}{cJ:List TypeId}{W b8:World}(h:eK bf b3 cJ W b8){k:Nat}{c:Array Value}{t:TypeId}{f:Nat×Nat}(hk:W.heap[k]? = some (.cells c t f))(aC:k∉b3)(aO:t∉cJ):b8.heap[k]? = some (.cells c t f):=by
 rw[Mod.block h k (cG hk) fun a=>?_]
 .exact hk
 .rcases a with a | ⟨_,mW,hg,sN,dJ,a2⟩
  .exact aC a
  .rw[hk] at a2;injection a2 with a2;injection a2 with _ a2;subst a2;exact aO dJ
end
end bt
end
section
namespace Go.Proofs.R
open Go bt Go.Proofs
def D.n:xr:=⟨78,[.cell 6], (.h7 (.bO [aG 3 (.box T.b (ab 0)),aG 4 (.box T.a (ab 1)),aG 6 (.new T.p (.bool false))]) (.h7 (J [bd 14 5 3,aY 15 F.h [14],bc 16 (.jg 0 (ab 15)),az .neq T.d 17 16 0] (aF 17 (J [hF (.st (ab 6) (bU false))] .ret) .skip)) (.h7 (.ec (an (bd 18 5 3) (an (bd 20 5 3) (.alt (aY 19 F.a [18]) (.b0 (aY 21 F.d [20]) (.alt (aG 8 (.new T.u aH)) (an (I 7 19) (.b0 (ys 8 21) .done .nil)) .nil) (.alt (aG 8 (.new T.u aH)) (.b0 (aY 21 F.d [20]) (an (I 7 19) (.b0 (ys 8 21) .done .nil)) .nil) .nil)) (.alt (aG 8 (.new T.u aH)) (.alt (aY 19 F.a [18]) (.b0 (aY 21 F.d [20]) (an (I 7 19) (.b0 (ys 8 21) .done .nil)) .nil) .nil) .nil))))) (.h7 (.seq (.dP [ae 22 4,az .lss T.a 23 22 0,I 24 23,ao 24 (ae 25 4),ao 24 (I 26 7),ao 24 (bK 27 26),ao 24 (bl .geq T.a 28 25 27),ch 29 24 28,I 30 29,ao 30 (I 31 2),ao 30 (az .lss T.a 32 31 0),ch 33 30 32,I 34 33,ao 34 (I 35 2),ao 34 (ah 36 3 3),ao 34 (ae 37 36),ao 34 (I 38 7),ao 34 (ae 39 4),ao 34 (bn 40 2 38 39),ao 34 (ah 41 0 40),ao 34 (ae 42 41),ao 34 (bn 43 5 37 42),ao 34 (ah 44 2 43),ao 34 (ae 45 44),ao 34 (bl .geq T.a 46 35 45),ch 47 34 46]) (aF 47 (J [hF (.st (ab 6) (bU false))] .ret) .skip)) (.h7 (.bO [bd 48 5 3,aY 49 F.zC [48],aG 9 (.new T.sC aH),ys 9 49]) (.sl (.h7 (.bO [bd 50 5 3,ae 51 4,I 52 2,aY 53 F.qD [50,51,52]]) (.aX 0 (.sk (ab 53) 54 (.bO [I 10 54]) (.aX 1 (J [bc 55 (.jG F.zE [] [(ab 4)]),I 11 55] (J [ae 56 8,bK 57 56,ai 58 (aj 0)] (.aX 2 (.loop (J [bl .lss T.a 59 58 57] (eW 59 2
 (.seq (.aX 3 (J [I 60 58,bn 61 2 56 58,bd 62 2 61,aG 13 (.new T.l (.agg #[au,au])),I 12 60,cg 2 13 62] (.seq (.dP [I 63 11,bd 64 2 13,dd 65 (.val (ab 63) [(ab 64)]),I 66 65,aV 66 (ae 67 9),aV 66 (I 68 10),aV 66 (bn 69 2 67 68),aV 66 (bd 70 2 69),aV 66 (ae 71 9),aV 66 (I 72 12),aV 66 (bn 73 2 71 72),aV 66 (bd 74 2 73),aV 66 (aY 75 F.zD [70,74]),de 76 66 75]) (aF 76 (J [hF (.st (ab 6) (bU false))] .ret) .skip)))) (e9 T.a 77 58)))))))))))) (J [hF (.st (ab 6) (bU true))] .ret)))))))⟩
theorem BN.n:xO Tryz.prog F.n=some D.n:=by kernel_rfl
def D.d:xr:=⟨37,[.tmp 2], (.h7 (.bO [aG 1 (.box T.b (ab 0)),ai 2 (.const aH)]) (.h7 (.bO [aG 3 (.new T.u aH)]) (.h7 (.bO [bc 8 (.cW [au,au] [(0,1),(1,1)] [(0,(aj (-1)))]),aG 4 (.new T.a au),aG 5 (.new T.k (.agg #[au,au])),hF (.st (ab 4) (aj (-1))),cg 2 5 8]) (.sl (.h7 (.bO [bd 9 5 1,aY 10 F.zH [9]]) (.aX 0 (.sk (ab 10) 11 (.bO [aG 6 (.new T.k (.agg #[au,au])),cg 2 6 11]) (.aX 1 (.seq (J [bd 12 2 6,bd 13 2 5,bl .neq T.k 14 12 13] (aF 14 (.bO [ae 15 4,az .add T.a 16 15 1,ys 4 16]) .skip)) (J [bd 17 2 6,cg 2 5 17] (J [ah 18 3 1,ae 19 18,ah 20 0 6,ae 21 20,bn 22 5 19 21,ah 23 4 22,ae 24 23,bK 25 24,ai 26 (aj 0)] (.aX 2 (.loop (J [bl .lss T.a 27 26 25] (eW 27 2
 (.seq (.aX 3 (J [I 28 26,I 7 28] (.bO [ae 29 3,ae 30 4,I 31 7,bc 32 (.cW [au,au] [(0,1),(1,1)] [(0,(ab 30)),(1,(ab 31))]),aG 33 (.dj T.l 1 2 [au,au] [(0,(ab 32))]),aG 34 (.app T.u T.l 2 16 (ab 29) (ab 33)),ys 3 34]))) (e9 T.a 35 26))))))))))))) (J [ae 36 3,I 2 36] .ret)))))⟩
theorem BN.d:xO Tryz.prog F.d=some D.d:=by kernel_rfl
def D.rN:xr:=⟨13,[.tmp 4], (.h7 (.bO [aG 2 (.box T.qx (ab 0)),ai 4 (.const aH)]) (.sl (.h7 (.bO [I 6 1]) (.aX 0 (.sk (ab 6) 7 (.bO [aG 5 (.new T.k (.agg #[au,au])),cg 2 5 7]) (.aX 1 (.bO [ae 8 2,bd 9 2 5,aG 10 (.dj T.k 1 2 [au,au] [(0,(ab 9))]),aG 11 (.app T.qx T.k 2 16 (ab 8) (ab 10)),ys 2 11]))))) (J [ae 12 2,I 4 12] .ret)))⟩
theorem BN.rN:xO Tryz.prog F.rN=some D.rN:=by kernel_rfl
end Go.Proofs.R
end
section
namespace o
open Go Go.RowKit bt
theorem Sj(x:c7):qC Yg x.enc:=⟨⟨_,rfl⟩,⟨_,rfl⟩,trivial⟩
theorem agO(x y:c7)(h:x.enc=y.enc):x=y:=by cases x;cases y;simpa[c7.enc] using h
abbrev vG(m:Model):={x:c7 // x.of m}
end o
namespace bt
open Go Go.RowKit
theorem Ext.Tu{w w':World}(h:Ext w w'):w.grownBy w' none:=⟨h.os,h.tape,h.output,h.size,fun k hk _=>h.heap hk⟩
end bt
namespace Go.Proofs.R
open Go Go.RowKit bt
theorem acd(cs:List Value)(m:o.Model)(p:o.dy)(cE dU:Value)(w:World)(h:o.dY w cs m) :
  bu Tryz.prog F.d3 #[.agg cs.toArray,.agg (p.enc cE dU).toArray] w fun v w'=>v = .int .i64 (o.elems m p)/\Ext w w':=by
 obtain⟨cy,bP,b9,c1,ck,c2,cn,bQ,cB,bX,rfl,ak,h1,U,ag,aJ,eM,ej,ev,ea,ew⟩:=h.form;refine bL E.d3 ?_;refine bG ?_;refine aa ?_;intro av bC cR aB aq;refine aa ?_;intro aU cp dR aA aQ;have c6:∀{w'},Ext aU w'->Ext w w':=fun e=>(aB.trans aA).trans e;refine aa ?_;rw[o.elems];apply K.cond<;>intro g1
 .refine aa ?_;rw[o.hN (.inl (by omega))];exact⟨bk,c6 (Ext.refl _)⟩
 refine aa ?_;apply K.cond<;>intro g2
 .refine aa ?_;rw[o.hN (.inr (by omega))];exact⟨bk,c6 (Ext.refl _)⟩
 have ad:(p.over - 1).toNat<m.scalars.length:=by omega
 obtain⟨a,rfl⟩:=ak.addr (by omega);rw[o.iY (by omega) (by omega)];refine aa ?_;refine K.dD (p.over - 1).toNat (by omega) ad ?_;refine aa ?_;apply K.cond<;>intro g3
 .refine aa ?_;refine⟨?_,c6 (Ext.refl _)⟩;rw[if_pos (by omega)];rfl
 refine aa ?_;apply K.cond<;>intro g4
 .refine aa ?_;refine⟨?_,c6 (Ext.refl _)⟩;rw[if_pos (by omega)];rfl
 refine aa ?_;refine⟨?_,c6 (Ext.refl _)⟩;rw[if_neg (by omega)];congr 1;omega
theorem ajM(cs:List Value)(m:o.Model)(p:o.dy)(cE dU:Value)(w:World)(h:o.dY w cs m) :
  bu Tryz.prog F.Ex #[.agg cs.toArray,.agg (p.enc cE dU).toArray] w fun v w'=>v = .int .i64 (o.elems m p)/\Ext w w':=by
 obtain⟨cy,bP,b9,c1,ck,c2,cn,bQ,cB,bX,rfl,ak,h1,U,ag,aJ,eM,ej,ev,ea,ew⟩:=h.form;refine bL E.Ex ?_;refine bG ?_;refine aa ?_;intro av bC cR aB aq;refine aa ?_;intro aU cp dR aA aQ;have c6:∀{w'},Ext aU w'->Ext w w':=fun e=>(aB.trans aA).trans e;refine aa ?_;rw[o.elems];apply K.cond<;>intro g1
 .refine aa ?_;rw[o.hN (.inl (by omega))];exact⟨bk,c6 (Ext.refl _)⟩
 refine aa ?_;apply K.cond<;>intro g2
 .refine aa ?_;rw[o.hN (.inr (by omega))];exact⟨bk,c6 (Ext.refl _)⟩
 have ad:(p.over - 1).toNat<m.scalars.length:=by omega
 obtain⟨a,rfl⟩:=ak.addr (by omega);rw[o.iY (by omega) (by omega)];refine aa ?_;refine K.dD (p.over - 1).toNat (by omega) ad ?_;refine aa ?_;apply K.cond<;>intro g3
 .refine aa ?_;refine⟨?_,c6 (Ext.refl _)⟩;rw[if_pos (by omega)];rfl
 refine aa ?_;apply K.cond<;>intro g4
 .refine aa ?_;refine⟨?_,c6 (Ext.refl _)⟩;rw[if_pos (by omega)];rfl
 refine aa ?_;refine⟨?_,c6 (Ext.refl _)⟩;rw[if_neg (by omega)];congr 1;omega
def VG(x:o.c7):Value:=.agg x.enc.toArray
theorem VO{nZ w0:World}{b:Nat}{cs:List Value}{m:o.Model}(aw:w0.heap[b]? = some (.cells cs.toArray T.b))(h:o.dY nZ cs m)(pj:Ext nZ w0) :
  SeqStopsK Fence.wide 0 Tryz.prog F.ap #[.pointer (some ⟨b,0,none⟩)] (fun x:o.vG m=>#[VG x.1]) (lW nZ.heap.size [T.h,T.b]) (fun xs=>xs.map Subtype.val=o.insts m) (fun _=>True) (o.insts m).length w0:=by
 intro l ic Js W aC p1 adR b2 HG;have Ag:Ext nZ W:=pj.trans aC;have T7:=Ext.obj (w:=w0) aC aw;obtain⟨cy,bP,b9,c1,ck,c2,cn,bQ,cB,bX,rfl,ak,h1,U,ag,aJ,eM,ej,ev,ea,ew⟩:=h.form;refine callsIn_wide.2 (Calls.mono (show bu Tryz.prog F.ap #[.func (.yield l) #[] #[],.pointer (some ⟨b,0,none⟩)] W (fun _ b8=>(∃xs,xs.map Subtype.val=o.insts m/\ic xs b8)\/(∃pre:List (o.vG m),True/\Js pre b8)) from ?_) fun e b8 ⟨v,bR,aW⟩=>⟨⟨v,bR⟩,aW⟩);have z6:∀{pre:List (o.vG m)} {w w':World},ic pre w->Ext w w'->ic pre w':=fun {pre w w'} aR e=>p1 pre w w' none aR e.Tu (fun r e=>by cases e);refine bL E.ap ?_;refine bG ?_;refine aa ?_;refine K.dk 9 m.procs.length [0,1,7,8] (fun _=>[]) ([]:List (o.vG m)) (fun k pre w'=>(Ext nZ w'/\w'.heap[b]? = some (.cells #[.slice cy m.scalars.length bP,.slice b9 m.vars.length c1,.slice ck m.aL.length c2,.slice cn m.procs.length bQ,.slice cB m.props.length bX] T.b)/\ic pre w')/\pre.map Subtype.val++o.iW m (m.procs.drop k) k=o.insts m) bz bz ⟨⟨Ag,T7,HG⟩,by simp[o.insts]⟩ ?_;clear T7 aw;rintro k pre S av hk ⟨⟨aB,T9,UJ⟩,qY⟩;refine aa ?_;apply K.cond<;>intro g1
 .have bp:k<m.procs.length:=by omega
  obtain⟨a,rfl⟩:=ag.addr (by omega);obtain⟨ay,cE,dU,dZ,eT,gS⟩:=ag.at k bp;obtain⟨_,_,rfl,_⟩:=eT.form;obtain⟨_,_,rfl,_⟩:=gS.form;rw[o.VI bp] at qY;have sQ:=cG T9;refine ee ?_;simp -dsimp only[cF];refine ee ?_;simp -dsimp only[cF];refine ee ?_;intro BC cp dR mz p2;refine ee ?_;intro aU agv aQ;have aA:=agv.ext mz dR;have Ua:=aA.obj T9;have rV:=z6 UJ aA;have eU:∀(q:List (o.vG m)) (r:List o.c7),q.map Subtype.val++r=o.insts m->r≠[]->q.length<(o.insts m).length:=fun q r e a6=>by
   rw[<-e,List.length_append,List.length_map]
   have:=List.length_pos_iff.2 a6
   omega
  have uv:=o.CF m m.procs[k];refine ee ?_;refine K.hl [0,1,3,4,7,8,9] (fun _=>[]) (fun(E2:List (o.vG m)) w'=>(Ext nZ w'/\w'.heap[cp]? = aU.heap[cp]? /\ w'.heap[b]? = aU.heap[b]? /\ ic E2 w')/\E2.map Subtype.val=pre.map Subtype.val++o.iw k m.procs[k]) ?_ ?_
  .refine aa ?_;apply K.cond<;>intro g2
   .have bR:o.iw k m.procs[k]=[⟨(k:Int),0⟩]:=by unfold o.iw;rw[if_pos g2]
    rw[bR] at qY;refine aa ?_;refine K.yield (b2 pre ⟨⟨(k:Int),0⟩,by simp,by simpa using bp,by simp⟩ aU rV (eU pre _ (by simpa[List.append_assoc] using qY) (by simp))) ?_;rintro e bb (⟨rfl,wo,rW⟩ | ⟨rfl,wo⟩)
    .refine⟨.bool true,rfl,?_⟩;refine aa ?_;exact⟨_,trivial,⟨Below.trans (Ext.trans aB aA) rW.1,rW.2 cp _ _ _ aQ (by simp),rW.2 b _ _ _ Ua (by simp),wo⟩,by simp[bR]⟩
    .refine⟨.bool false,rfl,?_⟩;refine aa ?_;exact .inr ⟨_,trivial,wo⟩
   .have bR:o.iw k m.procs[k]=[]:=by unfold o.iw;rw[if_neg g2]
    refine aa ?_;exact⟨pre,trivial,⟨aB.trans aA,bk,bk,rV⟩,by simp[bR]⟩
  rintro Nl S bb ⟨⟨ax,bA,Ub,wo⟩,afL⟩;rw[aQ] at bA;rw[Ua] at Ub;refine aa ?_;refine K.call (acd _ m m.procs[k] _ _ bb (h.ext ax)) ?_;rintro _ bq ⟨rfl,aM⟩;have UK:=z6 wo aM;have Uc:=aM.obj Ub;have pa:=ax.trans aM;have Ve:Nl.map Subtype.val++o.iZ k (o.elems m m.procs[k])++o.iW m (m.procs.drop (k+1)) (k+1)=o.insts m:=by rw[afL,<-qY];simp
  refine aa ?_;refine K.dk 27 (o.elems m m.procs[k]) [0,1,3,7,8,9,26] (fun _=>[]) Nl (fun j E2 w'=>(Ext nZ w'/\w'.heap[b]? = bq.heap[b]? /\ ic E2 w')/\E2.map Subtype.val=Nl.map Subtype.val++o.iZ k j) bz bz ⟨⟨pa,rfl,UK⟩,by simp[o.iZ]⟩ ?_;rintro j Nn S bT aR ⟨⟨aZ,Ho,DA⟩,Av⟩;rw[Uc] at Ho;refine aa ?_;apply K.cond<;>intro g3
  .have eL:j<o.elems m m.procs[k]:=by omega
   have cv:Nn.length<(o.insts m).length:=by
    have bR:=congrArg List.length Ve;have aW:=congrArg List.length Av;simp only[List.length_append,List.length_map,o.iZ,List.length_range] at bR aW;omega
   refine aa ?_;refine K.yield (b2 Nn ⟨⟨(k:Int),(j:Int)+1⟩,by simp,by simpa using bp,by constructor<;>simp<;>omega⟩ bT DA cv) ?_;rintro e bV (⟨rfl,Ap,DD⟩ | ⟨rfl,Ap⟩)
   .refine⟨.bool true,rfl,?_⟩;refine aa ?_;exact⟨eL,bk,_,trivial,⟨Below.trans aZ DD.1,by rw[DD.2 b _ _ _ Ho (by simp),Ho,Uc],Ap⟩,by simp[Av,o.W3]⟩
   .refine⟨.bool false,rfl,?_⟩;refine aa ?_;exact .inr ⟨_,trivial,Ap⟩
  .have kZ:j=o.elems m m.procs[k]:=by omega
   subst kZ;refine aa ?_;exact⟨bp,bk,Nn,trivial,⟨aZ,Ho,DA⟩,by rw[Av];exact Ve⟩
 .refine aa ?_;rw[List.drop_eq_nil_of_le (by omega)] at qY;exact .inl ⟨pre,by simpa[o.iW] using qY,UJ⟩
end Go.Proofs.R
end
section
namespace o
open Go
def c7.key(x:c7):Int:=5*x.proc+x.elem
def chain:c7->List c7->Prop
 | _,[]=>True
 | a,x :: r=>x≠a/\chain x r
theorem R8:∀(l:List c7) (a:c7),(a :: l).Pairwise (fun x y=>x.key<y.key)->chain a l
 | [],_,_=>trivial
 | x :: r,a,h=>by
  obtain⟨h1,U⟩:=List.pairwise_cons.1 h;refine⟨fun e=>?_,R8 r x U⟩
  have:=h1 x (by simp)
  rw[e] at this;exact absurd this (Int.lt_irrefl _)
theorem VN{m:Model}:∀(l:List dy) (i:Nat),(iW m l i).Pairwise (fun x y=>x.key<y.key)/\∀x∈iW m l i,5*(i:Int)<=x.key
 | [],_=>⟨List.Pairwise.nil,fun x ar=>by simp[iW] at ar⟩
 | p :: r,i=>by
  obtain⟨h1,U⟩:=VN r (i+1);have ba:∀x∈iw i p,x=⟨(i:Int),0⟩:=fun x ar=>by
   unfold iw at ar;split at ar
   .simpa using ar
   .cases ar
  have aT:∀x∈iZ i (elems m p),∃k:Nat,k<4/\x=⟨(i:Int),(k:Int)+1⟩:=fun x ar=>by
   unfold iZ at ar;obtain⟨k,hk,rfl⟩:=List.mem_map.1 ar
   have:=List.mem_range.1 hk
   have:=CF m p
   exact⟨k,by omega,rfl⟩
  have oG:(iZ i (elems m p)).Pairwise (fun x y=>x.key<y.key):=by
   unfold iZ;rw[List.pairwise_map];exact List.Pairwise.imp (fun {a b} Db=>by simp only[c7.key];omega) List.pairwise_lt_range
  have ai5:(iw i p).Pairwise (fun x y=>x.key<y.key):=by
   unfold iw;split
   .exact List.pairwise_singleton _ _
   .exact List.Pairwise.nil
  simp only[iW];refine⟨List.pairwise_append.2 ⟨List.pairwise_append.2 ⟨ai5,oG,fun a bj b aC=>?_⟩,h1,fun a bj b aC=>?_⟩,fun x ar=>?_⟩
  .obtain rfl:=ba a bj;obtain⟨k,_,rfl⟩:=aT b aC;simp only[c7.key];omega
  .have dR:=U b aC;rcases List.mem_append.1 bj with bj | bj
   .obtain rfl:=ba a bj;simp only[c7.key];simp at dR;unfold c7.key at dR;omega
   .obtain⟨k,hk,rfl⟩:=aT a bj;unfold c7.key at dR ⊢;simp at dR ⊢;omega
  .rcases List.mem_append.1 ar with ar | ar
   .rcases List.mem_append.1 ar with ar | ar
    .obtain rfl:=ba x ar;simp[c7.key]
    .obtain⟨k,hk,rfl⟩:=aT x ar;unfold c7.key;simp;omega
   .have:=U x ar
    simp at this;omega
theorem agQ(m:Model):chain ⟨-1,0⟩ (insts m):=by
 obtain⟨h1,U⟩:=VN (m:=m) m.procs 0;refine R8 _ _ (List.pairwise_cons.2 ⟨fun x ar=>?_,h1⟩)
 have:=U x ar
 unfold c7.key at this ⊢;simp at this ⊢;omega
theorem Tq(m:Model):∀(l:List c7) (i:Nat) (a:c7) (out:List Ref),chain a l->(l.foldl (lP m) ((i:Int) - 1,a,out)).2.2=out++oI m l i
 | [],_,_,_,_=>by simp[oI]
 | x :: r,i,a,out,h=>by
  simp only[List.foldl_cons];have e:lP m ((i:Int) - 1,a,out) x=(((i+1:Nat):Int) - 1,x,out++refsOf i (q8 m x)):=by
   unfold lP;simp only;rw[if_pos h.1];congr 1
   .omega
   .congr 2;congr 1;omega
  rw[e,Tq m r (i+1) x _ h.2];simp[oI]
theorem ajY(m:Model):((insts m).foldl (lP m) (-1,⟨-1,0⟩,[])).2.2=refs m:=by
 have:=Tq m (insts m) 0 ⟨-1,0⟩ [] (agQ m)
 simpa[refs] using this
structure vz(m:Model):Prop where
 procs:m.procs.length<=30
 cH:∀p∈m.procs,p.cH.length<=30
theorem M6{m:Model}(h:vz m)(x:c7):q8 m x<=30:=by
 unfold q8;split
 .rename_i p aN;refine h.cH p ?_;unfold nth at aN;by_cases ak:0<=x.proc
  .rw[if_pos ak] at aN;exact List.mem_of_getElem? aN
  .rw[if_neg ak] at aN;cases aN
 .omega
theorem Tp{m:Model}(h:vz m):∀(l:List c7) (s:Int×c7×List Ref),s.1<=(l.foldl (lP m) s).1/\(l.foldl (lP m) s).1<=s.1+l.length/\(l.foldl (lP m) s).2.2.length<=s.2.2.length+30*l.length
 | [],s=>by simp
 | x :: r,s=>by
  obtain⟨h1,U,ag⟩:=Tp h r (lP m s x);simp only[List.foldl_cons,List.length_cons];have aE:=M6 h x;have bR:s.1<=(lP m s x).1/\(lP m s x).1<=s.1+1:=by unfold lP;simp only;split<;>omega
  have aW:(lP m s x).2.2.length<=s.2.2.length+30:=by unfold lP refsOf;simp only[List.length_append,List.length_map,List.length_range];omega
  omega
theorem XH{m:Model}(h:vz m):∀(l:List c7) (i:Nat),(oI m l i).length<=30*l.length
 | [],_=>by simp[oI]
 | x :: r,i=>by
  have:=XH h r (i+1)
  have:=M6 h x
  simp only[oI,List.length_append,refsOf,List.length_map,List.length_range,List.length_cons];omega
theorem u9{m:Model}(h:vz m):(refs m).length<=4500:=by
 have:=XH h (insts m) 0
 have:=uM m
 have:=h.procs
 unfold refs;omega
structure Q0(m:Model)(r:Ref)(i p k:Nat):Prop where
 ad:i<(insts m).length
 wY:r.inst=i
 ip:(insts m)[i].proc=p
 aN:p<m.procs.length
 yT:r.cmd=k
 hk:k<m.procs[p].cH.length
theorem XI{m:Model}:∀(l:List c7) (i0:Nat) (r:Ref),r∈oI m l i0->∃j,∃aR:j<l.length,r.inst=((i0+j:Nat):Int)/\∃k:Nat,k<q8 m l[j]/\r.cmd=k
 | [],_,_,h=>by simp[oI] at h
 | x :: l,i0,r,h=>by
  simp only[oI,List.mem_append] at h;rcases h with h | h
  .unfold refsOf at h;obtain⟨k,hk,rfl⟩:=List.mem_map.1 h;exact⟨0,by simp,by simp,k,by simpa using hk,rfl⟩
  .obtain⟨j,aR,h1,k,U,ag⟩:=XI l (i0+1) r h;exact⟨j+1,by simpa using aR,by rw[h1];congr 1;omega,k,by simpa using U,ag⟩
theorem ajX{m:Model}{r:Ref}(h:r∈refs m):∃i p k,Q0 m r i p k:=by
 obtain⟨j,aR,h1,k,U,ag⟩:=XI _ _ _ h;have ar:=r2 (insts m)[j] (List.getElem_mem _);obtain⟨p,aN⟩:=Int.eq_ofNat_of_zero_le ar.bf;have qX:p<m.procs.length:=by have:=ar.ad;omega
 refine⟨j,p,k,aR,by rw[h1];simp,aN,qX,ag,?_⟩;unfold q8 at U;rw[aN,iY (by omega) (by omega)] at U;simpa using U
end o
end
section
namespace bt
open Go Go.RowKit
def RS(cJ t:TypeId)(sz b:Nat)(z:Array Value):xr:=⟨13,[.tmp 4],
 (.h7 (.bO [aG 2 (.box cJ (ab 0)),ai 4 (.const (.slice none 0 0))])
 (.sl (.h7 (.bO [I 6 1])
 (.aX 0 (.sk (ab 6) 7 (.bO [aG 5 (.new t (.agg z)),hF (.ri sz (ab 5) (ab 7))]) (.aX 1 (.bO [ae 8 2,n2 9 (.j3 sz (ab 5)),aG 10 (.dj t 1 sz z.toList [(0,(ab 9))]),aG 11 (.app cJ t sz b (ab 8) (ab 10)),ys 2 11])))))
 (.seq (.bO [ae 12 2,I 4 12])
 .ret)))⟩
theorem Wl:∀(vs pre post:List Value),vs.length<=post.length->(vs.zipIdx pre.length).foldl (fun cs (x:Value×Nat)=>cs.set (0+x.2) x.1) (pre++post)=pre++vs++post.drop vs.length
 | [],pre,post,_=>by simp
 | v :: vs,pre,[],h=>by simp at h
 | v :: vs,pre,p :: post,h=>by
  have e1:=Wl vs (pre++[v]) post (by simpa using h);simp only[List.length_append,List.length_cons,List.length_nil] at e1;simp only[List.zipIdx_cons,List.foldl_cons,List.length_cons,List.drop_succ_cons];rw[show(pre++p :: post).set (0+pre.length) v=(pre++[v])++post from by simp,e1];simp
theorem ac2{S:Fr}{sz:Nat}{z cs:List Value}{t:Nat}(aO:S t = .agg cs.toArray)(aw:cs.length=sz)(bN:z.length=sz)(ak:0<sz):eP S ((List.range 1).map fun i=>(i*sz,sz)) [(0,.tmp t)] z=some cs:=by
 have e:lay z 0 (.agg cs.toArray)=cs:=by
  have:=Wl cs [] z (by omega)
  simp only[List.nil_append,List.length_nil] at this;unfold lay;simp only[Value.cells];rw[this,List.drop_eq_nil_of_le (by omega),List.append_nil]
 have bR:(bo S (.tmp t)).cells.size=sz:=by
  show(S t).cells.size=sz;rw[aO];simp[Value.cells,aw]
 have aW:((List.range 1).map fun i=>(i*sz,sz))[0]? = some (0,sz):=by simp
 unfold eP;simp only[aW];rw[if_pos ⟨bR,by omega⟩];unfold eP;show some (lay z 0 (S t))=_;rw[aO,e]
section
variable{α:Type}{P:Program}{f:FuncId}{t cJ:TypeId}{sz b:Nat}{enc:α->List Value}{z:Array Value}
theorem Z8(hm:P.follows .mixedOrders=true)(fS:xO P f=some (RS cJ t sz b z))(bN:z.size=sz)(hlen:∀x,(enc x).length=sz)(uE:∀x,∀u∈enc x,u.oneCell'=true)(dm:0<sz)
  {jV:Nat}{hb:Array Value}{hc:Nat}{mJ:List TypeId}{mS oU:List α->Prop}{N:Nat}{w0 w:World}(dq:okF P jV=true)
  (rZ:SeqStopsK Fence.wide 0 P jV hb (fun x=>#[.agg (enc x).toArray]) (lW hc mJ) mS oU N w0)(he:Ext w0 w)(yl:hc<=w.heap.size)(aO:t∉mJ)(DY:cJ∉mJ)(cI:cJ≠t)(gp:N*b<=140737488355328)(TL:N<=maxLen) :
  bu P f #[.slice none 0 0,.func (.func jV) #[] hb] w fun v w'=>(∃xs,mS xs/\bs enc t sz w.heap.size w' v xs)/\Ext w w':=by
 refine gb.start hm fS (args:=[_,_]) (Nat.le_of_ble_eq_true rfl) ?_;dsimp only[RS,ab,aj,bU,bc,n2,aG,dd,hF,vo,I,ai,ah,ae,bn,ys,bK];refine gb.h7 ?_;refine aa ?_;intro av bC cR aB aq;refine aa ?_;refine gb.sl (gb.h7 ?_);simp -dsimp only[c4,cF,Nat.reduceAdd,Nat.reduceEqDiff,reduceIte,reduceCtorEq,db];refine gb.aX (gb.sk (w0:=w0) (enc:=fun x=>.agg (enc x).toArray) (by simp[fu,cu]) dq rZ (he.trans aB) (lW.ok mJ (Nat.le_trans yl aB.size))
  (fun pre W=>Mod (fun k=>k=bC) av W/\∃(bm:Option Addr) (n c:Nat),W.heap[bC]? = some (.cells #[.slice bm n c] cJ)/\bs enc t sz av.heap.size W (.slice bm n c) pre) ?_ ⟨Mod.refl _ _,none,0,0,aq,bs.nil _ _ _ _ _⟩ ?_ ?_)
 .rintro pre W b8 row ⟨hm,bm,n,c,aC,ba⟩ a1 a6;refine⟨hm.high a1 fun r e=>(a6 r e).1,bm,n,c,?_,ba.mod (Mod.grown (A:=fun k=>row=some k) a1 fun k e=>e) fun k hk a=>?_⟩
  .rw[a1.block bC (cG aC) fun e=>?_]
   .exact aC
   .obtain⟨al,h1,U⟩:=(a6 bC e.symm).2;rw[aC] at h1;injection h1 with h1;subst h1;cases U
  .obtain⟨cur,ag⟩:=ba.aX k hk;obtain⟨al,h1,U⟩:=(a6 k a).2;rw[ag] at h1;injection h1 with h1;subst h1;cases U
 .rintro pre x W ⟨hm,bm,n,c,nM,ba⟩ cv;have UR:=cG aq;have aoj:=hm.size
  try (simp -dsimp only[c4,cF,Nat.reduceAdd,Nat.reduceEqDiff,reduceIte,reduceCtorEq,db])
  refine K.new fun hV dO kX aZ cC=>?_
  try (simp -dsimp only[c4,cF,Nat.reduceAdd,Nat.reduceEqDiff,reduceIte,reduceCtorEq,db])
  refine K.jJ cC bN (by simpa using hlen x) (by simpa using uE x) fun eI hw aQ=>?_
  try (simp -dsimp only[c4,cF,Nat.reduceAdd,Nat.reduceEqDiff,reduceIte,reduceCtorEq,db])
  have aW:=hw.ext aZ kX;refine⟨aW.keeps _,aW.hB (by omega),fun mU uF=>?_⟩;obtain⟨l,aS,As,im⟩:=uF.mod;have bA:=uF.cells aQ;have fp:=uF.cells (aW.obj nM);have fP:bs enc t sz av.heap.size mU (.slice bm n c) pre:=(ba.ext aW).mod im fun k hk a=>by
   subst a;obtain⟨cur,ag⟩:=(ba.ext aW).aX k hk;exact As _ _ _ ag
  try (simp -dsimp only[c4,cF,Nat.reduceAdd,Nat.reduceEqDiff,reduceIte,reduceCtorEq,db])
  refine K.q1 fp (Ext.refl _) rfl ?_
  try (simp -dsimp only[c4,cF,Nat.reduceAdd,Nat.reduceEqDiff,reduceIte,reduceCtorEq,db])
  refine K.j3 (hj bA) (hlen x) ?_
  try (simp -dsimp only[c4,cF,Nat.reduceAdd,Nat.reduceEqDiff,reduceIte,reduceCtorEq,db])
  refine K.lv (ac2 (cs:=enc x) (by simp[cu]) (hlen x) (by simpa using bN) dm) fun JG zA Aa aM bw=>?_
  try (simp -dsimp only[c4,cF,Nat.reduceAdd,Nat.reduceEqDiff,reduceIte,reduceCtorEq,db])
  have afs:pre.length+1<=N:=cv;refine K.vH (ys:=[x]) (fP.ext aM) hlen (by simpa using hj bw) rfl uE (Nat.le_trans (Nat.mul_le_mul_right b afs) gp) (by simp only[List.length_cons,List.length_nil];omega) (by have:=im.size;have:=aM.size;have:=aW.size;omega) fun cf rC eC kC kj=>?_;obtain⟨j5,o1,rfl,_⟩:=eC.form;have fN:=aM.obj fp;have Dh:rC.heap[bC]? = some (.cells #[.slice bm n c] cJ):=by
   rw[kC.block bC (cG fN) fun e=>?_]
   .exact fN
   .obtain⟨cur,ag⟩:=(fP.ext aM).aX bC e.symm;rw[fN] at ag;injection ag with ag;injection ag with _ ag;exact cI ag
  try (simp -dsimp only[c4,cF,Nat.reduceAdd,Nat.reduceEqDiff,reduceIte,reduceCtorEq,db])
  refine K.tv Dh (by simp) rfl fun lY gh ct=>?_
  try (simp -dsimp only[c4,cF,Nat.reduceAdd,Nat.reduceEqDiff,reduceIte,reduceCtorEq,db])
  have gr:∀k,(Value.slice bm n c).ownBlock=some k->av.heap.size<=k:=fun k hk=>(fP.lt k hk).1;have ahS:Mod (fun k=>(Value.slice bm n c).ownBlock=some k\/k=bC) JG lY:=(Mod.grown (A:=fun k=>(Value.slice bm n c).ownBlock=some k) kC fun k e=>e).comp (A':=fun k=>k=bC) (gh.mod rfl) (fun _ _ a=>.inl a) (fun _ _ a=>.inr a);have M0:Mod (fun k=>(Value.slice bm n c).ownBlock=some k\/k=bC) mU lY:=aM.mod.comp ahS (A:=fun _=>False) (fun _ _ h=>h.elim) (fun _ _ h=>h);refine⟨M0.keeps fun k hk a=>?_,M0.hB (by have:=im.size;have:=aW.size;omega) (fun k hk a=>?_) (fun k mW hg sN a hk wB=>?_),?_,j5,_,o1,ct,?_⟩
  .rcases a with a | a
   .obtain⟨cur,ag⟩:=fP.aX k a;exact⟨_,_,_,ag⟩
   .subst a;exact⟨_,_,_,fp⟩
  .rcases a with a | a
   .have:=gr k a;have:=aB.size;omega
   .omega
  .rcases a with a | a
   .obtain⟨cur,ag⟩:=fP.aX k a;rw[ag] at hk;injection hk with hk;injection hk with _ hk;subst hk;exact aO wB
   .subst a;rw[fp] at hk;injection hk with hk;injection hk with _ hk;subst hk;exact DY wB
  .refine(hm.comp (B:=fun k=>k=bC) (A':=fun k=>(Value.slice bm n c).ownBlock=some k\/k=bC\/k=l) ?_ (fun _ _ a=>a) fun k hk a=>?_)
   .exact(aW.mod (A:=fun _=>False)).comp (im.comp M0 (fun _ _ a=>(Or.inr (Or.inr a):_\/_\/_)) (fun _ _ a=>by rcases a with a | a;exact .inl a;exact .inr (.inl a))) (fun _ _ h=>h.elim) (fun _ _ h=>h)
   .rcases a with a | a | a
    .have:=gr k a;omega
    .exact a
    .omega
  .refine eC.mod (gh.mod (A:=fun k=>k=bC) rfl) fun k hk a=>?_;subst a;obtain⟨cur,ag⟩:=eC.aX k hk;rw[Dh] at ag;injection ag with ag;injection ag with _ ag;exact cI ag
 .rintro D xs W lz cq ⟨hm,bm,n,c,nM,ba⟩ bx;simp -dsimp only[c4,cF,Nat.reduceAdd,Nat.reduceEqDiff,reduceIte,reduceCtorEq,db];refine K.q1 nM (Ext.refl _) rfl ?_;simp -dsimp only[c4,cF,Nat.reduceAdd,Nat.reduceEqDiff,reduceIte,reduceCtorEq,db];refine gb.ret bx ?_;simp -dsimp only[c4,cF,Nat.reduceAdd,Nat.reduceEqDiff,reduceIte,reduceCtorEq,db];have bR:Ext w W:=hm.ext aB fun k hk e=>by omega
  refine⟨⟨xs,cq,(ba.mod (A:=fun k=>k=D) ((dA.fe _ _ _).mod rfl) fun k hk a=>?_).low aB.size⟩,bR.fe (Nat.le_trans aB.size lz) _⟩;subst a;obtain⟨cur,ag⟩:=ba.aX k hk;rw[bx] at ag;injection ag with ag;cases ag
end
end bt
end
section
namespace bt
open Go Go.RowKit
theorem bs.map{α β:Type}{enc:β->List Value}{g:α->β}{e:TypeId}{sz base:Nat}{w:World}{v:Value}{xs:List α}(h:bs (fun x=>enc (g x)) e sz base w v xs):bs enc e sz base w v (xs.map g):=by
 unfold bs at *;rw[List.length_map,List.flatMap_map];exact h
theorem bs.jI{α:Type}{enc:α->List Value}{e:TypeId}{sz base:Nat}{w:World}{v:Value}{xs:List α}(dm:∀x,(enc x).length=sz)(h:bs enc e sz base w v xs):bE sz (Flat enc) w v xs:=bs.py dm h
theorem bs.new{α:Type}{enc:α->List Value}{e:TypeId}{sz:Nat}{w w':World}{v:Value}{xs:List α}(dm:∀x,(enc x).length=sz)(h:bs enc e sz w.heap.size w' v xs):eF w (fun w=>bE sz (Flat enc) w v xs) w':=fun aU m =>
 bs.py dm (bs.mod h m fun k hk a=>by have:=(h.lt k hk).1;omega)
end bt
namespace Go.Proofs.R
open Go Go.RowKit bt
abbrev lV(w:World)(v:Value)(l:List o.c7):Prop:=bE 2 (Flat o.c7.enc) w v l
abbrev B3(w:World)(v:Value)(l:List o.Ref):Prop:=bE 2 (Flat o.Ref.enc) w v l
theorem VU(cs:List Value)(m:o.Model)(w:World)(h:o.dY w cs m) :
  bu Tryz.prog F.zH #[.agg cs.toArray] w fun v w'=>(∃b,v = .func (.func F.ap) #[] #[.pointer (some ⟨b,0,none⟩)]/\w'.heap[b]? = some (.cells cs.toArray T.b))/\Ext w w':=by
 obtain⟨cy,bP,b9,c1,ck,c2,cn,bQ,cB,bX,rfl,_⟩:=h.form;refine bL E.zH ?_;refine bG ?_;refine aa ?_;intro av bC cR aB aq;refine aa ?_;exact⟨⟨bC,rfl,aq⟩,aB⟩
theorem AA(cs:List Value)(m:o.Model)(w:World)(h:o.dY w cs m)(a1:m.cQ) :
  bu Tryz.prog F.a #[.agg cs.toArray] w fun v w'=>bs o.c7.enc T.k 2 w.heap.size w' v (o.insts m)/\Ext w w':=by
 obtain⟨cy,bP,b9,c1,ck,c2,cn,bQ,cB,bX,rfl,_⟩:=h.form;have aN:=a1.procs;have aS:=o.uM m;unfold o.dK at aN;refine bL E.a ?_;refine bG ?_;refine aa ?_;intro av bC cR aB aq;refine aa ?_;refine K.call (VU _ m av (h.ext aB)) ?_;rintro _ aU ⟨⟨b,rfl,aQ⟩,aA⟩;have c6:Ext w aU:=aB.trans aA;refine aa ?_;refine K.call (f:=F.Co) (R:=fun v w'=>bs o.c7.enc T.k 2 aU.heap.size w' v (o.insts m)/\Ext aU w') ?_ ?_
 .refine bL E.Co ?_;refine bG ?_;refine aa ?_;refine K.call (Z8 (α:=o.vG m) (enc:=fun x=>x.1.enc) mC BN.rN rfl (fun _=>rfl) (fun x u hu=>by simp[o.c7.enc] at hu;rcases hu with rfl | rfl<;>rfl) (by decide) (by kernel_rfl)
   (VO aQ h c6) (Ext.refl _) c6.size (by decide) (by decide) (by decide) (by omega) (by unfold maxLen;omega)) ?_
  rintro v bb ⟨⟨xs,uJ,ba⟩,ax⟩;refine aa ?_;exact⟨by rw[<-uJ];exact ba.map,ax⟩
 .rintro v bb ⟨ba,ax⟩;refine aa ?_;exact⟨ba.low c6.size,c6.trans ax⟩
structure ll(av:World)(b4 cN dO:Nat)(s:Int×o.c7×List o.Ref)(W:World):Prop where
 mod:Mod (fun k=>k∈[b4,cN,dO]) av W
 ex:∃bm n c,W.heap[b4]? = some (.cells #[.slice bm n c] T.u)/\bs o.Ref.enc T.l 2 av.heap.size W (.slice bm n c) s.2.2
 aJ:W.heap[cN]? = some (.cells #[.int .i64 s.1] T.a)
 bg:W.heap[dO]? = some (.cells s.2.1.enc.toArray T.k)
theorem ll.move{av:World}{b4 cN dO:Nat}{s:Int×o.c7×List o.Ref}{W b8:World}{A:Nat->Prop}(h:ll av b4 cN dO s W)(m:Mod A W b8)(eJ:∀k c t f,W.heap[k]? = some (.cells c t f)->¬A k)(jB:∀k,A k->av.heap.size<=k):ll av b4 cN dO s b8:=by
 obtain⟨bm,n,c,e,ba⟩:=h.ex;refine⟨h.mod.comp m (fun _ _ a=>a) fun k hk a=>absurd (jB k a) (by omega),⟨bm,n,c,m.obj (eJ _ _ _ _ e) e,ba.mod m fun k hk a=>?_⟩,m.obj (eJ _ _ _ _ h.aJ) h.aJ,m.obj (eJ _ _ _ _ h.bg) h.bg⟩;obtain⟨cur,ag⟩:=ba.aX k hk;exact eJ _ _ _ _ ag a
theorem ll.ext{av:World}{b4 cN dO:Nat}{s:Int×o.c7×List o.Ref}{W b8:World}(h:ll av b4 cN dO s W)(e:Ext W b8):ll av b4 cN dO s b8:=h.move (A:=fun _=>False) e.mod (fun _ _ _ _ _ h=>h) fun _ h=>h.elim
theorem vO{W:World}{k:Nat}{c mW:Array Value}{t hg:TypeId}{f sN:Nat×Nat}(h:W.heap[k]? = some (.cells c t f))(bF:W.heap[k]? = some (.cells mW hg sN)):t=hg:=by
 rw[h] at bF;injection bF with bF;injection bF
theorem ll.ku{av:World}{b4 cN dO:Nat}{s:Int×o.c7×List o.Ref}{W b8:World}{n:Int}(h:ll av b4 cN dO s W)(hw:dA cN W b8)(aw:b8.heap[cN]? = some (.cells #[.int .i64 n] T.a))(n34:b4≠cN)(n45:dO≠cN):ll av b4 cN dO (n,s.2) b8:=by
 obtain⟨bm,k,c,e,ba⟩:=h.ex;refine⟨h.mod.comp (A':=fun k=>k=cN) (hw.mod rfl) (fun _ _ a=>a) fun k hk a=>by simp[a],⟨bm,k,c,hw.obj e n34,ba.mod (hw.mod (A:=fun k=>k=cN) rfl) fun k hk a=>?_⟩,aw,hw.obj h.bg n45⟩;subst a;obtain⟨cur,ag⟩:=ba.aX k hk;exact absurd (vO ag h.aJ) (by decide)
theorem ll.hC{av:World}{b4 cN dO:Nat}{s:Int×o.c7×List o.Ref}{W b8:World}{x:o.c7}(h:ll av b4 cN dO s W)(hw:dA dO W b8)(aw:b8.heap[dO]? = some (.cells x.enc.toArray T.k))(n35:b4≠dO)(n45:dO≠cN):ll av b4 cN dO (s.1,x,s.2.2) b8:=by
 obtain⟨bm,k,c,e,ba⟩:=h.ex;refine⟨h.mod.comp (A':=fun k=>k=dO) (hw.mod rfl) (fun _ _ a=>a) fun k hk a=>by simp[a],⟨bm,k,c,hw.obj e n35,ba.mod (hw.mod (A:=fun k=>k=dO) rfl) fun k hk a=>?_⟩,hw.obj h.aJ (Ne.symm n45),aw⟩;subst a;obtain⟨cur,ag⟩:=ba.aX k hk;exact absurd (vO ag h.bg) (by decide)
theorem ll.app{av:World}{b4 cN dO:Nat}{s:Int×o.c7×List o.Ref}{W b8 Gk:World}{bm j5:Option Addr}{n c jH mW:Nat}{l:List o.Ref}(h:ll av b4 cN dO s W)(he:W.heap[b4]? = some (.cells #[.slice bm n c] T.u))
  (ba:bs o.Ref.enc T.l 2 av.heap.size W (.slice bm n c) s.2.2)(l7:bs o.Ref.enc T.l 2 av.heap.size b8 (.slice j5 jH mW) l)(a1:W.grownBy b8 (Value.slice bm n c).ownBlock)(hw:dA b4 b8 Gk)
  (aw:Gk.heap[b4]? = some (.cells #[.slice j5 jH mW] T.u))(n34:b4≠cN)(n35:b4≠dO):ll av b4 cN dO (s.1,s.2.1,l) Gk/\eK av.heap.size [b4,cN,dO] [T.l] W Gk:=by
 have ca:eK av.heap.size [b4,cN,dO] [T.l] W b8:=eK.grown ba a1 (by simp);have r3:∀{k:Nat} {c:Array Value} {t:TypeId},W.heap[k]? = some (.cells c t)->t≠T.l->b8.heap[k]? = some (.cells c t):=fun {k c t} hk aO=>by
  rw[a1.block k (cG hk) fun e=>?_]
  .exact hk
  .obtain⟨cur,ag⟩:=ba.aX k e.symm;exact aO (vO hk ag)
 have TC:=ca.trans (hw.zL (by simp));refine⟨⟨eK.from h.mod TC,⟨j5,jH,mW,aw,l7.mod (hw.mod (A:=fun k=>k=b4) rfl) fun k hk a=>?_⟩,hw.obj (r3 h.aJ (by decide)) (Ne.symm n34),hw.obj (r3 h.bg (by decide)) (Ne.symm n35)⟩,TC⟩;subst a;obtain⟨cur,ag⟩:=l7.aX k hk;exact absurd (vO ag (r3 he (by decide))) (by decide)
theorem Fe(cs:List Value)(m:o.Model)(w:World)(h:o.dY w cs m)(dg:o.vz m) :
  bu Tryz.prog F.d #[.agg cs.toArray] w fun v w'=>bs o.Ref.enc T.l 2 w.heap.size w' v (o.refs m)/\Ext w w':=by
 obtain⟨cy,bP,b9,c1,ck,c2,cn,bQ,cB,bX,rfl,ak,h1,U,ag,aJ,eM,ej,ev,ea,ew⟩:=h.form;have qP:=o.uM m;have qX:=dg.procs;refine gb.start mC BN.d (args:=[_]) (Nat.le_of_ble_eq_true rfl) ?_;dsimp only[D.d,ab,aj,bU,bc,n2,aG,dd,hF,vo,I,ai,ah,ae,bn,ys,bK,au,aH,cK,bl,az,de,ch,J,aF,bd,cg,hE,bD,aY,eW,e9,aV,ao,an,List.map_cons,List.map_nil];refine gb.h7 ?_;refine aa ?_;intro I6 bC cR p4 Dm;refine aa ?_;refine gb.h7 ?_;refine aa ?_;intro I7 b4 fp pb nM;refine aa ?_;refine gb.h7 ?_;refine aa ?_;intro w8 cN fN mA gx;refine aa ?_;intro wd dO kX pc Ud;have Hf:dO≠cN:=by have:=cG gx;omega
 replace gx:=pc.obj gx;refine aa ?_;intro amb HY fg;have aeK:=HY.obj Ud Hf;refine aa ?_;intro wf HZ Hq;replace Hq:wf.heap[dO]? = some (.cells (⟨-1,0⟩:o.c7).enc.toArray T.k):=Hq;have FJ:=cG Dm;have FK:=cG nM;have aqb:=cG gx;have Kv:Ext I6 wf:=HZ.ext (HY.ext ((pb.trans mA).trans pc) (by have:=pb.size;omega)) (by have:=pb.size;have:=mA.size;omega);have SQ:Ext I7 amb:=HY.ext (mA.trans pc) (by omega);have SR:Ext I7 wf:=HZ.ext SQ (by have:=mA.size;omega);have T0:=SR.obj nM;have aeb:=Kv.obj Dm;replace fg:=HZ.obj fg (Ne.symm Hf);have n34:b4≠cN:=by omega
 have n35:b4≠dO:=by have:=mA.size;omega
 have ap7:=pb.size;have aqa:=mA.size;clear aeK Ud gx HY HZ SQ SR nM Dm pb mA pc;refine gb.sl (gb.h7 ?_);refine aa ?_;refine K.call (VU _ m wf (h.ext (p4.trans Kv))) ?_;rintro _ rm ⟨⟨amV,rfl,Li⟩,Du⟩;have vu:∀{w'},Ext rm w'->Ext w w':=fun e=>((p4.trans Kv).trans Du).trans e;have Hk:=Du.obj T0;have K6:=Du.obj aeb;have KR:=Du.obj fg;have KT:=Du.obj Hq;have aoR:=cG Hk;have aoS:=cG KR;have aoT:=cG KT;simp -dsimp only[c4,cF,Nat.reduceAdd,Nat.reduceEqDiff,reduceIte,reduceCtorEq,db];refine gb.aX (gb.sk (w0:=rm) (enc:=fun x:o.vG m=>VG x.1) (by simp[fu,cu]) (by kernel_rfl) (VO Li h (vu (Ext.refl _))) (Ext.refl _) (lW.ok _ (vu (Ext.refl _)).size)
  (fun pre W=>ll rm b4 cN dO ((pre.map Subtype.val).foldl (o.lP m) (-1,⟨-1,0⟩,[])) W) ?_ ⟨Mod.refl _ _,⟨none,0,0,Hk,bs.nil _ _ _ _ _⟩,KR,KT⟩ ?_ ?_)
 .rintro pre W b8 row ha a1 a6;refine ha.move (A:=fun k=>row=some k) (Mod.grown a1 fun k e=>e) (fun k c t f hk a=>?_) fun k a=>(a6 k a).1;obtain⟨al,h1,U⟩:=(a6 k a).2;rw[hk] at h1;injection h1 with h1;subst h1;cases U
 .rintro pre x W ha cv;have sS:=o.Tp dg (pre.map Subtype.val) (-1,⟨-1,0⟩,[]);simp only[List.length_map,List.length_nil] at sS;have key:((pre++[x]).map Subtype.val).foldl (o.lP m) (-1,⟨-1,0⟩,[])=o.lP m ((pre.map Subtype.val).foldl (o.lP m) (-1,⟨-1,0⟩,[])) x.1:=by
   rw[List.map_append,List.foldl_append];rfl
  generalize (pre.map Subtype.val).foldl (o.lP m) (-1,⟨-1,0⟩,[])=s at ha sS key;have DL:=o.M6 dg x.1;have D2:=x.2;refine ee ?_;intro hV fl gq aB ct;refine ee ?_;refine⟨aB.keeps _,aB.hB (Nat.le_trans (vu (Ext.refl _)).size ha.mod.size),fun eI uF=>?_⟩;obtain⟨l,aS,As,fq⟩:=uF.mod;replace ct:=uF.cells ct;have uH:ll rm b4 cN dO s eI:=(ha.ext aB).move fq (fun k c t f hk a=>by subst a;exact As _ _ _ hk) fun k a=>by omega
  have aca:rm.heap.size<=eI.heap.size:=uH.mod.size;have anu:eI.heap[bC]? = rm.heap[bC]? := uH.mod.block bC (cG K6) (by simp;omega);have U0:fl∉[b4,cN,dO]:=by have:=ha.mod.size;simp;omega
  clear ha uF fq As KR KT Hk fg T0 Hq;generalize kj:(if x.1≠s.2.1 then s.1+1 else s.1)=at' at key;refine ee ?_;refine K.hl [1,3,4,5,6] (fun _=>[]) (fun(_:Unit) b8=>ll rm b4 cN dO (at',s.2) b8/\eK rm.heap.size [b4,cN,dO] [T.l] eI b8) ?_ ?_
  .have ann:=uH.aJ;have Tz:=uH.bg;refine aa ?_;refine K.WM (sig:=o.Yg) (by kernel_rfl) (o.Sj _) (o.Sj _) fun r a6=>?_;refine aa ?_;refine K.dp (fun g1=>?_) (fun g1=>?_)
   .have cI:x.1≠s.2.1:=fun e=>a6.1 g1 (by rw[e]);rw[if_pos cI] at kj;subst kj;refine aa ?_;intro mU fT bA;refine aa ?_;exact⟨(),trivial,uH.ku fT bA n34 Hf,fT.zL (by simp)⟩
   .have heq:x.1=s.2.1:=o.agO _ _ (Classical.byContradiction fun aE=>by rw[a6.2 aE] at g1;cases g1);rw[if_neg (by simp[heq])] at kj;subst kj;refine aa ?_;exact⟨(),trivial,uH,(Ext.refl eI).zL⟩
  rintro _ S mU ⟨Mh,Ue⟩;replace ct:=eK.obj Ue ct U0 (by decide);have K7:=Mh.mod.block bC (cG K6) (by simp;omega);rw[K6] at K7;have Tz:=Mh.bg;have SF:∀b∈[b4,cN,dO],w.heap.size<=b:=fun b aC=>by
   have:=p4.size
   simp at aC;rcases aC with rfl | rfl | rfl<;>omega
  refine ee ?_;simp -dsimp only[cF];refine ee ?_;intro JG eu bw;have Vn:=Mh.hC eu bw n35 Hf;have aeM:=eK.trans Ue (eu.zL (by simp));have anv:=eu.obj K7 (by omega);replace ct:=eu.obj ct (by simp at U0;omega);have Cx:Ext w JG:=Vn.mod.ext (vu (Ext.refl _)) fun k hk a=>by have:=SF k a;omega
  clear K7 Tz;obtain⟨ps,wu⟩:=Int.eq_ofNat_of_zero_le D2.bf;have qR:ps<m.procs.length:=by have:=D2.ad;omega
  obtain⟨a,rfl⟩:=ag.addr (by omega);obtain⟨ay,cE,dU,dZ,eT,gS⟩:=ag.at ps qR;obtain⟨_,_,rfl,_⟩:=eT.form;obtain⟨_,_,rfl,lc⟩:=gS.form;have lF:o.q8 m x.1=m.procs[ps].cH.length:=by
   unfold o.q8;rw[wu,o.iY (by omega) (by omega)];simp
  rw[lF] at DL;refine aa ?_;refine K.dD ps wu qR ?_;refine aa ?_;refine K.dk 26 m.procs[ps].cH.length [1,3,4,5,6,25] (fun _=>[]) () (fun j _ b8=>ll rm b4 cN dO (at',x.1,s.2.2++o.refsOf at' j) b8/\eK rm.heap.size [b4,cN,dO] [T.l] eI b8) bz bz ⟨by simpa[o.refsOf] using Vn,aeM⟩ ?_;rintro j _ S lY aR ⟨DX,Lm⟩;refine aa ?_;apply K.cond<;>intro g2
  .obtain⟨bm,n,c,bJ,ba⟩:=DX.ex;have bZ:=DX.aJ;have aos:=DX.mod.size;refine aa ?_;intro qw amT jX bM cU;refine aa ?_;have hlen:(s.2.2++o.refsOf at' j).length+1<=5000:=by
    simp only[List.length_append,o.refsOf,List.length_map,List.length_range];omega
   refine K.vH (ys:=[(⟨at',(j:Int)⟩:o.Ref)]) (ba.ext bM) (fun _=>rfl) (by simpa[o.Ref.enc] using hj cU) rfl (by intro y u hu;simp[o.Ref.enc] at hu;rcases hu with rfl | rfl<;>rfl)
    (by simp only[List.length_cons,List.length_nil];omega) (by simp only[List.length_cons,List.length_nil];unfold maxLen;omega) (by have:=bM.size;omega) fun cf ZK iU HE _=>?_
   obtain⟨j5,o1,rfl,_⟩:=iU.form;have anh:ZK.heap[b4]? = some (.cells #[.slice bm n c] T.u):=by
    rw[HE.block b4 (cG (bM.obj bJ)) fun e=>?_]
    .exact bM.obj bJ
    .obtain⟨cur,ag⟩:=(ba.ext bM).aX b4 e.symm;exact absurd (vO ag (bM.obj bJ)) (by decide)
   refine aa ?_;intro amJ iV dM;obtain⟨agk,aeN⟩:=(DX.ext bM).app (bM.obj bJ) (ba.ext bM) iU HE iV dM n34 n35;refine aa ?_;exact⟨by omega,bk,(),trivial,by rw[o.XJ,<-List.append_assoc];exact agk,eK.trans Lm (eK.trans bM.zL aeN)⟩
  .have kZ:j=m.procs[ps].cH.length:=by omega
   refine aa ?_;refine⟨eK.keeps Lm (fun b aC=>?_),eK.hB Lm (Nat.le_trans (vu (Ext.refl _)).size aca) (vu (Ext.refl _)).size (fun b aC=>⟨SF b aC,fun c t f hk aO=>?_⟩) (by decide),?_⟩
   .simp at aC;rcases aC with rfl | rfl | rfl<;>omega
   .simp at aC;rcases aC with rfl | rfl | rfl
    .obtain⟨_,_,_,e,_⟩:=uH.ex
     have:=vO hk e;subst this;revert aO;decide
    .have:=vO hk uH.aJ;subst this;revert aO;decide
    .have:=vO hk uH.bg;subst this;revert aO;decide
   .show ll rm b4 cN dO _ lY;rw[key]
    have:o.lP m s x.1=(at',x.1,s.2.2++o.refsOf at' j):=by unfold o.lP;rw[kj,lF,kZ]
    rw[this];exact DX
 .rintro D xs W lz cq ha bx;obtain⟨bm,n,c,bJ,ba⟩:=ha.ex;have yg:=o.ajY m;rw[cq] at ba;rw[yg] at ba;simp -dsimp only[c4,cF,Nat.reduceAdd,Nat.reduceEqDiff,reduceIte,reduceCtorEq,db];refine K.q1 bJ (Ext.refl _) rfl ?_;simp -dsimp only[c4,cF,Nat.reduceAdd,Nat.reduceEqDiff,reduceIte,reduceCtorEq,db];refine gb.ret bx ?_;simp -dsimp only[c4,cF,Nat.reduceAdd,Nat.reduceEqDiff,reduceIte,reduceCtorEq,db];have sM:w.heap.size<=rm.heap.size:=(vu (Ext.refl _)).size;have bR:Ext w W:=ha.mod.ext (vu (Ext.refl _)) fun k hk a=>by
   have:=p4.size
   simp at a;rcases a with rfl | rfl | rfl<;>omega
  refine⟨(ba.mod (A:=fun k=>k=D) ((dA.fe _ _ _).mod rfl) fun k hk a=>?_).low sM,bR.fe (Nat.le_trans sM lz) _⟩;subst a;obtain⟨cur,ag⟩:=ba.aX k hk;rw[bx] at ag;injection ag with ag;cases ag
end Go.Proofs.R
end
section
namespace o
theorem VH:∀(y:c7),∀u∈y.enc,u.oneCell'=true:=by intro y u hu;simp[c7.enc] at hu;rcases hu with rfl | rfl<;>rfl
theorem ajV:∀(y:Ref),∀u∈y.enc,u.oneCell'=true:=by intro y u hu;simp[Ref.enc] at hu;rcases hu with rfl | rfl<;>rfl
end o
namespace Go.Proofs.R
open Go Go.RowKit bt
theorem Fc(cs:List Value)(m:o.Model)(w:World)(h:o.dY w cs m)(a1:m.cQ) :
  bu Tryz.prog F.uX #[.agg cs.toArray] w fun v w'=>bs o.c7.enc T.k 2 w.heap.size w' v (o.insts m)/\Ext w w':=by
 obtain⟨cy,bP,b9,c1,ck,c2,cn,bQ,cB,bX,rfl,ak,h1,U,ag,aJ,eM,ej,ev,ea,ew⟩:=h.form;have aN:=a1.procs;have aS:=o.uM m;unfold o.dK at aN;refine bL E.uX ?_;refine bG ?_;refine aa ?_;intro av bC cR aB aq;refine aa ?_;refine K.dk 4 m.procs.length [1] (fun x:gQ×List o.c7=>[(3,.slice x.1.1 x.1.2.1 x.1.2.2)]) ((none,0,0),[]) (fun k x w'=>(Ext w w'/\w'.heap[bC]? = av.heap[bC]?)/\bs o.c7.enc T.k 2 w.heap.size w' (.slice x.1.1 x.1.2.1 x.1.2.2) x.2/\x.2++o.iW m (m.procs.drop k) k=o.insts m) bz bz ⟨⟨aB,rfl⟩,bs.nil _ _ _ _ _,by simp[o.insts]⟩ ?_;rw[aq];clear aq;rintro k ⟨v,l⟩ S aU hk ⟨⟨aA,aQ⟩,fO,rX⟩;refine aa ?_;apply K.cond<;>intro g1
 .have bp:k<m.procs.length:=by omega
  obtain⟨a,rfl⟩:=ag.addr (by omega);obtain⟨ay,cE,dU,dZ,eT,gS⟩:=ag.at k bp;obtain⟨_,_,rfl,_⟩:=eT.form;obtain⟨_,_,rfl,_⟩:=gS.form;rw[o.VI bp] at rX;have qS:=congrArg List.length rX;simp only[List.length_append] at qS;have uv:=o.CF m m.procs[k];refine ee ?_;simp -dsimp only[cF];refine ee ?_;refine K.hl [1,4] (fun x:gQ=>[(3,.slice x.1 x.2.1 x.2.2)]) (fun x w'=>(Ext w w'/\w'.heap[bC]? = aU.heap[bC]?)/\bs o.c7.enc T.k 2 w.heap.size w' (.slice x.1 x.2.1 x.2.2) (l++o.iw k m.procs[k])) ?_ ?_
  .refine aa ?_;apply K.cond<;>intro g2
   .have bR:o.iw k m.procs[k]=[⟨(k:Int),0⟩]:=by unfold o.iw;rw[if_pos g2]
    rw[bR] at qS ⊢;simp only[List.length_cons,List.length_nil] at qS;refine aa ?_;intro bb b4 fp ax bA;have fP:=fO.ext ax;have nM:=ax.obj aQ;refine aa ?_;refine K.mV (y:=⟨(k:Int),0⟩) fP bA rfl (fun _=>rfl) o.VH (by simp only;omega) (by unfold maxLen;simp only;omega) (aA.trans ax).size fun bm n c bq fr pf=>?_;refine aa ?_;exact⟨(bm,n,c),bz,⟨fP.mq (aA.trans ax) pf (Nat.le_refl _),by rw[aQ];exact fP.box pf nM (by decide)⟩,fr⟩
   .have bR:o.iw k m.procs[k]=[]:=by unfold o.iw;rw[if_neg g2]
    refine aa ?_;exact⟨v,bz,⟨aA,bk⟩,by rw[bR,List.append_nil];exact fO⟩
  rintro v3 S bb ⟨⟨ax,bA⟩,fP⟩;rw[aQ] at bA;clear aQ;refine aa ?_;refine K.w9 [1,4] (fun x:gQ×Nat=>[(3,.slice x.1.1 x.1.2.1 x.1.2.2),(5,.int .i64 ((x.2:Int)+1))]) (v3,0) (fun x w'=>(x.2<=o.elems m m.procs[k]/\Ext w w'/\w'.heap[bC]? = bb.heap[bC]?)/\bs o.c7.enc T.k 2 w.heap.size w' (.slice x.1.1 x.1.2.1 x.1.2.2) (l++o.iw k m.procs[k]++o.iZ k x.2)) (fun x=>4 - x.2) bz ⟨⟨Nat.zero_le _,ax,rfl⟩,by simpa[o.iZ] using fP⟩ ?_;rw[bA];clear bA;rintro⟨v4,j⟩ S bq ⟨⟨aR,aM,bw⟩,fr⟩;refine aa ?_;refine K.gN _ (fun w' e=>ajM _ m m.procs[k] _ _ w' (h.ext (aM.trans e))) ?_;refine aa ?_;intro bT aZ;have cC:=aZ.obj bw;have eC:=fr.ext aZ;refine aa ?_;apply K.cond<;>intro g2
  .have eL:j<o.elems m m.procs[k]:=by omega
   refine aa ?_;intro bV fl gq a8 ct;have dL:=eC.ext a8;have nM:=a8.obj cC;have uq:=(aM.trans aZ).trans a8;refine aa ?_;have jB:(l++o.iw k m.procs[k]++o.iZ k j).length+1<=(o.insts m).length:=by
    simp only[List.length_append,o.iZ,List.length_map,List.length_range] at qS ⊢;omega
   refine K.mV (y:=⟨(k:Int),(j:Int)+1⟩) dL ct rfl (fun _=>rfl) o.VH (Nat.le_trans (Nat.mul_le_mul_right 16 jB) (by omega)) (Nat.le_trans jB (by unfold maxLen;omega)) uq.size fun bm n c cc et j0=>?_;refine aa ?_;exact⟨((bm,n,c),j+1),bz,⟨⟨by show j+1<=_;omega,dL.mq uq j0 (Nat.le_refl _),dL.box j0 nM (by decide)⟩,by rw[o.W3,<-List.append_assoc];exact et⟩,by show 4 - (j+1)<4 - j;omega⟩
  .have kZ:j=o.elems m m.procs[k]:=by simp only at aR;omega
   refine aa ?_;exact⟨bp,bk,(v4,l++(o.iw k m.procs[k]++o.iZ k j)),bz,⟨aM.trans aZ,cC⟩,by rw[<-List.append_assoc];exact eC,by rw[kZ,<-rX];simp⟩
 .rw[List.drop_eq_nil_of_le (by omega)] at rX;refine aa ?_;refine⟨?_,aA⟩;simp only[o.iW,List.append_nil] at rX;rw[<-rX];exact fO
theorem XF(cs:List Value)(m:o.Model)(w:World)(h:o.dY w cs m)(a1:m.cQ)(dg:o.vz m) :
  bu Tryz.prog F.AR #[.agg cs.toArray] w fun v w'=>bs o.Ref.enc T.l 2 w.heap.size w' v (o.refs m)/\Ext w w':=by
 obtain⟨cy,bP,b9,c1,ck,c2,cn,bQ,cB,bX,rfl,ak,h1,U,ag,aJ,eM,ej,ev,ea,ew⟩:=h.form;have j1:=o.u9 dg;refine bL E.AR ?_;refine bG ?_;refine aa ?_;intro av bC cR aB aq;refine aa ?_;refine K.call (Fc _ m av (h.ext aB) a1) ?_;rintro cx aU ⟨ad,aA⟩;have aQ:=aA.obj aq;have kF:lV aU cx (o.insts m):=bs.jI (enc:=o.c7.enc) (fun _=>rfl) ad;obtain⟨cS,ci,rfl,bi⟩:=kF.form;have Ko:=aB.trans aA;refine aa ?_;refine K.dk 5 (o.insts m).length [1,3] (fun x:gQ×List o.Ref=>[(4,.slice x.1.1 x.1.2.1 x.1.2.2)]) ((none,0,0),[]) (fun k x w'=>(Ext aU w'/\bs o.Ref.enc T.l 2 aU.heap.size w' (.slice x.1.1 x.1.2.1 x.1.2.2) x.2)/\x.2++o.oI m ((o.insts m).drop k) k=o.refs m) bz bz ⟨⟨Ext.refl _,bs.nil _ _ _ _ _⟩,by simp[o.refs]⟩ ?_;rintro k ⟨v,l⟩ S bb hk ⟨⟨ax,fP⟩,Ar⟩;have bA:=ax.obj aQ;refine aa ?_;apply K.cond<;>intro g1
 .have bp:k<(o.insts m).length:=by omega
  have D2:=o.r2 (o.insts m)[k] (List.getElem_mem _);obtain⟨ps,wu⟩:=Int.eq_ofNat_of_zero_le D2.bf;have qR:ps<m.procs.length:=by have:=D2.ad;omega
  obtain⟨a,rfl⟩:=ag.addr (by omega);obtain⟨lp,rfl⟩:=kF.addr (by omega);obtain⟨ay,cE,dU,dZ,eT,gS⟩:=ag.at ps qR;obtain⟨_,_,rfl,_⟩:=eT.form;obtain⟨_,_,rfl,lc⟩:=gS.form;have lF:o.q8 m (o.insts m)[k]=m.procs[ps].cH.length:=by
   unfold o.q8;rw[wu,o.iY (by omega) (by omega)];simp
  rw[o.ajW bp,lF] at Ar;have qS:=congrArg List.length Ar;simp only[List.length_append] at qS;refine aa ?_;refine K.dk 6 m.procs[ps].cH.length [1,3,5] (fun x:gQ=>[(4,.slice x.1 x.2.1 x.2.2)]) v (fun j x w'=>Ext aU w'/\bs o.Ref.enc T.l 2 aU.heap.size w' (.slice x.1 x.2.1 x.2.2) (l++o.refsOf k j)) bz bz ⟨ax,by simpa[o.refsOf] using fP⟩ ?_;clear bA;rintro j v4 S bq aR ⟨aM,fr⟩;have bw:=aM.obj aQ;have aoc:=dZ.ext Ko;refine aa ?_;refine K.dD ps wu qR ?_;refine aa ?_;intro bT aZ;have eC:=fr.ext aZ;refine aa ?_;apply K.cond<;>intro g2
  .have eL:j<m.procs[ps].cH.length:=by omega
   refine aa ?_;intro bV fl gq a8 ct;have dL:=eC.ext a8;have uq:=(aM.trans aZ).trans a8;refine aa ?_;have jB:(l++o.refsOf k j).length+1<=4500:=by
    simp only[List.length_append,o.refsOf,List.length_map,List.length_range] at qS ⊢;omega
   refine K.mV (y:=⟨(k:Int),(j:Int)⟩) dL ct rfl (fun _=>rfl) o.ajV (by omega) (by unfold maxLen;omega) uq.size fun bm n c cc et j0=>?_;refine aa ?_;exact⟨eL,bk,(bm,n,c),bz,dL.mq uq j0 (Nat.le_refl _),by rw[o.XJ,<-List.append_assoc];exact et⟩
  .have kZ:j=m.procs[ps].cH.length:=by omega
   refine aa ?_;exact⟨bp,bk,(v4,l++o.refsOf k j),bz,⟨aM.trans aZ,eC⟩,by rw[kZ,<-Ar];simp⟩
 .rw[List.drop_eq_nil_of_le (by omega)] at Ar;refine aa ?_;refine⟨?_,Ko.trans ax⟩;simp only[o.oI,List.append_nil] at Ar;rw[<-Ar];exact fP.low Ko.size
end Go.Proofs.R
end
section
namespace bt
open Go
def ey(n:Int):List Value:=[.int .i64 n]
theorem mm:∀(y:Int),∀u∈ey y,u.oneCell'=true:=by intro y u hu;simp[ey] at hu;subst hu;rfl
instance aox:nB (Flat ey) (fun n=>[Value.int .i64 n]):=⟨fun _ _ _ h=>h⟩
end bt
end
section
namespace Go.Proofs.R
open Go Go.RowKit bt
abbrev encI:Int->List Value:=fun n=>[Value.int .i64 n]
abbrev mf(base:Nat)(w:World)(v:Value)(xs:List Int):Prop:=bs encI T.a 1 base w v xs
structure ry(base b:Nat)(w:World)(m:Value)(st:List Int):Prop where
 ex:∃yX,w.heap[b]? = some (.cells #[yX,m] T.zw)/\mf base w yX st
 lt:b<base
 le:base<=w.heap.size
theorem ry.ext{base b:Nat}{w w':World}{m:Value}{st:List Int}(h:ry base b w m st)(he:Ext w w'):ry base b w' m st :=
 let ⟨yX,h1,U⟩:=h.ex
 ⟨⟨yX,he.obj h1,U.ext he⟩,h.lt,Nat.le_trans h.le he.size⟩
theorem KO(st:List Int)(h:0<st.length):st.getLastD 0=st[st.length - 1]:=by
 rw[List.getLastD_eq_getLast?,List.getLast?_eq_getElem?,List.getElem?_eq_getElem (by omega)];rfl
theorem alD(base b:Nat)(w:World)(m:Value)(st:List Int)(h:ry base b w m st)(ak:0<st.length) :
  bu Tryz.prog F.aW #[.pointer (some ⟨b,0,none⟩)] w fun v w'=>v = .int .i64 (st.getLastD 0)/\Ext w w':=by
 obtain⟨yX,dt,ba⟩:=h.ex;obtain⟨bm,cap,rfl,aw,hm⟩:=ba.form;have ad:Ints w _ st:=bs.py (enc:=encI) (sz:=1) (fun _=>rfl) ba;obtain⟨a,rfl⟩:=ad.addr ak;unfold maxLen at hm;refine bL E.aW ?_;refine bG ?_;refine aP ?_;refine K.dD (st.length - 1) (by omega) (by omega) ?_;refine aP ?_;intro av he;refine aP ?_;rw[KO _ ak];exact cA
theorem ahc(x:o.Node)(cs:List Value)(s:o.Scope)(base b:Nat)(w:World)(m:Value)(st:List Int)(ar:x.ok)(h:o.fE w cs s)(hm:ry base b w m st)(ag:x.op=3->0<st.length) :
  bu Tryz.prog F.el #[.pointer (some ⟨b,0,none⟩),.agg x.enc.toArray,.agg cs.toArray] w fun v w'=>v = .tuple #[.int .i64 (o.iu x s (st.getLastD 0)).1,.int .i64 (o.iu x s (st.getLastD 0)).2]/\Ext w w':=by
 obtain⟨a0,bP,dJ,c1,a2,c2,a3,bQ,a4,bX,rfl,qg,dH,dN,eb,hd,eM,ej,ev,ea,ew⟩:=h.form;refine bL E.el ?_;refine bG ?_;simp -dsimp only[cF];refine pN ?_;refine K.new fun av bC cR aB aq=>?_;refine pN ?_;refine K.new fun aU cp dR aA aQ=>?_;have he:=aB.trans aA;have cX:aU.heap[bC]? = some (.cells #[.int .i64 x.op,.int .i64 x.n] T.f):=aA.obj aq;clear aq;refine pN ?_;simp -dsimp only[cF];refine pN ?_;refine K.cut (fun bh w'=>bh 0 = .pointer (some ⟨b,0,none⟩)/\bh 4 = .pointer (some ⟨bC,0,none⟩)/\bh 5 = .pointer (some ⟨cp,0,none⟩)/\w'=aU/\(x.op=2\/x.op=3\/x.op=4) /\
  bh 8=if x.op=4 then .slice a4 s.locals.length bX else .slice dJ s.vars.length c1) ?_ ?_
 .refine aP ?_;apply K.cond<;>intro g1
  .refine aP ?_;refine K.call (RO x.n 0 aU) ?_;rintro _ bb ⟨rfl,ax⟩;have hk:o.iu x s (st.getLastD 0)=if o.within x.n then (0,0) else (0,10):=by rw[o.iu,if_pos g1]
   have aO:(o.tell (· + ·) x.n 0).2=o.within x.n:=by
    unfold o.tell
    have:o.within 0=true:=rfl
    simp only[Int.add_zero,this,Bool.and_true,Bool.and_self];split<;>simp_all
   rw[hk,aO];refine aP ?_;refine K.dp (fun g2=>?_) (fun g2=>?_)
   all_goals
    refine aP ?_;rw[g2];exact cA
  refine aP ?_;apply K.cond<;>intro g4
  .refine aP ?_;refine⟨trivial,trivial,trivial,trivial,.inr (.inr g4),by rw[if_pos g4]⟩
  refine aP ?_;apply K.cond<;>intro g2
  .refine aP ?_;refine⟨trivial,trivial,trivial,trivial,.inl g2,by rw[if_neg g4]⟩
  refine aP ?_;apply K.cond<;>intro g3
  .refine aP ?_;refine⟨trivial,trivial,trivial,trivial,.inr (.inl g3),by rw[if_neg g4]⟩
  refine aP ?_;refine K.gV (c:=[_,_]) cX (Ext.refl _) rfl ?_;refine aP ?_;refine K.gV (c:=[_,_,_,_,_,_]) aQ (Ext.refl _) rfl ?_;refine aP ?_;refine K.call (ahd x _ s aU ar (h.ext he)) ?_;rintro _ bb ⟨rfl,ax⟩;refine aP ?_;have hk:o.iu x s (st.getLastD 0)=o.lN x s:=by rw[o.iu,if_neg g1,if_neg (by omega)]
  rw[hk];exact cA
 .rintro S w' cq ⟨jn,oK,nV,rfl,k1,X9⟩;have hk:o.iu x s (st.getLastD 0)=(let q:=o.fQ (if x.op=4 then s.locals else s.vars) x.n s;if q.2.2=false then (0,8) else if (x.op=3/\(q.2.1=0\/st.getLastD 0≠q.2.1))\/(x.op≠3/\q.2.1≠0) then (0,9) else (q.1,0)):=by
   rw[o.iu,if_neg (by omega),if_pos k1]
  rw[hk];clear hk;have aT:o.hi w' (S 8) (if x.op=4 then s.locals else s.vars):=by
   rw[X9];split
   .exact hd.ext he
   .exact dH.ext he
  generalize (if x.op=4 then s.locals else s.vars)=l at aT ⊢;obtain⟨Ov,eg⟩:∃Ov,S 8=Ov:=⟨_,rfl⟩;rw[eg] at aT;clear X9;refine dn (i_ jn (i_ oK (i_ nV eg))) ?_;refine K.gV (c:=[_,_,_,_,_,_]) aQ (Ext.refl _) rfl ?_;refine dn (i_ jn (i_ oK nV)) ?_;refine K.call (alZ _ l x.n _ s w' aT (h.ext he)) ?_;rintro _ bb ⟨rfl,ax⟩;generalize o.fQ l x.n s=q;obtain⟨wW,yR,Ny⟩:=q;refine dn (i_ jn (i_ oK nV)) ?_;refine K.dp (fun g1=>?_) (fun g1=>?_);rotate_left
  .refine aP ?_;simp only[g1,if_true];exact cA
  have m3:=(hm.ext he).ext ax;refine dn (i_ jn (i_ oK nV)) ?_;apply K.cond<;>intro g2
  .refine dn (i_ jn (i_ oK nV)) ?_;apply K.cond<;>intro g3
   .refine dn (i_ jn (i_ oK nV)) ?_;simp only[g1,Bool.true_eq_false,if_false];rw[if_pos (.inl ⟨g2,.inl g3⟩)];exact cA
   refine dn (i_ jn (i_ oK nV)) ?_;refine K.call (alD base b bb m st m3 (ag g2)) ?_;rintro _ bq ⟨rfl,aM⟩;refine dn (i_ jn (i_ oK nV)) ?_;apply K.cond<;>intro g4
   .refine dn (i_ jn (i_ oK nV)) ?_;simp only[g1,Bool.true_eq_false,if_false];rw[if_neg (by omega)];exact cA
   .refine aP ?_;simp only[g1,Bool.true_eq_false,if_false];rw[if_pos (.inl ⟨g2,.inr g4⟩)];exact cA
  .refine dn (i_ jn (i_ oK nV)) ?_;apply K.cond<;>intro g4
   all_goals
    refine aP ?_;simp only[g1,Bool.true_eq_false,if_false]
   .rw[if_neg (by omega)];exact cA
   .rw[if_pos (.inr ⟨g2,g4⟩)];exact cA
end Go.Proofs.R
end
section
namespace Go.Proofs.R
open Go Go.RowKit bt
theorem K.NA{P:Program}{x:Value}{args:List Value}{w:World}{aI:Value->Prop}{t}(v:Value)(h:∀w',Ext w w'->vt P x args w' (fun u b1=>u=v/\Ext w' b1) ⟨⟩)(hk:aI v):BZ P x args w aI t:=by
 unfold BZ;refine⟨v,fun w' he=>?_,hk⟩
 have:=h w' he
 unfold vt at this;obtain⟨f,first,cap,e,aK,a6⟩:=this;exact⟨f,first,cap,e,aK,a6.mono fun _ _ ⟨h1,U⟩=>⟨h1,he.trans U⟩⟩
theorem zd.ext{w w':World}{v:Value}{g:Int->Int->Int×Bool}(he:Ext w w')(h:zd w v g):zd w' v g:=by
 rcases h with h | ⟨c,f,p,h1,U,ag⟩
 .exact .inl h
 .exact .inr ⟨c,f,p,h1,he.obj U,ag⟩
def Od(f:o.Node->List Int->Int×Int)(two:o.pH->List Int->Int×Int)(leaf:o.Node->List Int->Int×Int):Prop :=
 ∀x st,f x st=match o.gE x.op with | some al=>two al (st.drop (st.length - al.parts.toNat)) | none=>leaf x st
theorem WV{x:Int}{al:o.pH}(h:o.gE x=some al):1<=al.parts/\al.parts<=2:=by
 unfold o.gE at h
 repeat' split at h
 all_goals first | (cases h;exact⟨by decide,by decide⟩) | cases h
theorem alo(f:o.Node->List Int->Int×Int)(two:o.pH->List Int->Int×Int)(leaf:o.Node->List Int->Int×Int)(aK:Od f two leaf)
  (x:o.Node)(base b:Nat)(w:World)(m mc v2:Value)(st:List Int)(hm:ry base b w m st)(ba:pI w m)(uf:st.length<=24)
  (LW:0<=o.eV x.op->o.eV x.op<=st.length->o.gE x.op=none->∀w' c9 t,Ext w w'->(∀b1,Ext w' b1->c9 (.tuple #[.int .i64 (leaf x st).1,.int .i64 (leaf x st).2]) b1)->xd Tryz.prog mc [.agg x.enc.toArray] w' c9 t)
  (Mm:∀al e3 gi w' c9 t,Ext w w'->o.gE x.op=some al->BW w' al e3->al.parts<=st.length->Ints w' gi (st.drop (st.length - al.parts.toNat)) ->
   (∀b1,Ext w' b1->c9 (.tuple #[.int .i64 (two al (st.drop (st.length - al.parts.toNat))).1,.int .i64 (two al (st.drop (st.length - al.parts.toNat))).2]) b1)->vt Tryz.prog v2 [e3,gi] w' c9 t) :
  bu Tryz.prog F.sM #[.pointer (some ⟨b,0,none⟩),.agg x.enc.toArray,mc,v2] w fun v w' =>
   v = .int .i64 (o.stepG f x st).1/\Mod (fun k=>k=b\/base<=k) w w'/\((o.stepG f x st).1=0->ry base b w' m (o.stepG f x st).2):=by
 obtain⟨yX,dt,gr⟩:=hm.ex;obtain⟨bm,cap,rfl,Dp,iq⟩:=gr.form;have ad:Ints w _ st:=bs.py (enc:=encI) (sz:=1) (fun _=>rfl) gr;unfold maxLen at iq;refine bL E.sM ?_;refine bG ?_;simp -dsimp only[cF];refine pN ?_;refine K.new fun av bC cR aB aq=>?_;refine pN ?_;simp -dsimp only[cF];refine pN ?_;refine K.gN _ (fun w' e=>aiZ x.op m w' (ba.ext (aB.trans e))) ?_;refine pN ?_;intro aU aA;have fv:=aB.trans aA;refine pN ?_;simp -dsimp only[cF];generalize aE:o.eV x.op=n;have ir : -1<=n/\n<=2:=by rw[<-aE];unfold o.eV; (repeat' split)<;>omega
 refine aP ?_;apply K.cond<;>intro g1
 .refine aP ?_;have ay:o.stepG f x st=(3,st):=by unfold o.stepG;rw[aE,if_pos g1]
  rw[ay];exact⟨rfl,fv.mod,fun h=>by cases h⟩
 refine aP ?_;apply K.cond<;>intro g2
 .refine aP ?_;have ay:o.stepG f x st=(4,st):=by unfold o.stepG;rw[aE,if_neg g1,if_pos g2]
  rw[ay];exact⟨rfl,fv.mod,fun h=>by cases h⟩
 refine pN ?_;simp -dsimp only[cF];refine pN ?_;simp -dsimp only[cF];refine pN ?_;have eA:o.stepG f x st=if (f x st).2≠0 then ((f x st).2,st) else if (st.take (st.length - n.toNat)++[(f x st).1]).length > 12 then (12,st) else (0,st.take (st.length - n.toNat)++[(f x st).1]):=by
  unfold o.stepG;rw[aE,if_neg g1,if_neg g2]
 rw[eA];clear eA;have wk:=aK x st;generalize a6:f x st=r at wk ⊢;refine K.cut (fun bh w'=>bh 0 = .pointer (some ⟨b,0,none⟩)/\bh 9 = .int .i64 n/\bh 10 = .int .i64 r.1/\bh 11 = .int .i64 r.2/\Ext w w') ?_ ?_
 .refine aP ?_;intro bb ax;obtain⟨es,q,ni,pr,uN⟩:=(ba.ext (fv.trans ax)).look x.op;refine aP ?_;refine K.mE ni pr ?_;cases k1:o.gE x.op with
  | none =>
   simp only[k1] at uN wk;subst uN;simp only[l9,Option.map_none,Option.getD_none,Option.isSome_none,if_true];refine aP ?_;refine K.new fun bq cN fN aM bw=>?_;refine⟨aM,?_⟩;refine aP ?_;refine K.jJ (cs:=#[.int .i64 0,.int .i64 0,.int .i64 0,.nilFunc]) bw rfl rfl (by simp[Value.oneCell']) fun bT e0 cC=>?_;have aZ:Ext bb bT:=e0.ext aM fN;clear bw e0 aM;refine aP ?_;refine K.gV (c:=[_,_]) (aA.obj aq) (fL) rfl ?_;refine aP ?_;refine LW (by omega) (by omega) k1 _ _ _ ((fv.trans ax).trans aZ) fun bV a8=>?_;refine aP ?_;rw[wk];exact⟨trivial,trivial,rfl,rfl,((fv.trans ax).trans aZ).trans a8⟩
  | some al =>
   simp only[k1] at uN wk;obtain⟨i,e3,rfl,u,rfl,bx⟩:=uN;obtain⟨b9,ck⟩:=WV k1;have on:=(o.EZ k1).1;simp only[l9,Option.map_some,Option.getD_some,Option.isSome_some,if_true];refine aP ?_;refine K.new fun bq cN fN aM bw=>?_;refine⟨aM,?_⟩;refine aP ?_;refine K.jJ (cs:=#[.int .i64 al.parts,.int .i64 al.jb,.int .i64 al.makes,u]) bw rfl rfl (by rcases bx with ⟨f,rfl,_⟩ | ⟨c,f,p,rfl,_⟩<;>simp[Value.oneCell']) fun bT e0 cC=>?_;have aZ:Ext bb bT:=e0.ext aM fN;clear bw e0 aM;have LB:=(fv.trans ax).trans aZ;have anW:BW bb al (.agg #[.int .i64 al.parts,.int .i64 al.jb,.int .i64 al.makes,u]):=⟨u,rfl,bx⟩;obtain⟨p,rfl⟩:=Int.eq_ofNat_of_zero_le (show 0<=n by omega);have aN:al.parts.toNat=p:=by omega
   refine aP ?_;refine K.gV (c:=[_,_,_,_]) cC (Ext.refl _) rfl ?_;refine aP ?_;refine K.akS (st.length - p) (by simp -dsimp only[c4,cF,Nat.reduceAdd,Nat.reduceEqDiff,reduceIte,reduceCtorEq,db];rw[Int.ofNat_sub (by omega)]) ⟨by omega,by omega⟩ ?_;have aO:=ad.tail (st.length - p) (by omega);rw[aN] at wk;refine aP ?_;refine K.NA _ (fun w' e=>Mm al _ _ w' _ _ (LB.trans e) k1 ⟨u,rfl,bx.ext (aZ.trans e)⟩ (by omega) (by rw[aN];exact aO.ext Flat.ext (LB.trans e)) fun b1 aW=>⟨rfl,aW⟩) ?_;refine aP ?_;intro bV a8;refine aP ?_;rw[wk,aN];exact⟨trivial,trivial,rfl,rfl,LB.trans a8⟩
 .clear aq aB aA fv;rintro S bb cq ⟨jn,Fk,Fj,Bp,ax⟩;simp -dsimp only[cF];refine dn (i_ jn (i_ Fk (i_ Fj Bp))) ?_;apply K.cond<;>intro g3;rotate_left
  .refine dn Bp ?_;rw[if_pos g3];exact⟨rfl,ax.mod,fun h=>absurd h g3⟩
  obtain⟨p,rfl⟩:=Int.eq_ofNat_of_zero_le (show 0<=n by omega);have pZ:¬r.2≠0:=by simpa using g3
  rw[if_neg pZ];have iq:(st.take (st.length - p)++[r.1]).length=st.length - p+1:=by simp[List.length_take]
  have im:=hm.ext ax;have fP:mf base bb (.slice bm st.length cap) st:=gr.ext ax;refine pN ?_;simp -dsimp only[cF];refine dn (i_ jn (i_ Fk (i_ Fj Bp))) ?_;intro bq aM;have fr:mf base bq (.slice bm st.length cap) st:=fP.ext aM;refine dn (i_ jn (i_ Fk (i_ Fj Bp))) ?_;refine K.tt (st.length - p) (by simp -dsimp only[c4,cF,Nat.reduceAdd,Nat.reduceEqDiff,reduceIte,reduceCtorEq,db];rw[Int.ofNat_sub (by omega)]) (by omega) ?_;refine dn (i_ jn (i_ Fk (i_ Fj Bp))) ?_;refine K.lv (cs:=[r.1].flatMap encI) (by simp[List.range,List.range.loop,eP,lay,fu,cu,Value.cells,encI]) fun bT dO kX aZ cC=>?_;refine⟨aZ,?_⟩;refine aP ?_;have eC:mf base bT (.slice bm (st.length - p) cap) (st.take (st.length - p)):=bs.head (enc:=encI) (sz:=1) (xs:=st) (fun _=>rfl) (bs.ext aZ fr) (st.length - p) (Nat.sub_le _ _);have cv:(st.take (st.length - p)).length=st.length - p:=by simp[List.length_take]
  have Be:((st.take (st.length - p)).length+[r.1].length)*8<=140737488355328:=by rw[cv];simp only[List.length_cons,List.length_nil];omega
  have ajm:(st.take (st.length - p)).length+[r.1].length<=maxLen:=by rw[cv];simp only[List.length_cons,List.length_nil,maxLen];omega
  have dH:∀y,∀u∈encI y,u.oneCell'=true:=fun y u h=>by simp[encI] at h;subst h;rfl
  refine K.sB (xs:=st.take (st.length - p)) (ys:=[r.1]) eC (fun _=>rfl) (hj cC) rfl dH Be ajm (by have:=hm.le;have:=ax.size;have:=aM.size;have:=aZ.size;omega) fun v6 bV dL jZ=>?_;have Dh:bT.heap[b]? = some (.cells #[.slice bm st.length cap,m] T.zw):=aZ.obj (aM.obj (ax.obj dt));have gq:bV.heap[b]? = some (.cells #[.slice bm st.length cap,m] T.zw):=by
   refine(jZ.block b (cG Dh) fun e=>?_).trans Dh
   have:=(eC.lt b e.symm).1
   have:=hm.lt
   omega
  refine aP ?_;refine K.st1 gq (by simp) (by obtain⟨bm,cap,e,_⟩:=dL.form;rw[e];rfl) fun cc dx cU=>?_;have uC:Mod (fun k=>k=b\/base<=k) w cc :=
   (((ax.trans aM).trans aZ).mod.trans (Mod.grown jZ fun k hk=>.inr (eC.lt k hk).1)).trans (dx.mod (.inl rfl))
  have oy:ry base b cc m (st.take (st.length - p)++[r.1]) :=
   ⟨⟨v6,cU,dL.wr dx hm.lt⟩,hm.lt,Nat.le_trans hm.le uC.size⟩
  obtain⟨wS,amY,rfl,ct,_⟩:=dL.form;rw[iq];have an8:((st.take (st.length - p)++[r.1]).length:Int)=st.length - p+1:=by rw[iq];omega
  refine dn (i_ jn (i_ Fk (i_ Fj Bp))) ?_;apply K.cond<;>intro g4
  .refine aP ?_;simp only[Int.toNat_natCast,iq];rw[if_pos (by omega)];exact⟨rfl,uC,fun h=>by cases h⟩
  .refine aP ?_;simp only[Int.toNat_natCast,iq];rw[if_neg (by omega)];exact⟨rfl,uC,fun _=>oy⟩
end Go.Proofs.R
end