/- Parts. -/
import Derived.Test.YtfdohkdifdemeaaGreatDoorQdui
import Derived.RangeFuncWrites
set_option linter.all false
set_option maxRecDepth 100000
set_option maxHeartbeats 4000000
section
namespace bt
open Go Go.RowKit
inductive ry where
 | sd (g:Operand) (p:Nat) (a b:fa)
 | se (x:ry) (y:fa)
 | h5 (x:fa) (y:ry)
 | aV (id:Nat) (x:ry)
def l9(P:Program)(n:Nat):Code->Option ry
 | .rangeFunc g dy a b=>match dy.toList,comp P n a,comp P n b with
  | [p],some oC,some ha=>if p<n then some (.sd g p oC ha) else none
  | _,_,_=>none
 | .seq x y=>match comp P n x with
  | some wH=>(l9 P n y).map (.h5 wH)
  | none=>match l9 P n x,comp P n y with
   | some rx,some uS=>some (.se rx uS)
   | _,_=>none
 | .block id x=>(l9 P n x).map (.aV id)
 | _=>none
structure xl where
 n:Nat
 res:List l3
 code:ry
def xJ(P:Program)(f:FuncId):Option xl :=
 match P.funcs[f]? with
 | some fn=>match fn.body with
  | some c=>match l9 P fn.ntmps c,vK P fn.results.toList with
   | some lc,some r=>some ⟨fn.ntmps,r,lc⟩
   | _,_=>none
  | none=>none
 | none=>none
structure BJ(hG:World->World->Prop)(B:Nat):Prop where
 trans:∀{a b c:World},hG a b->hG b c->hG a c
 put:∀(W:World) (l:Nat) (al o':Obj),B<=l->W.heap[l]? = some al->al.isCells=false->hG W (W.putObj l o')
def lM(hb:Nat)(cJ:List TypeId)(W b7:World):Prop:=Below hb W b7/\∀(k:Nat) (c:Array Value) (t:TypeId) (f:Nat×Nat),W.heap[k]? = some (.cells c t f)->t∈cJ->b7.heap[k]? = W.heap[k]?
theorem lM.ok{hb B:Nat}(cJ:List TypeId)(h:hb<=B):BJ (lM hb cJ) B where
 trans h k:=⟨h.1.trans k.1,fun i c t f ad aL=>by rw[<-h.2 i c t f ad aL];exact k.2 i c t f ((h.2 i c t f ad aL).trans ad) aL⟩
 put W l al o' aS bc aw:=⟨(Below.refl hb W).grown (grownBy_putObj' W l o') (by have:=(Array.getElem?_eq_some_iff.1 bc).1;omega) (fun k e=>by cases e;omega),fun k c t f hk _=>by
  have c5:l≠k:=fun e=>by subst e;rw[bc] at hk;injection hk with hk;subst hk;cases aw
  exact World.putObj_heap_other (Ne.symm c5)⟩
theorem Ext.hB{hb:Nat}{cJ:List TypeId}{W b7:World}(h:Ext W b7)(aD:hb<=W.heap.size):lM hb cJ W b7:=⟨Below.mono h aD,fun k c t f hk _=>h.heap (cH hk)⟩
def akd{α:Type}(hG:World->World->Prop)(B:Nat)(eu:List α->World->Prop)(py:eb->List α->World->Prop)(xs:List α)(W:World):eb->Fr->World->Prop
 | .normal,_,b7=>KeepsFrom B W b7/\hG W b7/\eu xs b7
 | .fS _,_,_=>False
 | e,_,b7=>KeepsFrom B W b7/\py e xs b7
def sm(B:Nat)(W b7:World):Prop := ∃l,B<=l/\(∃al,W.heap[l]? = some al/\al.isCells=false)/\W.grownBy b7 (some l)
def ZC(P:Program)(g:Value)(p:Nat)(a b:fa)(Q:Nat->eb->Fr->World->Prop)(S:Fr)(w:World):Prop :=
 ∃(α:Type) (enc:α->Value) (jR:Nat) (ha:Array Value) (hG:World->World->Prop) (mK oU:List α->Prop) (N:Nat) (w0:World),g = .func (.func jR) #[] ha/\okF P jR=true/\SeqStopsK Fence.wide 0 P jR ha (fun x=>#[enc x]) hG mK oU N w0/\Ext w0 w/\BJ hG w.heap.size /\
 ∃(eu:List α->World->Prop) (py:eb->List α->World->Prop),OwnFrom w.heap.size eu/\(∀e,OwnFrom w.heap.size (py e))/\eu [] w /\
  (∀pre x W,eu pre W->pre.length<N->dT P a (tr (fun sn hV=>KeepsFrom w.heap.size W hV/\hG W hV/\∀eK,sm w.heap.size hV eK->dT P b (akd hG w.heap.size eu py (pre++[x]) eK) sn eK) (fun _ _ _=>False)) (cq S p (enc x)) W) /\
  (∀D xs W,w.heap.size<=D->mK xs->eu xs W->W.heap[D]? = some (.deferred (some []))->Q D .normal S W) /\
  (∀D e pre W,e≠.normal->w.heap.size<=D->oU pre->py e pre W->W.heap[D]? = some (.deferred (some []))->Q D e S W)
theorem akf{α:Type}{enc:α->Value}{P:Program}{g:Operand}{p:Nat}{xw body:Code}{Q:Exit->Act->World->Prop}{a:Act}{w w0:World}{jR:Nat}{ha:Array Value}{hG:World->World->Prop}{N:Nat}{mK oU:List α->Prop}
  (aZ:a.eval g = .func (.func jR) #[] ha)(dt:okF P jR=true)(rQ:SeqStopsK Fence.wide 0 P jR ha (fun x=>#[enc x]) hG mK oU N w0)(he:Ext w0 w)(rL:BJ hG w.heap.size)
  (eu:List α->World->Prop)(py:Code->List α->World->Prop)(bB:OwnFrom w.heap.size eu)(vW:∀c,OwnFrom w.heap.size (py c))(ak:eu [] w)
  (DJ:∀l pre x W,eu pre W->pre.length<N->xw.wpIn (mE (some l)) 1 P (Exit.then (fun dD hV=>KeepsFrom w.heap.size W hV/\hG W hV /\
   ∀eK,sm w.heap.size hV eK->body.wpIn (mE (some l)) 1 P (ownPostG w.heap.size hG eu py (pre++[x]) eK) dD eK) (fun _ _ _=>False)) { tmps:=a.tmps.setIfInBounds p (enc x),defers:=[] } W)
  (x8:∀D xs W,w.heap.size<=D->mK xs->eu xs W->W.heap[D]? = some (.deferred (some []))->Q .normal { a with defers:={ target:=.collected D,args:=#[] } :: a.defers } W)
  (HN:∀D c pre W,w.heap.size<=D->oU pre->py c pre W->W.heap[D]? = some (.deferred (some []))->c.wpIn Fence.wide 3 P Q { a with defers:={ target:=.collected D,args:=#[] } :: a.defers } W) :
  (Code.rangeFunc g #[p] xw body).wpIn Fence.wide 3 P Q a w:=by
 refine wpIn_rangeFunc fun fn kg=>?_;obtain⟨nh,sW⟩:∃nh:LoopState->Option Code->Loop,nh=fun st Nb=>{ state:=st,pending:=Nb,fn,tmps:=a.tmps,params:=#[p],assign:=xw,body,defers:=w.heap.size }:=⟨_,rfl⟩;obtain⟨av,na⟩:∃av,(w.alloc (.deferred (some []))).alloc (.loop (nh .ready none))=av:=⟨_,rfl⟩;have HX:av.heap.size=w.heap.size+2:=by rw[<-na];simp
 have kj:av.heap[w.heap.size+1]? = some (.loop (nh .ready none)):=by
  rw[<-na]
  have:=World.alloc_heap_new (w.alloc (.deferred (some []))) (.loop (nh .ready none))
  rwa[World.size_alloc] at this
 have x7:av.heap[w.heap.size]? = some (.deferred (some [])):=by rw[<-na];exact(Below.heap_alloc _ _ _ (by simp)).trans (World.alloc_heap_new w _)
 have Hz:eu [] av:=by rw[<-na];exact bB.alloc _ (bB.alloc _ ak)
 have cR:Below w0.heap.size w0 av:=by rw[<-na];exact(he.alloc _).alloc _
 have low:∀{A B:World} {row:Option Nat},(∀r,row=some r->av.heap.size<=r/\∃al:Obj,A.heap[r]? = some al/\al.isWalk=true)->(∀r,row=some r->w.heap.size<=r/\∃al:Obj,A.heap[r]? = some al/\al.isCells=false) :=
  fun ba r e=>by obtain⟨U,al,bc,hw⟩:=ba r e;exact⟨by omega,al,bc,Obj.not_cells_of_walk hw⟩
 refine⟨w.heap.size+1,[{ target:=.collected w.heap.size,args:=#[] }],av,{ target:=.fn (.func jR) ha,args:=#[.func (.yield (w.heap.size+1)) #[] #[]] },av,jR,
  #[.func (.yield (w.heap.size+1)) #[] #[]]++ha,av,?_,?_,fun _ _=>trivial,?_,fun _=>by decide,?_⟩
 .rw[<-na,sW];exact run_enterLoop_outer _ _ _ _ _
 .simp only[resolve,aZ];simp[go_sem]
 .simp[invoke,go_sem,E7 dt]
 refine CallsIn.mono (JV (r:=none) (callsIn_wide.1 (rQ (w.heap.size+1)
  (fun pre W=>eu pre W/\W.heap[w.heap.size+1]? = some (.loop (nh .ready none))/\W.heap[w.heap.size]? = some (.deferred (some [])))
  (fun pre W => ∃c,py c pre W/\W.heap[w.heap.size+1]? = some (.loop (nh .done (some c)))/\W.heap[w.heap.size]? = some (.deferred (some [])))
  av cR ?_ ?_ ?_ ⟨Hz,kj,x7⟩))) ?_
 .exact fun s A B row ay pZ ba=>⟨bB s A B row ay.1 pZ (low (B:=B) ba),(grownBy_keeps pZ (fun r e=>(ba r e).2) ay.2.1 rfl).trans ay.2.1,(grownBy_keeps pZ (fun r e=>(ba r e).2) ay.2.2 rfl).trans ay.2.2⟩
 .intro s A B row ay pZ ba;obtain⟨c,aw,U,ag⟩:=ay;exact⟨c,vW c s A B row aw pZ (low (B:=B) ba),(grownBy_keeps pZ (fun r e=>(ba r e).2) U rfl).trans U,(grownBy_keeps pZ (fun r e=>(ba r e).2) ag rfl).trans ag⟩
 .rintro pre x W ⟨ad,U,ag⟩ hlen;have b8:=run_yield (P:=P) (args:=#[enc x]) U (by rw[sW];rfl);rw[sW] at b8;refine⟨fn,_,xw,body,b8,XN (r:=none) (m:=0 - 1) ?_⟩;refine(roundIn_of_wpIn (F:=Fence.wide) (n:=1) (l:=w.heap.size+1) kg ?_) |> fun h=>⟨trivial,fun c cs _=>h.2 c cs (room_wide _)⟩
  have bQ:(#[p]:Array Tmp).zip #[enc x]=#[(p,enc x)]:=by apply Array.ext';simp[Array.toList_zip]
  have ad8:=DJ (w.heap.size+1) pre x W ad hlen;simp only[bQ];refine wpIn_mono ad8 fun e dD hV h=>?_;cases e with
  | normal =>
   obtain⟨dc,dd,gv⟩:=h;have fA:=dc.same _ _ (by omega) U rfl;have d1:=dc.same _ _ (Nat.le_refl _) ag rfl;refine⟨_,run_beginRound fA (by rw[sW]),?_⟩;have cw:=(Array.getElem?_eq_some_iff.1 fA).1;have gd:(hV.putObj (w.heap.size+1) (.loop { nh .ready none with state:=.busy })).heap[w.heap.size+1]? = some (.loop { nh .ready none with state:=.busy }):=World.putObj_heap_same cw;have d2:(hV.putObj (w.heap.size+1) (.loop { nh .ready none with state:=.busy })).heap[w.heap.size]? = some (.deferred (some [])):=(World.putObj_heap_other (by omega)).trans d1;have cr:hG hV (hV.putObj (w.heap.size+1) (.loop { nh .ready none with state:=.busy })):=rL.put _ _ _ _ (by omega) fA rfl;refine wpIn_mono (gv _ ⟨_,by omega,⟨_,fA,rfl⟩,grownBy_putObj' _ _ _⟩) fun e a3 mN aO=>?_;have fin:∀(jump:Option Code),KeepsFrom w.heap.size (hV.putObj (w.heap.size+1) (.loop { nh .ready none with state:=.busy })) mN ->
     (Instr.endRound (w.heap.size+1) jump).run P mN = .ok (.bool jump.isNone) (mN.putObj (w.heap.size+1) (.loop (nh (if jump.isNone then .ready else .done) jump))) /\
     mN.heap[w.heap.size+1]? = some (.loop { nh .ready none with state:=.busy }) /\
     (mN.putObj (w.heap.size+1) (.loop (nh (if jump.isNone then .ready else .done) jump))).heap[w.heap.size+1]? = some (.loop (nh (if jump.isNone then .ready else .done) jump)) /\
     (mN.putObj (w.heap.size+1) (.loop (nh (if jump.isNone then .ready else .done) jump))).heap[w.heap.size]? = some (.deferred (some [])):=fun jump iH=>by
    have ir:=iH.same _ _ (by omega) gd rfl
    have:=run_endRound (P:=P) jump ir
    rw[sW] at this ⊢;exact⟨this,by rw[sW] at ir;exact ir,World.putObj_heap_same (Array.getElem?_eq_some_iff.1 ir).1,(World.putObj_heap_other (by omega)).trans (iH.same _ _ (Nat.le_refl _) d2 rfl)⟩
   cases e with
   | normal =>
    obtain⟨dH,dM,eh⟩:=aO;obtain⟨f1,f2,f3,f4⟩:=fin none dH;exact⟨_,_,f1,.inl ⟨rfl,⟨bB.putObj _ eh (by omega) f2 rfl,f3,f4⟩,rL.trans (rL.trans (rL.trans dd cr) dM) (rL.put _ _ _ _ (by omega) f2 rfl)⟩⟩
   | ret =>
    obtain⟨dH,eh⟩:=aO;obtain⟨f1,f2,f3,f4⟩:=fin (some .ret) dH;exact⟨_,_,f1,.inr ⟨rfl,.ret,(vW _).putObj _ eh (by omega) f2 rfl,f3,f4⟩⟩
   | exit id =>
    obtain⟨dH,eh⟩:=aO;obtain⟨f1,f2,f3,f4⟩:=fin (some (.exit id)) dH;exact⟨_,_,f1,.inr ⟨rfl,.exit id,(vW _).putObj _ eh (by omega) f2 rfl,f3,f4⟩⟩
   | goto t =>
    obtain⟨dH,eh⟩:=aO;obtain⟨f1,f2,f3,f4⟩:=fin (some (.goto t)) dH;exact⟨_,_,f1,.inr ⟨rfl,.goto t,(vW _).putObj _ eh (by omega) f2 rfl,f3,f4⟩⟩
   | _=>exact aO.elim
  | _=>exact h.elim
 .rintro e eK ⟨⟨v,rfl⟩,(⟨xs,cg,ad,U,ag⟩ | ⟨pre,adY,c,ad,U,ag⟩)⟩
  .exact⟨none,_,by have:=run_endLoop (P:=P) U (by rw[sW];simp);rw[sW] at this;exact this,x8 _ xs _ (Nat.le_refl _) cg (bB.putObj _ ad (by omega) U rfl) ((World.putObj_heap_other (by omega)).trans ag)⟩
  .exact⟨some c,_,by have:=run_endLoop (P:=P) U (by rw[sW];simp);rw[sW] at this;exact this,HN _ c pre _ (Nat.le_refl _) adY ((vW c).putObj _ ad (by omega) U rfl) ((World.putObj_heap_other (by omega)).trans ag)⟩
def nk(P:Program):ry->(Option Nat->eb->Fr->World->Prop)->Fr->World->Prop
 | .sd g p a b,Q,S,w=>ZC P (bn S g) p a b (fun D=>Q (some D)) S w
 | .se x y,Q,S,w=>nk P x (fun al=>tr (fun S w=>dT P y (Q al) S w) (Q al)) S w
 | .h5 x y,Q,S,w=>dT P x (tr (fun S w=>nk P y Q S w) (Q none)) S w
 | .aV id x,Q,S,w=>nk P x (fun al=>zx id (Q al)) S w
def marks:Option Nat->List Deferred
 | none=>[]
 | some D=>[{ target:=.collected D,args:=#[] }]
def Wu(n:Nat)(Q:Option Nat->eb->Fr->World->Prop):Exit->Act->World->Prop
 | .normal,a,w => ∃al S,Fits (marks al) a S n/\Q al .normal S w
 | .exit i,a,w => ∃al S,Fits (marks al) a S n/\Q al (.exit i) S w
 | .ret,a,w => ∃al S,Fits (marks al) a S n/\Q al .ret S w
 | .panic c,a,w => ∃al S,Fits (marks al) a S n/\Q al (.fS c) S w
 | _,_,_=>False
theorem ahG{n:Nat}{Q:Option Nat->eb->Fr->World->Prop}{al:Option Nat}{e:Exit}{a:Act}{w:World}(h:Ie (marks al) n (Q al) e a w):Wu n Q e a w:=by
 cases e with
 | normal=>obtain⟨S,h1,U⟩:=h;exact⟨al,S,h1,U⟩
 | exit i=>obtain⟨S,h1,U⟩:=h;exact⟨al,S,h1,U⟩
 | ret=>obtain⟨S,h1,U⟩:=h;exact⟨al,S,h1,U⟩
 | panic c=>obtain⟨S,h1,U⟩:=h;exact⟨al,S,h1,U⟩
 | _=>exact h.elim
theorem IG{P:Program}(hm:P.follows .mixedOrders=true){n:Nat}:∀(c:Code) (rc:ry),l9 P n c=some rc->∀(Q:Option Nat->eb->Fr->World->Prop) (a:Act) (S:Fr) (w:World),Fits [] a S n->nk P rc Q S w->c.wpIn Fence.wide 3 P (Wu n Q) a w
 | .rangeFunc g dy xw b,rc,h,Q,a,S,w,aK,aT=>by
  simp only[l9] at h;split at h
  .rename_i p oC ha wm bo aC;split at h
   .rename_i aO;injection h with h;subst h
    obtain⟨α,enc,jR,apa,hG,mK,oU,N,w0,aZ,dt,rQ,he,rL,eu,py,bB,vW,ak,aeg,x8,HN⟩:=aT;have afR:dy=#[p]:=by rw[<-Array.toArray_toList (xs:=dy),wm]
    subst afR;refine akf (by rw[aK.eval];exact aZ) dt rQ he rL eu (fun c=>match c with | .ret=>py .ret | .exit id=>py (.exit id) | _=>fun _ _=>False) bB ?_ ak ?_ ?_ ?_
    .intro c;split
     .exact vW _
     .exact vW _
     .exact fun s W b7 row h _ _=>h.elim
    .intro l pre x W ad aS;have wa:Fits [] ({ tmps:=a.tmps.setIfInBounds p (enc x),defers:=[] }:Act) (cq S p (enc x)) n:=by
      refine⟨rfl,by simp[aK.2.1],fun t=>?_⟩
      have:=aK.2.2 t
      simp only[cq];by_cases aL:t=p
      .subst aL;simp[aK.2.1,aO]
      .have U:(a.tmps.setIfInBounds p (enc x))[t]? = a.tmps[t]? := Array.getElem?_setIfInBounds_ne (Ne.symm aL);rw[if_neg aL,<-this];simp[Array.getD_eq_getD_getElem?,U]
     refine wpIn_mono (sound (ds:=[]) (r:=some l) hm xw oC bo _ _ _ W wa (aeg pre x W ad aS)) fun e di b7 aG=>?_;cases e with
     | normal =>
      obtain⟨bh,er,h1,U,ag⟩:=aG;refine⟨h1,U,fun eK aJ=>?_⟩;refine wpIn_mono (sound (ds:=[]) (r:=some l) hm b ha aC _ _ _ eK er (ag eK aJ)) fun e a2 mN aG=>?_;cases e with
      | normal=>obtain⟨bh,_,h1,U,ag⟩:=aG;exact⟨h1,U,ag⟩
      | ret=>obtain⟨bh,_,h1,U⟩:=aG;exact⟨h1,U⟩
      | exit id=>obtain⟨bh,_,h1,U⟩:=aG;exact⟨h1,U⟩
      | panic c=>obtain⟨bh,_,h1⟩:=aG;exact h1.elim
      | _=>exact aG.elim
     | ret=>obtain⟨bh,_,h1⟩:=aG;exact h1.elim
     | exit id=>obtain⟨bh,_,h1⟩:=aG;exact h1.elim
     | panic c=>obtain⟨bh,_,h1⟩:=aG;exact h1.elim
     | _=>exact aG.elim
    .intro D xs W lo cg ad bw;exact⟨some D,S,⟨by rw[aK.1];rfl,aK.2⟩,x8 D xs W lo cg ad bw⟩
    .intro D c pre W lo cg ad bw;have Ut:Fits (marks (some D)) { a with defers:={ target:=.collected D,args:=#[] } :: a.defers } S n:=⟨by rw[aK.1];rfl,aK.2⟩;split at ad
     .exact wpIn_ret ⟨some D,S,Ut,HN D .ret pre W (by simp) lo cg ad bw⟩
     .exact wpIn_exit ⟨some D,S,Ut,HN D (.exit _) pre W (by simp) lo cg ad bw⟩
     .exact ad.elim
   .cases h
  .cases h
 | .seq x y,rc,h,Q,a,S,w,aK,aT=>by
  simp only[l9] at h;split at h
  .rename_i wH au;obtain⟨X2,b8,rfl⟩:=Option.map_eq_some_iff.1 h;refine wpIn_seq (wpIn_mono (sound (ds:=[]) (r:=none) (m:=3) hm x wH au _ a S w aK aT) fun e di w' aG=>?_);cases e with
   | normal=>obtain⟨bh,er,aG⟩:=aG;exact IG hm y X2 b8 Q di bh w' er aG
   | exit i=>obtain⟨bh,er,aG⟩:=aG;exact⟨none,bh,er,aG⟩
   | ret=>obtain⟨bh,er,aG⟩:=aG;exact⟨none,bh,er,aG⟩
   | panic c=>obtain⟨bh,er,aG⟩:=aG;exact⟨none,bh,er,aG⟩
   | _=>exact aG.elim
  .split at h
   .rename_i rx uS au b8;injection h with h;subst h
    refine wpIn_seq (wpIn_mono (IG hm x rx au _ a S w aK aT) fun e di w' aG=>?_);cases e with
    | normal =>
     obtain⟨al,bh,er,aG⟩:=aG;exact wpIn_mono (sound (ds:=marks al) (r:=none) (m:=3) hm y uS b8 (Q al) di bh w' er aG) fun e Ry b2 h=>ahG h
    | exit i=>obtain⟨al,bh,er,aG⟩:=aG;exact⟨al,bh,er,aG⟩
    | ret=>obtain⟨al,bh,er,aG⟩:=aG;exact⟨al,bh,er,aG⟩
    | panic c=>obtain⟨al,bh,er,aG⟩:=aG;exact⟨al,bh,er,aG⟩
    | _=>exact aG.elim
   .cases h
 | .block id b,rc,h,Q,a,S,w,aK,aT=>by
  simp only[l9] at h;obtain⟨E1,aC,rfl⟩:=Option.map_eq_some_iff.1 h;refine wpIn_block (wpIn_mono (IG hm b E1 aC _ a S w aK aT) fun e di w' aG=>?_);cases e with
  | normal=>obtain⟨al,bh,er,aG⟩:=aG;exact⟨al,bh,er,aG⟩
  | ret=>obtain⟨al,bh,er,aG⟩:=aG;exact⟨al,bh,er,aG⟩
  | panic c=>obtain⟨al,bh,er,aG⟩:=aG;exact⟨al,bh,er,aG⟩
  | exit i =>
   obtain⟨al,bh,er,aG⟩:=aG;simp only[zx] at aG;simp only[Exit.inBlock];split at aG
   .rename_i ad;rw[if_pos ad];exact⟨al,bh,er,aG⟩
   .rename_i ad;rw[if_neg ad];exact⟨al,bh,er,aG⟩
  | _=>exact aG.elim
 | .skip,rc,h,_,_,_,_,_,_=>by simp[l9] at h
 | .region _ _ _,rc,h,_,_,_,_,_,_=>by simp[l9] at h
 | .cond _ _ _,rc,h,_,_,_,_,_,_=>by simp[l9] at h
 | .loop _,rc,h,_,_,_,_,_,_=>by simp[l9] at h
 | .exit _,rc,h,_,_,_,_,_,_=>by simp[l9] at h
 | .ret,rc,h,_,_,_,_,_,_=>by simp[l9] at h
 | .scope _,rc,h,_,_,_,_,_,_=>by simp[l9] at h
 | .label _,rc,h,_,_,_,_,_,_=>by simp[l9] at h
 | .goto _,rc,h,_,_,_,_,_,_=>by simp[l9] at h
 | .refuse _,rc,h,_,_,_,_,_,_=>by simp[l9] at h
def CD(res:List l3)(R:Value->World->Prop):Option Nat->eb->Fr->World->Prop
 | none,e,S,w=>CB res R e S w
 | some D,.normal,S,w=>w.heap[D]? = some (.deferred (some []))/\oJ res S (fe w D (.deferred none)) fun vs=>R (gC vs) (fe w D (.deferred none))
 | some D,.ret,S,w=>w.heap[D]? = some (.deferred (some []))/\oJ res S (fe w D (.deferred none)) fun vs=>R (gC vs) (fe w D (.deferred none))
 | some _,.exit _,_,_=>False
 | some _,.fS _,_,_=>False
theorem akv{P:Program}{D:Nat}{w:World}(h:w.heap[D]? = some (.deferred (some []))):(Instr.takeDeferred D).run P w = .ok [] (fe w D (.deferred none)):=by
 simp[Instr.takeDeferred,Sem.run_bind,getObj,setObj,Sem.run,h,Result.andThen,fe]
theorem acf{P:Program}{f:FuncId}{L:xl}(hm:P.follows .mixedOrders=true)(aw:xJ P f=some L){args:List Value}{w:World}{R:Value->World->Prop}(bo:args.length<=L.n)
  (h:nk P L.code (CD L.res R) (hY args 0) w):bu P f args.toArray w R:=by
 unfold xJ at aw;split at aw
 .rename_i fn kg;split at aw
  .rename_i c aC;split at aw
   .rename_i lc r h1 U;injection aw with aw;subst aw
    refine(callsIn_wide (n:=3)).1 (callsIn_of_wp_marks (F:=Fence.wide) kg aC trivial (wpIn_mono (IG hm c lc h1 _ _ (hY args 0) w ?_ h) ?_))
    .refine⟨rfl,?_,fun t=>?_⟩
     .have:=bo;simp only at this;simp;omega
     .rw[GR];simp only[Nat.zero_le,if_true,Nat.sub_zero];by_cases aL:t<args.length
      .simp[Array.getD_eq_getD_getElem?,Array.getElem?_append,aL]
      .simp only[Array.getD_eq_getD_getElem?,Array.getElem?_append,List.size_toArray,if_neg aL,List.getElem?_eq_none (Nat.le_of_not_lt aL),Option.getD_none];rw[Array.getElem?_replicate];split<;>rfl
    .have fin:∀(al:Option Nat) (S:Fr) (di:Act) (w':World),Fits (marks al) di S fn.ntmps->(CD r R al .normal S w')->LeavesInM Fence.wide 3 P fn di.tmps (fun e w' => ∃v,e = .returned v/\R v w') di.defers .returning w':=by
      intro al S di w' aK aG;rw[aK.1];cases al with
      | none =>
       obtain⟨vs,ag,aJ⟩:=rf aK _ _ _ U aG;exact⟨_,uZ ag,_,rfl,aJ⟩
      | some D =>
       obtain⟨bw,aG⟩:=aG;obtain⟨vs,ag,aJ⟩:=rf aK _ _ _ U aG;exact⟨by simp,.inl ⟨D,_,rfl,akv bw,⟨_,uZ ag,_,rfl,aJ⟩⟩⟩
     intro e di w' aG;cases e with
     | normal=>obtain⟨al,S,aK,aG⟩:=aG;exact fin al S di w' aK aG
     | ret =>
      obtain⟨al,S,aK,aG⟩:=aG;refine fin al S di w' aK ?_;cases al<;>exact aG
     | exit i=>obtain⟨al,S,aK,aG⟩:=aG;cases al<;>exact aG.elim
     | panic c=>obtain⟨al,S,aK,aG⟩:=aG;cases al<;>exact aG.elim
     | _=>exact aG.elim
   .cases aw
  .cases aw
 .cases aw
end bt
namespace bt
open Go Go.RowKit
section
variable{P:Program}{S:Fr}{w:World}
theorem fV.start{f:FuncId}{L:xl}(hm:P.follows .mixedOrders=true)(aw:xJ P f=some L){args:List Value}{w:World}{R:Value->World->Prop}(bo:args.length<=L.n)(h:nk P L.code (CD L.res R) (hY args 0) w):bu P f args.toArray w R:=acf hm aw bo h
theorem fV.h5{x:fa}{y:ry}{Q:Option Nat->eb->Fr->World->Prop}(h:dZ P x (hr (fun S w=>nk P y Q S w) (Q none) ⟨⟩) S w ⟨⟩):nk P (.h5 x y) Q S w:=by unfold dZ hr at h;exact h
theorem fV.se{x:ry}{y:fa}{Q:Option Nat->eb->Fr->World->Prop}(h:nk P x (fun al=>hr (fun S w=>dZ P y (Q al) S w ⟨⟩) (Q al) ⟨⟩) S w):nk P (.se x y) Q S w:=by unfold dZ hr at h;exact h
theorem fV.aV{id:Nat}{x:ry}{Q:Option Nat->eb->Fr->World->Prop}(h:nk P x (fun al=>pJ id (Q al) ⟨⟩) S w):nk P (.aV id x) Q S w:=by unfold pJ at h;exact h
theorem fV.ret{res:List l3}{R:Value->World->Prop}{D:Nat}(bw:w.heap[D]? = some (.deferred (some [])))(h:iv res S (fe w D (.deferred none)) (fun vs=>R (gC vs) (fe w D (.deferred none))) ⟨⟩):CD res R (some D) .ret S w:=by
 unfold iv at h;exact⟨bw,h⟩
theorem fV.CA{res:List l3}{R:Value->World->Prop}{e:eb}(h:rJ res R ⟨⟩ e S w):CD res R none e S w:=by
 unfold rJ at h;exact h
theorem fV.sd{α:Type}{enc:α->Value}{g:Operand}{p:Nat}{a b:fa}{Q:Option Nat->eb->Fr->World->Prop}{jR:Nat}{ha:Array Value}{hG:World->World->Prop}{mK oU:List α->Prop}{N:Nat}{w0:World}
  (aZ:bn S g = .func (.func jR) #[] ha)(dt:okF P jR=true)(rQ:SeqStopsK Fence.wide 0 P jR ha (fun x=>#[enc x]) hG mK oU N w0)(he:Ext w0 w)(rL:BJ hG w.heap.size)
  (eu:List α->World->Prop)(bB:OwnFrom w.heap.size eu)(ak:eu [] w)
  (DJ:∀pre x W,eu pre W->pre.length<N->dZ P a (hr (fun sn hV=>KeepsFrom w.heap.size W hV/\hG W hV/\∀eK,sm w.heap.size hV eK ->
   dZ P b (hr (fun _ b7=>KeepsFrom w.heap.size eK b7/\hG eK b7/\eu (pre++[x]) b7) (fun _ _ _=>False) ⟨⟩) sn eK ⟨⟩) (fun _ _ _=>False) ⟨⟩) (cq S p (enc x)) W ⟨⟩)
  (x8:∀D xs W,w.heap.size<=D->mK xs->eu xs W->W.heap[D]? = some (.deferred (some []))->Q (some D) .normal S W):nk P (.sd g p a b) Q S w:=by
 refine⟨α,enc,jR,ha,hG,mK,oU,N,w0,aZ,dt,rQ,he,rL,eu,fun _ _ _=>False,bB,fun _ _ _ _ _ h _ _=>h.elim,ak,fun pre x W ad aS=>?_,x8,fun D e pre W _ _ _ h _=>h.elim⟩;have h:=DJ pre x W ad aS;unfold dZ hr at h;refine oM a _ _ _ W (fun e sn hV _ h1=>?_) h;cases e with
 | normal =>
  obtain⟨dc,dd,gv⟩:=h1;refine⟨dc,dd,fun eK ba=>?_⟩;have U:=gv eK ba;refine oM b _ _ _ eK (fun e kt mN _ ag=>?_) U;cases e with
  | normal=>exact ag
  | exit _=>exact ag.elim
  | ret=>exact ag.elim
  | fS _=>exact ag.elim
 | exit _=>exact h1.elim
 | ret=>exact h1.elim
 | fS _=>exact h1.elim
theorem sm.cells{B:Nat}{W b7:World}(h:sm B W b7){k:Nat}{c:Array Value}{t:TypeId}{f:Nat×Nat}(hk:W.heap[k]? = some (.cells c t f)):b7.heap[k]? = some (.cells c t f):=by
 obtain⟨l,aS,⟨al,bc,aw⟩,aZ⟩:=h;rw[aZ.block k (cH hk) fun e=>by injection e with e;subst e;rw[bc] at hk;injection hk with hk;subst hk;cases aw];exact hk
theorem sm.mod{B:Nat}{W b7:World}(h:sm B W b7):∃l,B<=l/\(∀c t f,W.heap[l]? ≠ some (.cells c t f))/\Mod (fun k=>k=l) W b7:=by
 obtain⟨l,aS,⟨al,bc,aw⟩,aZ⟩:=h;exact⟨l,aS,(fun c t f e=>by rw[bc] at e;injection e with e;subst e;cases aw),Mod.grown aZ fun k e=>by injection e with e;exact e.symm⟩
theorem sm.ext{B:Nat}{w W b7:World}(h:sm B W b7)(he:Ext w W)(jh:w.heap.size<=B):Ext w b7:=by
 obtain⟨l,aS,_,hm⟩:=h.mod;exact hm.ext he fun k hk e=>by omega
theorem Ext.keeps{W b7:World}(h:Ext W b7)(B:Nat):KeepsFrom B W b7:=⟨h.size,fun k al _ hk _=>h.obj hk⟩
theorem Mod.keeps{A:Nat->Prop}{B:Nat}{W b7:World}(h:Mod A W b7)(eL:∀k,B<=k->A k->∃c t f,W.heap[k]? = some (.cells c t f)):KeepsFrom B W b7 :=
 ⟨h.size,fun k al jh hk aw=>h.obj (fun a=>by obtain⟨c,t,f,e⟩:=eL k jh a;rw[hk] at e;injection e with e;subst e;cases aw) hk⟩
theorem Mod.hB{A:Nat->Prop}{hb:Nat}{cJ:List TypeId}{W b7:World}(h:Mod A W b7)(aD:hb<=W.heap.size)(ak:∀k,k<hb->¬A k)(eL:∀k c t f,A k->W.heap[k]? = some (.cells c t f)->t∉cJ):lM hb cJ W b7 :=
 ⟨⟨h.os,h.tape,h.output,h.size,fun k hk=>h.block k (by omega) (ak k hk)⟩,fun k c t f hk aL=>h.block k (cH hk) fun a=>eL k c t f a hk aL⟩
theorem Mod.high{A:Nat->Prop}{w W b7:World}{row:Option Nat}(h:Mod A w W)(aZ:W.grownBy b7 row)(ba:∀r,row=some r->w.heap.size<=r):Mod A w b7 :=
 h.comp (Mod.grown (A:=fun k=>row=some k) aZ fun k e=>e) (fun _ _ a=>a) fun i ad e=>by have:=ba i e;omega
def eE(bf:Nat)(b4:List Nat)(cJ:List TypeId)(W b7:World):Prop:=Mod (fun k=>k∈b4\/(bf<=k/\∃c t f,t∈cJ/\W.heap[k]? = some (.cells c t f))) W b7
theorem Ext.zF{bf:Nat}{b4:List Nat}{cJ:List TypeId}{W b7:World}(h:Ext W b7):eE bf b4 cJ W b7:=h.mod
theorem eE.trans{bf:Nat}{b4:List Nat}{cJ:List TypeId}{a b c:World}(h:eE bf b4 cJ a b)(k:eE bf b4 cJ b c):eE bf b4 cJ a c :=
 ⟨k.os.trans h.os,k.tape.trans h.tape,k.output.trans h.output,Nat.le_trans h.size k.size,fun i ad aD=>by
  have e:=h.block i ad aD;refine(k.block i (Nat.lt_of_lt_of_le ad h.size) fun a=>aD ?_).trans e;rcases a with a | ⟨dD,c,t,f,a2,a3⟩
  .exact .inl a
  .exact .inr ⟨dD,c,t,f,a2,by rw[<-e];exact a3⟩⟩
theorem dC.zF{bf b:Nat}{b4:List Nat}{cJ:List TypeId}{W b7:World}(h:dC b W b7)(aC:b∈b4):eE bf b4 cJ W b7:=(h.mod (A:=fun k=>k=b) rfl).I3 fun k e=>.inl (e ▸ aC)
theorem eE.grown{α:Type}{enc:α->List Value}{sz bf:Nat}{e:TypeId}{b4:List Nat}{cJ:List TypeId}{W b7:World}{v:Value}{xs:List α}(bc:bs enc e sz bf W v xs)(aZ:W.grownBy b7 v.ownBlock)(he:e∈cJ):eE bf b4 cJ W b7 :=
 (Mod.grown (A:=fun k=>v.ownBlock=some k) aZ fun k e=>e).I3 fun k hk=>by
  obtain⟨cur,h⟩:=bc.aV k hk;exact .inr ⟨(bc.lt k hk).1,_,_,_,he,h⟩
theorem eE.keeps{bf B:Nat}{b4:List Nat}{cJ:List TypeId}{W b7:World}(h:eE bf b4 cJ W b7)(jh:∀b∈b4,b<B):KeepsFrom B W b7 :=
 Mod.keeps h fun k hk a=>by
  rcases a with a | ⟨_,c,t,f,_,a⟩
  .have:=jh k a;omega
  .exact⟨c,t,f,a⟩
theorem eE.hB{bf hb:Nat}{b4:List Nat}{cJ mA:List TypeId}{W b7:World}(h:eE bf b4 cJ W b7)(aD:hb<=W.heap.size)(ak:hb<=bf)(aC:∀b∈b4,hb<=b/\∀c t f,W.heap[b]? = some (.cells c t f)->t∉mA)(aL:∀t∈cJ,t∉mA):lM hb mA W b7 :=
 Mod.hB h aD (fun k hk a=>by
  rcases a with a | ⟨a,_⟩
  .have:=(aC k a).1;omega
  .omega) fun k c t f a hk=>by
  rcases a with a | ⟨_,mR,hf,sH,dD,a2⟩
  .exact(aC k a).2 c t f hk
  .rw[hk] at a2;injection a2 with a2;injection a2 with _ a2;subst a2;exact aL _ dD
theorem eE.from{b4:List Nat}{cJ:List TypeId}{w W b7:World}(h:Mod (fun k=>k∈b4) w W)(c:eE w.heap.size b4 cJ W b7):Mod (fun k=>k∈b4) w b7 :=
 h.comp c (fun _ _ a=>a) fun k hk a=>by
  rcases a with a | ⟨a,_⟩
  .exact a
  .omega
theorem eE.obj{bf:Nat}{b4:List Nat}{cJ:List TypeId}{W b7:World}(h:eE bf b4 cJ W b7){k:Nat}{c:Array Value}{t:TypeId}{f:Nat×Nat}(hk:W.heap[k]? = some (.cells c t f))(aC:k∉b4)(aL:t∉cJ):b7.heap[k]? = some (.cells c t f):=by
 rw[Mod.block h k (cH hk) fun a=>?_]
 .exact hk
 .rcases a with a | ⟨_,mR,hf,sH,dD,a2⟩
  .exact aC a
  .rw[hk] at a2;injection a2 with a2;injection a2 with _ a2;subst a2;exact aL dD
end
end bt
end
section
namespace Go.Proofs.R
open Go bt Go.Proofs
def D.al:xl:=⟨78,[.cell 6], (.h5 (.bN [aF 3 (.box T.b (ab 0)),aF 4 (.box T.a (ab 1)),aF 6 (.new T.p (.bool false))]) (.h5 (J [a7 14 5 3,aY 15 F.i [14],bd 16 (.jf 0 (ab 15)),az .neq T.d 17 16 0] (aE 17 (J [hF (.st (ab 6) (bT false))] .ret) .skip)) (.h5 (.ed (an (a7 18 5 3) (an (a7 20 5 3) (.alt (aY 19 F.a [18]) (.bZ (aY 21 F.e [20]) (.alt (aF 8 (.new T.t aH)) (an (I 7 19) (.bZ (ys 8 21) .done .nil)) .nil) (.alt (aF 8 (.new T.t aH)) (.bZ (aY 21 F.e [20]) (an (I 7 19) (.bZ (ys 8 21) .done .nil)) .nil) .nil)) (.alt (aF 8 (.new T.t aH)) (.alt (aY 19 F.a [18]) (.bZ (aY 21 F.e [20]) (an (I 7 19) (.bZ (ys 8 21) .done .nil)) .nil) .nil) .nil))))) (.h5 (.seq (.dV [af 22 4,az .lss T.a 23 22 0,I 24 23,aq 24 (af 25 4),aq 24 (I 26 7),aq 24 (bM 27 26),aq 24 (bm .geq T.a 28 25 27),cm 29 24 28,I 30 29,aq 30 (I 31 2),aq 30 (az .lss T.a 32 31 0),cm 33 30 32,I 34 33,aq 34 (I 35 2),aq 34 (ah 36 3 3),aq 34 (af 37 36),aq 34 (I 38 7),aq 34 (af 39 4),aq 34 (bj 40 2 38 39),aq 34 (ah 41 0 40),aq 34 (af 42 41),aq 34 (bj 43 5 37 42),aq 34 (ah 44 2 43),aq 34 (af 45 44),aq 34 (bm .geq T.a 46 35 45),cm 47 34 46]) (aE 47 (J [hF (.st (ab 6) (bT false))] .ret) .skip)) (.h5 (.bN [a7 48 5 3,aY 49 F.zu [48],aF 9 (.new T.a0 aH),ys 9 49]) (.se (.h5 (.bN [a7 50 5 3,af 51 4,I 52 2,aY 53 F.pK [50,51,52]]) (.aV 0 (.sd (ab 53) 54 (.bN [I 10 54]) (.aV 1 (J [bd 55 (.jF F.bi [] [(ab 4)]),I 11 55] (J [af 56 8,bM 57 56,ai 58 (aj 0)] (.aV 2 (.loop (J [bm .lss T.a 59 58 57] (eW 59 2
 (.seq (.aV 3 (J [I 60 58,bj 61 2 56 58,a7 62 2 61,aF 13 (.new T.m (.agg #[ar,ar])),I 12 60,ca 2 13 62] (.seq (.dV [I 63 11,a7 64 2 13,dh 65 (.val (ab 63) [(ab 64)]),I 66 65,aX 66 (af 67 9),aX 66 (I 68 10),aX 66 (bj 69 2 67 68),aX 66 (a7 70 2 69),aX 66 (af 71 9),aX 66 (I 72 12),aX 66 (bj 73 2 71 72),aX 66 (a7 74 2 73),aX 66 (aY 75 F.zv [70,74]),dx 76 66 75]) (aE 76 (J [hF (.st (ab 6) (bT false))] .ret) .skip)))) (e9 T.a 77 58)))))))))))) (J [hF (.st (ab 6) (bT true))] .ret)))))))⟩
theorem BG.al:xJ Tryz.prog F.al=some D.al:=by kernel_rfl
def D.e:xl:=⟨37,[.tmp 2], (.h5 (.bN [aF 1 (.box T.b (ab 0)),ai 2 (.const aH)]) (.h5 (.bN [aF 3 (.new T.t aH)]) (.h5 (.bN [bd 8 (.cY [ar,ar] [(0,1),(1,1)] [(0,(aj (-1)))]),aF 4 (.new T.a ar),aF 5 (.new T.l (.agg #[ar,ar])),hF (.st (ab 4) (aj (-1))),ca 2 5 8]) (.se (.h5 (.bN [a7 9 5 1,aY 10 F.zy [9]]) (.aV 0 (.sd (ab 10) 11 (.bN [aF 6 (.new T.l (.agg #[ar,ar])),ca 2 6 11]) (.aV 1 (.seq (J [a7 12 2 6,a7 13 2 5,bm .neq T.l 14 12 13] (aE 14 (.bN [af 15 4,az .add T.a 16 15 1,ys 4 16]) .skip)) (J [a7 17 2 6,ca 2 5 17] (J [ah 18 3 1,af 19 18,ah 20 0 6,af 21 20,bj 22 5 19 21,ah 23 4 22,af 24 23,bM 25 24,ai 26 (aj 0)] (.aV 2 (.loop (J [bm .lss T.a 27 26 25] (eW 27 2
 (.seq (.aV 3 (J [I 28 26,I 7 28] (.bN [af 29 3,af 30 4,I 31 7,bd 32 (.cY [ar,ar] [(0,1),(1,1)] [(0,(ab 30)),(1,(ab 31))]),aF 33 (.dk T.m 1 2 [ar,ar] [(0,(ab 32))]),aF 34 (.app T.t T.m 2 16 (ab 29) (ab 33)),ys 3 34]))) (e9 T.a 35 26))))))))))))) (J [af 36 3,I 2 36] .ret)))))⟩
theorem BG.e:xJ Tryz.prog F.e=some D.e:=by kernel_rfl
def D.zW:xl:=⟨13,[.tmp 4], (.h5 (.bN [aF 2 (.box T.Ge (ab 0)),ai 4 (.const aH)]) (.se (.h5 (.bN [I 6 1]) (.aV 0 (.sd (ab 6) 7 (.bN [aF 5 (.new T.l (.agg #[ar,ar])),ca 2 5 7]) (.aV 1 (.bN [af 8 2,a7 9 2 5,aF 10 (.dk T.l 1 2 [ar,ar] [(0,(ab 9))]),aF 11 (.app T.Ge T.l 2 16 (ab 8) (ab 10)),ys 2 11]))))) (J [af 12 2,I 4 12] .ret)))⟩
theorem BG.zW:xJ Tryz.prog F.zW=some D.zW:=by kernel_rfl
end Go.Proofs.R
end
section
namespace o
open Go Go.RowKit bt
theorem Sd(x:c8):qD Ya x.enc:=⟨⟨_,rfl⟩,⟨_,rfl⟩,trivial⟩
theorem agN(x y:c8)(h:x.enc=y.enc):x=y:=by cases x;cases y;simpa[c8.enc] using h
abbrev vv(m:Model):={x:c8 // x.of m}
end o
namespace bt
open Go Go.RowKit
theorem Ext.Tm{w w':World}(h:Ext w w'):w.grownBy w' none:=⟨h.os,h.tape,h.output,h.size,fun k hk _=>h.heap hk⟩
end bt
namespace Go.Proofs.R
open Go Go.RowKit bt
theorem ab5(cs:List Value)(m:o.Model)(p:o.dz)(cE dT:Value)(w:World)(h:o.ec w cs m) :
  bu Tryz.prog F.d2 #[.agg cs.toArray,.agg (p.enc cE dT).toArray] w fun v w'=>v = .int .i64 (o.elems m p)/\Ext w w':=by
 obtain⟨cz,bS,b9,c1,cn,c2,cp,bP,cA,bX,rfl,ak,h1,U,ag,aJ,eI,ej,eo,dX,ep⟩:=h.form;refine bL E.d2 ?_;refine bG ?_;refine aa ?_;intro av bC cR aB ao;refine aa ?_;intro aU cr dQ aA aP;have c9:∀{w'},Ext aU w'->Ext w w':=fun e=>(aB.trans aA).trans e;refine aa ?_;rw[o.elems];apply K.cond<;>intro g1
 .refine aa ?_;rw[o.hL (.inl (by omega))];exact⟨bk,c9 (Ext.refl _)⟩
 refine aa ?_;apply K.cond<;>intro g2
 .refine aa ?_;rw[o.hL (.inr (by omega))];exact⟨bk,c9 (Ext.refl _)⟩
 have ad:(p.over - 1).toNat<m.scalars.length:=by omega
 obtain⟨a,rfl⟩:=ak.addr (by omega);rw[o.iT (by omega) (by omega)];refine aa ?_;refine K.dp (p.over - 1).toNat (by omega) ad ?_;refine aa ?_;apply K.cond<;>intro g3
 .refine aa ?_;refine⟨?_,c9 (Ext.refl _)⟩;rw[if_pos (by omega)];rfl
 refine aa ?_;apply K.cond<;>intro g4
 .refine aa ?_;refine⟨?_,c9 (Ext.refl _)⟩;rw[if_pos (by omega)];rfl
 refine aa ?_;refine⟨?_,c9 (Ext.refl _)⟩;rw[if_neg (by omega)];congr 1;omega
theorem ajU(cs:List Value)(m:o.Model)(p:o.dz)(cE dT:Value)(w:World)(h:o.ec w cs m) :
  bu Tryz.prog F.En #[.agg cs.toArray,.agg (p.enc cE dT).toArray] w fun v w'=>v = .int .i64 (o.elems m p)/\Ext w w':=by
 obtain⟨cz,bS,b9,c1,cn,c2,cp,bP,cA,bX,rfl,ak,h1,U,ag,aJ,eI,ej,eo,dX,ep⟩:=h.form;refine bL E.En ?_;refine bG ?_;refine aa ?_;intro av bC cR aB ao;refine aa ?_;intro aU cr dQ aA aP;have c9:∀{w'},Ext aU w'->Ext w w':=fun e=>(aB.trans aA).trans e;refine aa ?_;rw[o.elems];apply K.cond<;>intro g1
 .refine aa ?_;rw[o.hL (.inl (by omega))];exact⟨bk,c9 (Ext.refl _)⟩
 refine aa ?_;apply K.cond<;>intro g2
 .refine aa ?_;rw[o.hL (.inr (by omega))];exact⟨bk,c9 (Ext.refl _)⟩
 have ad:(p.over - 1).toNat<m.scalars.length:=by omega
 obtain⟨a,rfl⟩:=ak.addr (by omega);rw[o.iT (by omega) (by omega)];refine aa ?_;refine K.dp (p.over - 1).toNat (by omega) ad ?_;refine aa ?_;apply K.cond<;>intro g3
 .refine aa ?_;refine⟨?_,c9 (Ext.refl _)⟩;rw[if_pos (by omega)];rfl
 refine aa ?_;apply K.cond<;>intro g4
 .refine aa ?_;refine⟨?_,c9 (Ext.refl _)⟩;rw[if_pos (by omega)];rfl
 refine aa ?_;refine⟨?_,c9 (Ext.refl _)⟩;rw[if_neg (by omega)];congr 1;omega
def VC(x:o.c8):Value:=.agg x.enc.toArray
theorem VK{nX w0:World}{b:Nat}{cs:List Value}{m:o.Model}(aw:w0.heap[b]? = some (.cells cs.toArray T.b))(h:o.ec nX cs m)(pe:Ext nX w0) :
  SeqStopsK Fence.wide 0 Tryz.prog F.qz #[.pointer (some ⟨b,0,none⟩)] (fun x:o.vv m=>#[VC x.1]) (lM nX.heap.size [T.i,T.b]) (fun xs=>xs.map Subtype.val=o.insts m) (fun _=>True) (o.insts m).length w0:=by
 intro l ia Jo W aC pT adN b8 HA;have Ad:Ext nX W:=pe.trans aC;have T2:=Ext.obj (w:=w0) aC aw;obtain⟨cz,bS,b9,c1,cn,c2,cp,bP,cA,bX,rfl,ak,h1,U,ag,aJ,eI,ej,eo,dX,ep⟩:=h.form;refine callsIn_wide.2 (Calls.mono (show bu Tryz.prog F.qz #[.func (.yield l) #[] #[],.pointer (some ⟨b,0,none⟩)] W (fun _ b7=>(∃xs,xs.map Subtype.val=o.insts m/\ia xs b7)\/(∃pre:List (o.vv m),True/\Jo pre b7)) from ?_) fun e b7 ⟨v,bU,a6⟩=>⟨⟨v,bU⟩,a6⟩);have z1:∀{pre:List (o.vv m)} {w w':World},ia pre w->Ext w w'->ia pre w':=fun {pre w w'} aR e=>pT pre w w' none aR e.Tm (fun r e=>by cases e);refine bL E.qz ?_;refine bG ?_;refine aa ?_;refine K.dj 9 m.procs.length [0,1,7,8] (fun _=>[]) ([]:List (o.vv m)) (fun k pre w'=>(Ext nX w'/\w'.heap[b]? = some (.cells #[.slice cz m.scalars.length bS,.slice b9 m.vars.length c1,.slice cn m.aM.length c2,.slice cp m.procs.length bP,.slice cA m.props.length bX] T.b)/\ia pre w')/\pre.map Subtype.val++o.iR m (m.procs.drop k) k=o.insts m) bx bx ⟨⟨Ad,T2,HA⟩,by simp[o.insts]⟩ ?_;clear T2 aw;rintro k pre S av hk ⟨⟨aB,T4,UE⟩,qW⟩;refine aa ?_;apply K.cond<;>intro g1
 .have br:k<m.procs.length:=by omega
  obtain⟨a,rfl⟩:=ag.addr (by omega);obtain⟨ay,cE,dT,dL,eR,gn⟩:=ag.at k br;obtain⟨_,_,rfl,_⟩:=eR.form;obtain⟨_,_,rfl,_⟩:=gn.form;rw[o.VE br] at qW;have sL:=cH T4;refine ef ?_;simp -dsimp only[cF];refine ef ?_;simp -dsimp only[cF];refine ef ?_;intro Bw cr dQ ml pU;refine ef ?_;intro aU ags aP;have aA:=ags.ext ml dQ;have T5:=aA.obj T4;have pc:=z1 UE aA;have eU:∀(q:List (o.vv m)) (r:List o.c8),q.map Subtype.val++r=o.insts m->r≠[]->q.length<(o.insts m).length:=fun q r e ba=>by
   rw[<-e,List.length_append,List.length_map]
   have:=List.length_pos_iff.2 ba
   omega
  have um:=o.Cz m m.procs[k];refine ef ?_;refine K.gU [0,1,3,4,7,8,9] (fun _=>[]) (fun(EU:List (o.vv m)) w'=>(Ext nX w'/\w'.heap[cr]? = aU.heap[cr]? /\ w'.heap[b]? = aU.heap[b]? /\ ia EU w')/\EU.map Subtype.val=pre.map Subtype.val++o.iq k m.procs[k]) ?_ ?_
  .refine aa ?_;apply K.cond<;>intro g2
   .have bU:o.iq k m.procs[k]=[⟨(k:Int),0⟩]:=by unfold o.iq;rw[if_pos g2]
    rw[bU] at qW;refine aa ?_;refine K.yield (b8 pre ⟨⟨(k:Int),0⟩,by simp,by simpa using br,by simp⟩ aU pc (eU pre _ (by simpa[List.append_assoc] using qW) (by simp))) ?_;rintro e bb (⟨rfl,wc,rO⟩ | ⟨rfl,wc⟩)
    .refine⟨.bool true,rfl,?_⟩;refine aa ?_;exact⟨_,trivial,⟨Below.trans (Ext.trans aB aA) rO.1,rO.2 cr _ _ _ aP (by simp),rO.2 b _ _ _ T5 (by simp),wc⟩,by simp[bU]⟩
    .refine⟨.bool false,rfl,?_⟩;refine aa ?_;exact .inr ⟨_,trivial,wc⟩
   .have bU:o.iq k m.procs[k]=[]:=by unfold o.iq;rw[if_neg g2]
    refine aa ?_;exact⟨pre,trivial,⟨aB.trans aA,bk,bk,pc⟩,by simp[bU]⟩
  rintro Nd S bb ⟨⟨ax,bz,T6,wc⟩,afI⟩;rw[aP] at bz;rw[T5] at T6;refine aa ?_;refine K.call (ab5 _ m m.procs[k] _ _ bb (h.ext ax)) ?_;rintro _ bp ⟨rfl,aN⟩;have UF:=z1 wc aN;have T7:=aN.obj T6;have o5:=ax.trans aN;have Vc:Nd.map Subtype.val++o.iU k (o.elems m m.procs[k])++o.iR m (m.procs.drop (k+1)) (k+1)=o.insts m:=by rw[afI,<-qW];simp
  refine aa ?_;refine K.dj 27 (o.elems m m.procs[k]) [0,1,3,7,8,9,26] (fun _=>[]) Nd (fun j EU w'=>(Ext nX w'/\w'.heap[b]? = bp.heap[b]? /\ ia EU w')/\EU.map Subtype.val=Nd.map Subtype.val++o.iU k j) bx bx ⟨⟨o5,rfl,UF⟩,by simp[o.iU]⟩ ?_;rintro j Nf S bR aR ⟨⟨aW,Hi,Dq⟩,Ar⟩;rw[T7] at Hi;refine aa ?_;apply K.cond<;>intro g3
  .have eP:j<o.elems m m.procs[k]:=by omega
   have cw:Nf.length<(o.insts m).length:=by
    have bU:=congrArg List.length Vc;have a6:=congrArg List.length Ar;simp only[List.length_append,List.length_map,o.iU,List.length_range] at bU a6;omega
   refine aa ?_;refine K.yield (b8 Nf ⟨⟨(k:Int),(j:Int)+1⟩,by simp,by simpa using br,by constructor<;>simp<;>omega⟩ bR Dq cw) ?_;rintro e bY (⟨rfl,Am,Ds⟩ | ⟨rfl,Am⟩)
   .refine⟨.bool true,rfl,?_⟩;refine aa ?_;exact⟨eP,bk,_,trivial,⟨Below.trans aW Ds.1,by rw[Ds.2 b _ _ _ Hi (by simp),Hi,T7],Am⟩,by simp[Ar,o.W0]⟩
   .refine⟨.bool false,rfl,?_⟩;refine aa ?_;exact .inr ⟨_,trivial,Am⟩
  .have kU:j=o.elems m m.procs[k]:=by omega
   subst kU;refine aa ?_;exact⟨br,bk,Nf,trivial,⟨aW,Hi,Dq⟩,by rw[Ar];exact Vc⟩
 .refine aa ?_;rw[List.drop_eq_nil_of_le (by omega)] at qW;exact .inl ⟨pre,by simpa[o.iR] using qW,UE⟩
end Go.Proofs.R
end
section
namespace o
open Go
def c8.key(x:c8):Int:=5*x.proc+x.elem
def chain:c8->List c8->Prop
 | _,[]=>True
 | a,x :: r=>x≠a/\chain x r
theorem R3:∀(l:List c8) (a:c8),(a :: l).Pairwise (fun x y=>x.key<y.key)->chain a l
 | [],_,_=>trivial
 | x :: r,a,h=>by
  obtain⟨h1,U⟩:=List.pairwise_cons.1 h;refine⟨fun e=>?_,R3 r x U⟩
  have:=h1 x (by simp)
  rw[e] at this;exact absurd this (Int.lt_irrefl _)
theorem VJ{m:Model}:∀(l:List dz) (i:Nat),(iR m l i).Pairwise (fun x y=>x.key<y.key)/\∀x∈iR m l i,5*(i:Int)<=x.key
 | [],_=>⟨List.Pairwise.nil,fun x au=>by simp[iR] at au⟩
 | p :: r,i=>by
  obtain⟨h1,U⟩:=VJ r (i+1);have bc:∀x∈iq i p,x=⟨(i:Int),0⟩:=fun x au=>by
   unfold iq at au;split at au
   .simpa using au
   .cases au
  have aT:∀x∈iU i (elems m p),∃k:Nat,k<4/\x=⟨(i:Int),(k:Int)+1⟩:=fun x au=>by
   unfold iU at au;obtain⟨k,hk,rfl⟩:=List.mem_map.1 au
   have:=List.mem_range.1 hk
   have:=Cz m p
   exact⟨k,by omega,rfl⟩
  have oG:(iU i (elems m p)).Pairwise (fun x y=>x.key<y.key):=by
   unfold iU;rw[List.pairwise_map];exact List.Pairwise.imp (fun {a b} C0=>by simp only[c8.key];omega) List.pairwise_lt_range
  have ajb:(iq i p).Pairwise (fun x y=>x.key<y.key):=by
   unfold iq;split
   .exact List.pairwise_singleton _ _
   .exact List.Pairwise.nil
  simp only[iR];refine⟨List.pairwise_append.2 ⟨List.pairwise_append.2 ⟨ajb,oG,fun a bo b aC=>?_⟩,h1,fun a bo b aC=>?_⟩,fun x au=>?_⟩
  .obtain rfl:=bc a bo;obtain⟨k,_,rfl⟩:=aT b aC;simp only[c8.key];omega
  .have dQ:=U b aC;rcases List.mem_append.1 bo with bo | bo
   .obtain rfl:=bc a bo;simp only[c8.key];simp at dQ;unfold c8.key at dQ;omega
   .obtain⟨k,hk,rfl⟩:=aT a bo;unfold c8.key at dQ ⊢;simp at dQ ⊢;omega
  .rcases List.mem_append.1 au with au | au
   .rcases List.mem_append.1 au with au | au
    .obtain rfl:=bc x au;simp[c8.key]
    .obtain⟨k,hk,rfl⟩:=aT x au;unfold c8.key;simp;omega
   .have:=U x au
    simp at this;omega
theorem agP(m:Model):chain ⟨-1,0⟩ (insts m):=by
 obtain⟨h1,U⟩:=VJ (m:=m) m.procs 0;refine R3 _ _ (List.pairwise_cons.2 ⟨fun x au=>?_,h1⟩)
 have:=U x au
 unfold c8.key at this ⊢;simp at this ⊢;omega
theorem Ti(m:Model):∀(l:List c8) (i:Nat) (a:c8) (out:List Ref),chain a l->(l.foldl (lF m) ((i:Int) - 1,a,out)).2.2=out++oI m l i
 | [],_,_,_,_=>by simp[oI]
 | x :: r,i,a,out,h=>by
  simp only[List.foldl_cons];have e:lF m ((i:Int) - 1,a,out) x=(((i+1:Nat):Int) - 1,x,out++refsOf i (q7 m x)):=by
   unfold lF;simp only;rw[if_pos h.1];congr 1
   .omega
   .congr 2;congr 1;omega
  rw[e,Ti m r (i+1) x _ h.2];simp[oI]
theorem aj5(m:Model):((insts m).foldl (lF m) (-1,⟨-1,0⟩,[])).2.2=refs m:=by
 have:=Ti m (insts m) 0 ⟨-1,0⟩ [] (agP m)
 simpa[refs] using this
structure vm(m:Model):Prop where
 procs:m.procs.length<=30
 cI:∀p∈m.procs,p.cI.length<=30
theorem M4{m:Model}(h:vm m)(x:c8):q7 m x<=30:=by
 unfold q7;split
 .rename_i p aO;refine h.cI p ?_;unfold nth at aO;by_cases ak:0<=x.proc
  .rw[if_pos ak] at aO;exact List.mem_of_getElem? aO
  .rw[if_neg ak] at aO;cases aO
 .omega
theorem Th{m:Model}(h:vm m):∀(l:List c8) (s:Int×c8×List Ref),s.1<=(l.foldl (lF m) s).1/\(l.foldl (lF m) s).1<=s.1+l.length/\(l.foldl (lF m) s).2.2.length<=s.2.2.length+30*l.length
 | [],s=>by simp
 | x :: r,s=>by
  obtain⟨h1,U,ag⟩:=Th h r (lF m s x);simp only[List.foldl_cons,List.length_cons];have aD:=M4 h x;have bU:s.1<=(lF m s x).1/\(lF m s x).1<=s.1+1:=by unfold lF;simp only;split<;>omega
  have a6:(lF m s x).2.2.length<=s.2.2.length+30:=by unfold lF refsOf;simp only[List.length_append,List.length_map,List.length_range];omega
  omega
theorem XD{m:Model}(h:vm m):∀(l:List c8) (i:Nat),(oI m l i).length<=30*l.length
 | [],_=>by simp[oI]
 | x :: r,i=>by
  have:=XD h r (i+1)
  have:=M4 h x
  simp only[oI,List.length_append,refsOf,List.length_map,List.length_range,List.length_cons];omega
theorem wQ{m:Model}(h:vm m):(refs m).length<=4500:=by
 have:=XD h (insts m) 0
 have:=uE m
 have:=h.procs
 unfold refs;omega
structure QY(m:Model)(r:Ref)(i p k:Nat):Prop where
 ad:i<(insts m).length
 u0:r.inst=i
 ip:(insts m)[i].proc=p
 aO:p<m.procs.length
 wR:r.cmd=k
 hk:k<m.procs[p].cI.length
theorem XE{m:Model}:∀(l:List c8) (i0:Nat) (r:Ref),r∈oI m l i0->∃j,∃aR:j<l.length,r.inst=((i0+j:Nat):Int)/\∃k:Nat,k<q7 m l[j]/\r.cmd=k
 | [],_,_,h=>by simp[oI] at h
 | x :: l,i0,r,h=>by
  simp only[oI,List.mem_append] at h;rcases h with h | h
  .unfold refsOf at h;obtain⟨k,hk,rfl⟩:=List.mem_map.1 h;exact⟨0,by simp,by simp,k,by simpa using hk,rfl⟩
  .obtain⟨j,aR,h1,k,U,ag⟩:=XE l (i0+1) r h;exact⟨j+1,by simpa using aR,by rw[h1];congr 1;omega,k,by simpa using U,ag⟩
theorem aj4{m:Model}{r:Ref}(h:r∈refs m):∃i p k,QY m r i p k:=by
 obtain⟨j,aR,h1,k,U,ag⟩:=XE _ _ _ h;have au:=rT (insts m)[j] (List.getElem_mem _);obtain⟨p,aO⟩:=Int.eq_ofNat_of_zero_le au.bf;have qV:p<m.procs.length:=by have:=au.ad;omega
 refine⟨j,p,k,aR,by rw[h1];simp,aO,qV,ag,?_⟩;unfold q7 at U;rw[aO,iT (by omega) (by omega)] at U;simpa using U
end o
end
section
namespace bt
open Go Go.RowKit
def RN(cJ t:TypeId)(sz b:Nat)(z:Array Value):xl:=⟨13,[.tmp 4],
 (.h5 (.bN [aF 2 (.box cJ (ab 0)),ai 4 (.const (.slice none 0 0))])
 (.se (.h5 (.bN [I 6 1])
 (.aV 0 (.sd (ab 6) 7 (.bN [aF 5 (.new t (.agg z)),hF (.rh sz (ab 5) (ab 7))]) (.aV 1 (.bN [af 8 2,n0 9 (.jX sz (ab 5)),aF 10 (.dk t 1 sz z.toList [(0,(ab 9))]),aF 11 (.app cJ t sz b (ab 8) (ab 10)),ys 2 11])))))
 (.seq (.bN [af 12 2,I 4 12])
 .ret)))⟩
theorem Wi:∀(vs pre post:List Value),vs.length<=post.length->(vs.zipIdx pre.length).foldl (fun cs (x:Value×Nat)=>cs.set (0+x.2) x.1) (pre++post)=pre++vs++post.drop vs.length
 | [],pre,post,_=>by simp
 | v :: vs,pre,[],h=>by simp at h
 | v :: vs,pre,p :: post,h=>by
  have eV:=Wi vs (pre++[v]) post (by simpa using h);simp only[List.length_append,List.length_cons,List.length_nil] at eV;simp only[List.zipIdx_cons,List.foldl_cons,List.length_cons,List.drop_succ_cons];rw[show(pre++p :: post).set (0+pre.length) v=(pre++[v])++post from by simp,eV];simp
theorem acX{S:Fr}{sz:Nat}{z cs:List Value}{t:Nat}(aL:S t = .agg cs.toArray)(aw:cs.length=sz)(bQ:z.length=sz)(ak:0<sz):eQ S ((List.range 1).map fun i=>(i*sz,sz)) [(0,.tmp t)] z=some cs:=by
 have e:lay z 0 (.agg cs.toArray)=cs:=by
  have:=Wi cs [] z (by omega)
  simp only[List.nil_append,List.length_nil] at this;unfold lay;simp only[Value.cells];rw[this,List.drop_eq_nil_of_le (by omega),List.append_nil]
 have bU:(bn S (.tmp t)).cells.size=sz:=by
  show(S t).cells.size=sz;rw[aL];simp[Value.cells,aw]
 have a6:((List.range 1).map fun i=>(i*sz,sz))[0]? = some (0,sz):=by simp
 unfold eQ;simp only[a6];rw[if_pos ⟨bU,by omega⟩];unfold eQ;show some (lay z 0 (S t))=_;rw[aL,e]
section
variable{α:Type}{P:Program}{f:FuncId}{t cJ:TypeId}{sz b:Nat}{enc:α->List Value}{z:Array Value}
theorem Z5(hm:P.follows .mixedOrders=true)(fF:xJ P f=some (RN cJ t sz b z))(bQ:z.size=sz)(hlen:∀x,(enc x).length=sz)(uw:∀x,∀u∈enc x,u.oneCell'=true)(dn:0<sz)
  {jR:Nat}{ha:Array Value}{hb:Nat}{mA:List TypeId}{mK oU:List α->Prop}{N:Nat}{w0 w:World}(dt:okF P jR=true)
  (rQ:SeqStopsK Fence.wide 0 P jR ha (fun x=>#[.agg (enc x).toArray]) (lM hb mA) mK oU N w0)(he:Ext w0 w)(yg:hb<=w.heap.size)(aL:t∉mA)(DN:cJ∉mA)(c5:cJ≠t)(gi:N*b<=140737488355328)(TF:N<=maxLen) :
  bu P f #[.slice none 0 0,.func (.func jR) #[] ha] w fun v w'=>(∃xs,mK xs/\bs enc t sz w.heap.size w' v xs)/\Ext w w':=by
 refine fV.start hm fF (args:=[_,_]) (Nat.le_of_ble_eq_true rfl) ?_;dsimp only[RN,ab,aj,bT,bd,n0,aF,dh,hF,vd,I,ai,ah,af,bj,ys,bM];refine fV.h5 ?_;refine aa ?_;intro av bC cR aB ao;refine aa ?_;refine fV.se (fV.h5 ?_);simp -dsimp only[c4,cF,Nat.reduceAdd,Nat.reduceEqDiff,reduceIte,reduceCtorEq,db];refine fV.aV (fV.sd (w0:=w0) (enc:=fun x=>.agg (enc x).toArray) (by simp[ft,cu]) dt rQ (he.trans aB) (lM.ok mA (Nat.le_trans yg aB.size))
  (fun pre W=>Mod (fun k=>k=bC) av W/\∃(bl:Option Addr) (n c:Nat),W.heap[bC]? = some (.cells #[.slice bl n c] cJ)/\bs enc t sz av.heap.size W (.slice bl n c) pre) ?_ ⟨Mod.refl _ _,none,0,0,ao,bs.nil _ _ _ _ _⟩ ?_ ?_)
 .rintro pre W b7 row ⟨hm,bl,n,c,aC,bc⟩ aZ ba;refine⟨hm.high aZ fun r e=>(ba r e).1,bl,n,c,?_,bc.mod (Mod.grown (A:=fun k=>row=some k) aZ fun k e=>e) fun k hk a=>?_⟩
  .rw[aZ.block bC (cH aC) fun e=>?_]
   .exact aC
   .obtain⟨al,h1,U⟩:=(ba bC e.symm).2;rw[aC] at h1;injection h1 with h1;subst h1;cases U
  .obtain⟨cur,ag⟩:=bc.aV k hk;obtain⟨al,h1,U⟩:=(ba k a).2;rw[ag] at h1;injection h1 with h1;subst h1;cases U
 .rintro pre x W ⟨hm,bl,n,c,nJ,bc⟩ cw;have UM:=cH ao;have aoA:=hm.size
  try (simp -dsimp only[c4,cF,Nat.reduceAdd,Nat.reduceEqDiff,reduceIte,reduceCtorEq,db])
  refine K.new fun hV dR kR aW cD=>?_
  try (simp -dsimp only[c4,cF,Nat.reduceAdd,Nat.reduceEqDiff,reduceIte,reduceCtorEq,db])
  refine K.h6 cD bQ (by simpa using hlen x) (by simpa using uw x) fun eK hw aP=>?_
  try (simp -dsimp only[c4,cF,Nat.reduceAdd,Nat.reduceEqDiff,reduceIte,reduceCtorEq,db])
  have a6:=hw.ext aW kR;refine⟨a6.keeps _,a6.hB (by omega),fun mN ux=>?_⟩;obtain⟨l,aS,Ap,ij⟩:=ux.mod;have bz:=ux.cells aP;have fo:=ux.cells (a6.obj nJ);have fO:bs enc t sz av.heap.size mN (.slice bl n c) pre:=(bc.ext a6).mod ij fun k hk a=>by
   subst a;obtain⟨cur,ag⟩:=(bc.ext a6).aV k hk;exact Ap _ _ _ ag
  try (simp -dsimp only[c4,cF,Nat.reduceAdd,Nat.reduceEqDiff,reduceIte,reduceCtorEq,db])
  refine K.q0 fo (Ext.refl _) rfl ?_
  try (simp -dsimp only[c4,cF,Nat.reduceAdd,Nat.reduceEqDiff,reduceIte,reduceCtorEq,db])
  refine K.jX (hl bz) (hlen x) ?_
  try (simp -dsimp only[c4,cF,Nat.reduceAdd,Nat.reduceEqDiff,reduceIte,reduceCtorEq,db])
  refine K.lk (acX (cs:=enc x) (by simp[cu]) (hlen x) (by simpa using bQ) dn) fun JB Gi G7 aN bA=>?_
  try (simp -dsimp only[c4,cF,Nat.reduceAdd,Nat.reduceEqDiff,reduceIte,reduceCtorEq,db])
  have afm:pre.length+1<=N:=cw;refine K.vw (ys:=[x]) (fO.ext aN) hlen (by simpa using hl bA) rfl uw (Nat.le_trans (Nat.mul_le_mul_right b afm) gi) (by simp only[List.length_cons,List.length_nil];omega) (by have:=ij.size;have:=aN.size;have:=a6.size;omega) fun ck rB eG kx kd=>?_;obtain⟨jH,oZ,rfl,_⟩:=eG.form;have fM:=aN.obj fo;have C7:rB.heap[bC]? = some (.cells #[.slice bl n c] cJ):=by
   rw[kx.block bC (cH fM) fun e=>?_]
   .exact fM
   .obtain⟨cur,ag⟩:=(fO.ext aN).aV bC e.symm;rw[fM] at ag;injection ag with ag;injection ag with _ ag;exact c5 ag
  try (simp -dsimp only[c4,cF,Nat.reduceAdd,Nat.reduceEqDiff,reduceIte,reduceCtorEq,db])
  refine K.tp C7 (by simp) rfl fun lP fZ ct=>?_
  try (simp -dsimp only[c4,cF,Nat.reduceAdd,Nat.reduceEqDiff,reduceIte,reduceCtorEq,db])
  have gj:∀k,(Value.slice bl n c).ownBlock=some k->av.heap.size<=k:=fun k hk=>(fO.lt k hk).1;have ahT:Mod (fun k=>(Value.slice bl n c).ownBlock=some k\/k=bC) JB lP:=(Mod.grown (A:=fun k=>(Value.slice bl n c).ownBlock=some k) kx fun k e=>e).comp (A':=fun k=>k=bC) (fZ.mod rfl) (fun _ _ a=>.inl a) (fun _ _ a=>.inr a);have MW:Mod (fun k=>(Value.slice bl n c).ownBlock=some k\/k=bC) mN lP:=aN.mod.comp ahT (A:=fun _=>False) (fun _ _ h=>h.elim) (fun _ _ h=>h);refine⟨MW.keeps fun k hk a=>?_,MW.hB (by have:=ij.size;have:=a6.size;omega) (fun k hk a=>?_) (fun k mR hf sH a hk wv=>?_),?_,jH,_,oZ,ct,?_⟩
  .rcases a with a | a
   .obtain⟨cur,ag⟩:=fO.aV k a;exact⟨_,_,_,ag⟩
   .subst a;exact⟨_,_,_,fo⟩
  .rcases a with a | a
   .have:=gj k a;have:=aB.size;omega
   .omega
  .rcases a with a | a
   .obtain⟨cur,ag⟩:=fO.aV k a;rw[ag] at hk;injection hk with hk;injection hk with _ hk;subst hk;exact aL wv
   .subst a;rw[fo] at hk;injection hk with hk;injection hk with _ hk;subst hk;exact DN wv
  .refine(hm.comp (B:=fun k=>k=bC) (A':=fun k=>(Value.slice bl n c).ownBlock=some k\/k=bC\/k=l) ?_ (fun _ _ a=>a) fun k hk a=>?_)
   .exact(a6.mod (A:=fun _=>False)).comp (ij.comp MW (fun _ _ a=>(Or.inr (Or.inr a):_\/_\/_)) (fun _ _ a=>by rcases a with a | a;exact .inl a;exact .inr (.inl a))) (fun _ _ h=>h.elim) (fun _ _ h=>h)
   .rcases a with a | a | a
    .have:=gj k a;omega
    .exact a
    .omega
  .refine eG.mod (fZ.mod (A:=fun k=>k=bC) rfl) fun k hk a=>?_;subst a;obtain⟨cur,ag⟩:=eG.aV k hk;rw[C7] at ag;injection ag with ag;injection ag with _ ag;exact c5 ag
 .rintro D xs W lo cg ⟨hm,bl,n,c,nJ,bc⟩ bw;simp -dsimp only[c4,cF,Nat.reduceAdd,Nat.reduceEqDiff,reduceIte,reduceCtorEq,db];refine K.q0 nJ (Ext.refl _) rfl ?_;simp -dsimp only[c4,cF,Nat.reduceAdd,Nat.reduceEqDiff,reduceIte,reduceCtorEq,db];refine fV.ret bw ?_;simp -dsimp only[c4,cF,Nat.reduceAdd,Nat.reduceEqDiff,reduceIte,reduceCtorEq,db];have bU:Ext w W:=hm.ext aB fun k hk e=>by omega
  refine⟨⟨xs,cg,(bc.mod (A:=fun k=>k=D) ((dC.fe _ _ _).mod rfl) fun k hk a=>?_).low aB.size⟩,bU.fe (Nat.le_trans aB.size lo) _⟩;subst a;obtain⟨cur,ag⟩:=bc.aV k hk;rw[bw] at ag;injection ag with ag;cases ag
end
end bt
end
section
namespace bt
open Go Go.RowKit
theorem bs.map{α β:Type}{enc:β->List Value}{g:α->β}{e:TypeId}{sz base:Nat}{w:World}{v:Value}{xs:List α}(h:bs (fun x=>enc (g x)) e sz base w v xs):bs enc e sz base w v (xs.map g):=by
 unfold bs at *;rw[List.length_map,List.flatMap_map];exact h
theorem bs.iW{α:Type}{enc:α->List Value}{e:TypeId}{sz base:Nat}{w:World}{v:Value}{xs:List α}(dn:∀x,(enc x).length=sz)(h:bs enc e sz base w v xs):bF sz (Flat enc) w v xs:=bs.pq dn h
theorem bs.new{α:Type}{enc:α->List Value}{e:TypeId}{sz:Nat}{w w':World}{v:Value}{xs:List α}(dn:∀x,(enc x).length=sz)(h:bs enc e sz w.heap.size w' v xs):eH w (fun w=>bF sz (Flat enc) w v xs) w':=fun aU m =>
 bs.pq dn (bs.mod h m fun k hk a=>by have:=(h.lt k hk).1;omega)
end bt
namespace Go.Proofs.R
open Go Go.RowKit bt
abbrev kK(w:World)(v:Value)(l:List o.c8):Prop:=bF 2 (Flat o.c8.enc) w v l
abbrev BW(w:World)(v:Value)(l:List o.Ref):Prop:=bF 2 (Flat o.Ref.enc) w v l
theorem VR(cs:List Value)(m:o.Model)(w:World)(h:o.ec w cs m) :
  bu Tryz.prog F.zy #[.agg cs.toArray] w fun v w'=>(∃b,v = .func (.func F.qz) #[] #[.pointer (some ⟨b,0,none⟩)]/\w'.heap[b]? = some (.cells cs.toArray T.b))/\Ext w w':=by
 obtain⟨cz,bS,b9,c1,cn,c2,cp,bP,cA,bX,rfl,_⟩:=h.form;refine bL E.zy ?_;refine bG ?_;refine aa ?_;intro av bC cR aB ao;refine aa ?_;exact⟨⟨bC,rfl,ao⟩,aB⟩
theorem Aw(cs:List Value)(m:o.Model)(w:World)(h:o.ec w cs m)(aZ:m.cQ) :
  bu Tryz.prog F.a #[.agg cs.toArray] w fun v w'=>bs o.c8.enc T.l 2 w.heap.size w' v (o.insts m)/\Ext w w':=by
 obtain⟨cz,bS,b9,c1,cn,c2,cp,bP,cA,bX,rfl,_⟩:=h.form;have aO:=aZ.procs;have aS:=o.uE m;unfold o.dN at aO;refine bL E.a ?_;refine bG ?_;refine aa ?_;intro av bC cR aB ao;refine aa ?_;refine K.call (VR _ m av (h.ext aB)) ?_;rintro _ aU ⟨⟨b,rfl,aP⟩,aA⟩;have c9:Ext w aU:=aB.trans aA;refine aa ?_;refine K.call (f:=F.Ch) (R:=fun v w'=>bs o.c8.enc T.l 2 aU.heap.size w' v (o.insts m)/\Ext aU w') ?_ ?_
 .refine bL E.Ch ?_;refine bG ?_;refine aa ?_;refine K.call (Z5 (α:=o.vv m) (enc:=fun x=>x.1.enc) mn BG.zW rfl (fun _=>rfl) (fun x u hu=>by simp[o.c8.enc] at hu;rcases hu with rfl | rfl<;>rfl) (by decide) (by kernel_rfl)
   (VK aP h c9) (Ext.refl _) c9.size (by decide) (by decide) (by decide) (by omega) (by unfold maxLen;omega)) ?_
  rintro v bb ⟨⟨xs,qY,bc⟩,ax⟩;refine aa ?_;exact⟨by rw[<-qY];exact bc.map,ax⟩
 .rintro v bb ⟨bc,ax⟩;refine aa ?_;exact⟨bc.low c9.size,c9.trans ax⟩
structure la(av:World)(b5 cM dR:Nat)(s:Int×o.c8×List o.Ref)(W:World):Prop where
 mod:Mod (fun k=>k∈[b5,cM,dR]) av W
 ex:∃bl n c,W.heap[b5]? = some (.cells #[.slice bl n c] T.t)/\bs o.Ref.enc T.m 2 av.heap.size W (.slice bl n c) s.2.2
 aJ:W.heap[cM]? = some (.cells #[.int .i64 s.1] T.a)
 bg:W.heap[dR]? = some (.cells s.2.1.enc.toArray T.l)
theorem la.move{av:World}{b5 cM dR:Nat}{s:Int×o.c8×List o.Ref}{W b7:World}{A:Nat->Prop}(h:la av b5 cM dR s W)(m:Mod A W b7)(eL:∀k c t f,W.heap[k]? = some (.cells c t f)->¬A k)(jA:∀k,A k->av.heap.size<=k):la av b5 cM dR s b7:=by
 obtain⟨bl,n,c,e,bc⟩:=h.ex;refine⟨h.mod.comp m (fun _ _ a=>a) fun k hk a=>absurd (jA k a) (by omega),⟨bl,n,c,m.obj (eL _ _ _ _ e) e,bc.mod m fun k hk a=>?_⟩,m.obj (eL _ _ _ _ h.aJ) h.aJ,m.obj (eL _ _ _ _ h.bg) h.bg⟩;obtain⟨cur,ag⟩:=bc.aV k hk;exact eL _ _ _ _ ag a
theorem la.ext{av:World}{b5 cM dR:Nat}{s:Int×o.c8×List o.Ref}{W b7:World}(h:la av b5 cM dR s W)(e:Ext W b7):la av b5 cM dR s b7:=h.move (A:=fun _=>False) e.mod (fun _ _ _ _ _ h=>h) fun _ h=>h.elim
theorem vF{W:World}{k:Nat}{c mR:Array Value}{t hf:TypeId}{f sH:Nat×Nat}(h:W.heap[k]? = some (.cells c t f))(bE:W.heap[k]? = some (.cells mR hf sH)):t=hf:=by
 rw[h] at bE;injection bE with bE;injection bE
theorem la.kp{av:World}{b5 cM dR:Nat}{s:Int×o.c8×List o.Ref}{W b7:World}{n:Int}(h:la av b5 cM dR s W)(hw:dC cM W b7)(aw:b7.heap[cM]? = some (.cells #[.int .i64 n] T.a))(n34:b5≠cM)(n45:dR≠cM):la av b5 cM dR (n,s.2) b7:=by
 obtain⟨bl,k,c,e,bc⟩:=h.ex;refine⟨h.mod.comp (A':=fun k=>k=cM) (hw.mod rfl) (fun _ _ a=>a) fun k hk a=>by simp[a],⟨bl,k,c,hw.obj e n34,bc.mod (hw.mod (A:=fun k=>k=cM) rfl) fun k hk a=>?_⟩,aw,hw.obj h.bg n45⟩;subst a;obtain⟨cur,ag⟩:=bc.aV k hk;exact absurd (vF ag h.aJ) (by decide)
theorem la.hD{av:World}{b5 cM dR:Nat}{s:Int×o.c8×List o.Ref}{W b7:World}{x:o.c8}(h:la av b5 cM dR s W)(hw:dC dR W b7)(aw:b7.heap[dR]? = some (.cells x.enc.toArray T.l))(n35:b5≠dR)(n45:dR≠cM):la av b5 cM dR (s.1,x,s.2.2) b7:=by
 obtain⟨bl,k,c,e,bc⟩:=h.ex;refine⟨h.mod.comp (A':=fun k=>k=dR) (hw.mod rfl) (fun _ _ a=>a) fun k hk a=>by simp[a],⟨bl,k,c,hw.obj e n35,bc.mod (hw.mod (A:=fun k=>k=dR) rfl) fun k hk a=>?_⟩,hw.obj h.aJ (Ne.symm n45),aw⟩;subst a;obtain⟨cur,ag⟩:=bc.aV k hk;exact absurd (vF ag h.bg) (by decide)
theorem la.app{av:World}{b5 cM dR:Nat}{s:Int×o.c8×List o.Ref}{W b7 Ga:World}{bl jH:Option Addr}{n c jG mR:Nat}{l:List o.Ref}(h:la av b5 cM dR s W)(he:W.heap[b5]? = some (.cells #[.slice bl n c] T.t))
  (bc:bs o.Ref.enc T.m 2 av.heap.size W (.slice bl n c) s.2.2)(lV:bs o.Ref.enc T.m 2 av.heap.size b7 (.slice jH jG mR) l)(aZ:W.grownBy b7 (Value.slice bl n c).ownBlock)(hw:dC b5 b7 Ga)
  (aw:Ga.heap[b5]? = some (.cells #[.slice jH jG mR] T.t))(n34:b5≠cM)(n35:b5≠dR):la av b5 cM dR (s.1,s.2.1,l) Ga/\eE av.heap.size [b5,cM,dR] [T.m] W Ga:=by
 have cf:eE av.heap.size [b5,cM,dR] [T.m] W b7:=eE.grown bc aZ (by simp);have rU:∀{k:Nat} {c:Array Value} {t:TypeId},W.heap[k]? = some (.cells c t)->t≠T.m->b7.heap[k]? = some (.cells c t):=fun {k c t} hk aL=>by
  rw[aZ.block k (cH hk) fun e=>?_]
  .exact hk
  .obtain⟨cur,ag⟩:=bc.aV k e.symm;exact aL (vF hk ag)
 have Tu:=cf.trans (hw.zF (by simp));refine⟨⟨eE.from h.mod Tu,⟨jH,jG,mR,aw,lV.mod (hw.mod (A:=fun k=>k=b5) rfl) fun k hk a=>?_⟩,hw.obj (rU h.aJ (by decide)) (Ne.symm n34),hw.obj (rU h.bg (by decide)) (Ne.symm n35)⟩,Tu⟩;subst a;obtain⟨cur,ag⟩:=lV.aV k hk;exact absurd (vF ag (rU he (by decide))) (by decide)
theorem E4(cs:List Value)(m:o.Model)(w:World)(h:o.ec w cs m)(c7:o.vm m) :
  bu Tryz.prog F.e #[.agg cs.toArray] w fun v w'=>bs o.Ref.enc T.m 2 w.heap.size w' v (o.refs m)/\Ext w w':=by
 obtain⟨cz,bS,b9,c1,cn,c2,cp,bP,cA,bX,rfl,ak,h1,U,ag,aJ,eI,ej,eo,dX,ep⟩:=h.form;have qM:=o.uE m;have qV:=c7.procs;refine fV.start mn BG.e (args:=[_]) (Nat.le_of_ble_eq_true rfl) ?_;dsimp only[D.e,ab,aj,bT,bd,n0,aF,dh,hF,vd,I,ai,ah,af,bj,ys,bM,ar,aH,cG,bm,az,dx,cm,J,aE,a7,ca,hE,bD,aY,eW,e9,aX,aq,an,List.map_cons,List.map_nil];refine fV.h5 ?_;refine aa ?_;intro I1 bC cR pX Dc;refine aa ?_;refine fV.h5 ?_;refine aa ?_;intro I2 b5 fo o6 nJ;refine aa ?_;refine fV.h5 ?_;refine aa ?_;intro w2 cM fM mm gu;refine aa ?_;intro wd dR kR o7 T8;have G8:dR≠cM:=by have:=cH gu;omega
 replace gu:=o7.obj gu;refine aa ?_;intro amq HT fh;have aeE:=HT.obj T8 G8;refine aa ?_;intro wf HU Hk;replace Hk:wf.heap[dR]? = some (.cells (⟨-1,0⟩:o.c8).enc.toArray T.l):=Hk;have Fz:=cH Dc;have FA:=cH nJ;have aqi:=cH gu;have Kq:Ext I1 wf:=HU.ext (HT.ext ((o6.trans mm).trans o7) (by have:=o6.size;omega)) (by have:=o6.size;have:=mm.size;omega);have SJ:Ext I2 amq:=HT.ext (mm.trans o7) (by omega);have SK:Ext I2 wf:=HU.ext SJ (by have:=mm.size;omega);have TT:=SK.obj nJ;have ad6:=Kq.obj Dc;replace fh:=HU.obj fh (Ne.symm G8);have n34:b5≠cM:=by omega
 have n35:b5≠dR:=by have:=mm.size;omega
 have aqe:=o6.size;have aqh:=mm.size;clear aeE T8 gu HT HU SJ SK nJ Dc o6 mm o7;refine fV.se (fV.h5 ?_);refine aa ?_;refine K.call (VR _ m wf (h.ext (pX.trans Kq))) ?_;rintro _ rk ⟨⟨anb,rfl,Lc⟩,Dj⟩;have vh:∀{w'},Ext rk w'->Ext w w':=fun e=>((pX.trans Kq).trans Dj).trans e;have Hd:=Dj.obj TT;have K2:=Dj.obj ad6;have KM:=Dj.obj fh;have KO:=Dj.obj Hk;have ao6:=cH Hd;have ao7:=cH KM;have ao8:=cH KO;simp -dsimp only[c4,cF,Nat.reduceAdd,Nat.reduceEqDiff,reduceIte,reduceCtorEq,db];refine fV.aV (fV.sd (w0:=rk) (enc:=fun x:o.vv m=>VC x.1) (by simp[ft,cu]) (by kernel_rfl) (VK Lc h (vh (Ext.refl _))) (Ext.refl _) (lM.ok _ (vh (Ext.refl _)).size)
  (fun pre W=>la rk b5 cM dR ((pre.map Subtype.val).foldl (o.lF m) (-1,⟨-1,0⟩,[])) W) ?_ ⟨Mod.refl _ _,⟨none,0,0,Hd,bs.nil _ _ _ _ _⟩,KM,KO⟩ ?_ ?_)
 .rintro pre W b7 row kB aZ ba;refine kB.move (A:=fun k=>row=some k) (Mod.grown aZ fun k e=>e) (fun k c t f hk a=>?_) fun k a=>(ba k a).1;obtain⟨al,h1,U⟩:=(ba k a).2;rw[hk] at h1;injection h1 with h1;subst h1;cases U
 .rintro pre x W kB cw;have sN:=o.Th c7 (pre.map Subtype.val) (-1,⟨-1,0⟩,[]);simp only[List.length_map,List.length_nil] at sN;have key:((pre++[x]).map Subtype.val).foldl (o.lF m) (-1,⟨-1,0⟩,[])=o.lF m ((pre.map Subtype.val).foldl (o.lF m) (-1,⟨-1,0⟩,[])) x.1:=by
   rw[List.map_append,List.foldl_append];rfl
  generalize (pre.map Subtype.val).foldl (o.lF m) (-1,⟨-1,0⟩,[])=s at kB sN key;have DB:=o.M4 c7 x.1;have DR:=x.2;refine ef ?_;intro hV ek e6 aB ct;refine ef ?_;refine⟨aB.keeps _,aB.hB (Nat.le_trans (vh (Ext.refl _)).size kB.mod.size),fun eK ux=>?_⟩;obtain⟨l,aS,Ap,fp⟩:=ux.mod;replace ct:=ux.cells ct;have uA:la rk b5 cM dR s eK:=(kB.ext aB).move fp (fun k c t f hk a=>by subst a;exact Ap _ _ _ hk) fun k a=>by omega
  have ab3:rk.heap.size<=eK.heap.size:=uA.mod.size;have anK:eK.heap[bC]? = rk.heap[bC]? := uA.mod.block bC (cH K2) (by simp;omega);have UU:ek∉[b5,cM,dR]:=by have:=kB.mod.size;simp;omega
  clear kB ux fp Ap KM KO Hd fh TT Hk;generalize kd:(if x.1≠s.2.1 then s.1+1 else s.1)=at' at key;refine ef ?_;refine K.gU [1,3,4,5,6] (fun _=>[]) (fun(_:Unit) b7=>la rk b5 cM dR (at',s.2) b7/\eE rk.heap.size [b5,cM,dR] [T.m] eK b7) ?_ ?_
  .have anD:=uA.aJ;have Tr:=uA.bg;refine aa ?_;refine K.WK (sig:=o.Ya) (by kernel_rfl) (o.Sd _) (o.Sd _) fun r ba=>?_;refine aa ?_;refine K.du (fun g1=>?_) (fun g1=>?_)
   .have c5:x.1≠s.2.1:=fun e=>ba.1 g1 (by rw[e]);rw[if_pos c5] at kd;subst kd;refine aa ?_;intro mN fR bz;refine aa ?_;exact⟨(),trivial,uA.kp fR bz n34 G8,fR.zF (by simp)⟩
   .have heq:x.1=s.2.1:=o.agN _ _ (Classical.byContradiction fun aD=>by rw[ba.2 aD] at g1;cases g1);rw[if_neg (by simp[heq])] at kd;subst kd;refine aa ?_;exact⟨(),trivial,uA,(Ext.refl eK).zF⟩
  rintro _ S mN ⟨Mg,T9⟩;replace ct:=eE.obj T9 ct UU (by decide);have K3:=Mg.mod.block bC (cH K2) (by simp;omega);rw[K2] at K3;have Tr:=Mg.bg;have Sy:∀b∈[b5,cM,dR],w.heap.size<=b:=fun b aC=>by
   have:=pX.size
   simp at aC;rcases aC with rfl | rfl | rfl<;>omega
  refine ef ?_;simp -dsimp only[cF];refine ef ?_;intro JB ey bA;have Vl:=Mg.hD ey bA n35 G8;have aeG:=eE.trans T9 (ey.zF (by simp));have anL:=ey.obj K3 (by omega);replace ct:=ey.obj ct (by simp at UU;omega);have Cq:Ext w JB:=Vl.mod.ext (vh (Ext.refl _)) fun k hk a=>by have:=Sy k a;omega
  clear K3 Tr;obtain⟨pj,wg⟩:=Int.eq_ofNat_of_zero_le DR.bf;have qP:pj<m.procs.length:=by have:=DR.ad;omega
  obtain⟨a,rfl⟩:=ag.addr (by omega);obtain⟨ay,cE,dT,dL,eR,gn⟩:=ag.at pj qP;obtain⟨_,_,rfl,_⟩:=eR.form;obtain⟨_,_,rfl,lc⟩:=gn.form;have lu:o.q7 m x.1=m.procs[pj].cI.length:=by
   unfold o.q7;rw[wg,o.iT (by omega) (by omega)];simp
  rw[lu] at DB;refine aa ?_;refine K.dp pj wg qP ?_;refine aa ?_;refine K.dj 26 m.procs[pj].cI.length [1,3,4,5,6,25] (fun _=>[]) () (fun j _ b7=>la rk b5 cM dR (at',x.1,s.2.2++o.refsOf at' j) b7/\eE rk.heap.size [b5,cM,dR] [T.m] eK b7) bx bx ⟨by simpa[o.refsOf] using Vl,aeG⟩ ?_;rintro j _ S lP aR ⟨DM,Lj⟩;refine aa ?_;apply K.cond<;>intro g2
  .obtain⟨bl,n,c,bK,bc⟩:=DM.ex;have b0:=DM.aJ;have aoH:=DM.mod.size;refine aa ?_;intro qx am9 jw bJ cS;refine aa ?_;have hlen:(s.2.2++o.refsOf at' j).length+1<=5000:=by
    simp only[List.length_append,o.refsOf,List.length_map,List.length_range];omega
   refine K.vw (ys:=[(⟨at',(j:Int)⟩:o.Ref)]) (bc.ext bJ) (fun _=>rfl) (by simpa[o.Ref.enc] using hl cS) rfl (by intro y u hu;simp[o.Ref.enc] at hu;rcases hu with rfl | rfl<;>rfl)
    (by simp only[List.length_cons,List.length_nil];omega) (by simp only[List.length_cons,List.length_nil];unfold maxLen;omega) (by have:=bJ.size;omega) fun ck ZG iP Hy _=>?_
   obtain⟨jH,oZ,rfl,_⟩:=iP.form;have anw:ZG.heap[b5]? = some (.cells #[.slice bl n c] T.t):=by
    rw[Hy.block b5 (cH (bJ.obj bK)) fun e=>?_]
    .exact bJ.obj bK
    .obtain⟨cur,ag⟩:=(bc.ext bJ).aV b5 e.symm;exact absurd (vF ag (bJ.obj bK)) (by decide)
   refine aa ?_;intro amZ iQ dJ;obtain⟨agf,aeH⟩:=(DM.ext bJ).app (bJ.obj bK) (bc.ext bJ) iP Hy iQ dJ n34 n35;refine aa ?_;exact⟨by omega,bk,(),trivial,by rw[o.XF,<-List.append_assoc];exact agf,eE.trans Lj (eE.trans bJ.zF aeH)⟩
  .have kU:j=m.procs[pj].cI.length:=by omega
   refine aa ?_;refine⟨eE.keeps Lj (fun b aC=>?_),eE.hB Lj (Nat.le_trans (vh (Ext.refl _)).size ab3) (vh (Ext.refl _)).size (fun b aC=>⟨Sy b aC,fun c t f hk aL=>?_⟩) (by decide),?_⟩
   .simp at aC;rcases aC with rfl | rfl | rfl<;>omega
   .simp at aC;rcases aC with rfl | rfl | rfl
    .obtain⟨_,_,_,e,_⟩:=uA.ex
     have:=vF hk e;subst this;revert aL;decide
    .have:=vF hk uA.aJ;subst this;revert aL;decide
    .have:=vF hk uA.bg;subst this;revert aL;decide
   .show la rk b5 cM dR _ lP;rw[key]
    have:o.lF m s x.1=(at',x.1,s.2.2++o.refsOf at' j):=by unfold o.lF;rw[kd,lu,kU]
    rw[this];exact DM
 .rintro D xs W lo cg kB bw;obtain⟨bl,n,c,bK,bc⟩:=kB.ex;have yb:=o.aj5 m;rw[cg] at bc;rw[yb] at bc;simp -dsimp only[c4,cF,Nat.reduceAdd,Nat.reduceEqDiff,reduceIte,reduceCtorEq,db];refine K.q0 bK (Ext.refl _) rfl ?_;simp -dsimp only[c4,cF,Nat.reduceAdd,Nat.reduceEqDiff,reduceIte,reduceCtorEq,db];refine fV.ret bw ?_;simp -dsimp only[c4,cF,Nat.reduceAdd,Nat.reduceEqDiff,reduceIte,reduceCtorEq,db];have sG:w.heap.size<=rk.heap.size:=(vh (Ext.refl _)).size;have bU:Ext w W:=kB.mod.ext (vh (Ext.refl _)) fun k hk a=>by
   have:=pX.size
   simp at a;rcases a with rfl | rfl | rfl<;>omega
  refine⟨(bc.mod (A:=fun k=>k=D) ((dC.fe _ _ _).mod rfl) fun k hk a=>?_).low sG,bU.fe (Nat.le_trans sG lo) _⟩;subst a;obtain⟨cur,ag⟩:=bc.aV k hk;rw[bw] at ag;injection ag with ag;cases ag
end Go.Proofs.R
end
section
namespace o
theorem VD:∀(y:c8),∀u∈y.enc,u.oneCell'=true:=by intro y u hu;simp[c8.enc] at hu;rcases hu with rfl | rfl<;>rfl
theorem aj2:∀(y:Ref),∀u∈y.enc,u.oneCell'=true:=by intro y u hu;simp[Ref.enc] at hu;rcases hu with rfl | rfl<;>rfl
end o
namespace Go.Proofs.R
open Go Go.RowKit bt
theorem Bc(cs:List Value)(m:o.Model)(w:World)(h:o.ec w cs m)(aZ:m.cQ) :
  bu Tryz.prog F.q2 #[.agg cs.toArray] w fun v w'=>bs o.c8.enc T.l 2 w.heap.size w' v (o.insts m)/\Ext w w':=by
 obtain⟨cz,bS,b9,c1,cn,c2,cp,bP,cA,bX,rfl,ak,h1,U,ag,aJ,eI,ej,eo,dX,ep⟩:=h.form;have aO:=aZ.procs;have aS:=o.uE m;unfold o.dN at aO;refine bL E.q2 ?_;refine bG ?_;refine aa ?_;intro av bC cR aB ao;refine aa ?_;refine K.dj 4 m.procs.length [1] (fun x:gN×List o.c8=>[(3,.slice x.1.1 x.1.2.1 x.1.2.2)]) ((none,0,0),[]) (fun k x w'=>(Ext w w'/\w'.heap[bC]? = av.heap[bC]?)/\bs o.c8.enc T.l 2 w.heap.size w' (.slice x.1.1 x.1.2.1 x.1.2.2) x.2/\x.2++o.iR m (m.procs.drop k) k=o.insts m) bx bx ⟨⟨aB,rfl⟩,bs.nil _ _ _ _ _,by simp[o.insts]⟩ ?_;rw[ao];clear ao;rintro k ⟨v,l⟩ S aU hk ⟨⟨aA,aP⟩,fN,rP⟩;refine aa ?_;apply K.cond<;>intro g1
 .have br:k<m.procs.length:=by omega
  obtain⟨a,rfl⟩:=ag.addr (by omega);obtain⟨ay,cE,dT,dL,eR,gn⟩:=ag.at k br;obtain⟨_,_,rfl,_⟩:=eR.form;obtain⟨_,_,rfl,_⟩:=gn.form;rw[o.VE br] at rP;have qQ:=congrArg List.length rP;simp only[List.length_append] at qQ;have um:=o.Cz m m.procs[k];refine ef ?_;simp -dsimp only[cF];refine ef ?_;refine K.gU [1,4] (fun x:gN=>[(3,.slice x.1 x.2.1 x.2.2)]) (fun x w'=>(Ext w w'/\w'.heap[bC]? = aU.heap[bC]?)/\bs o.c8.enc T.l 2 w.heap.size w' (.slice x.1 x.2.1 x.2.2) (l++o.iq k m.procs[k])) ?_ ?_
  .refine aa ?_;apply K.cond<;>intro g2
   .have bU:o.iq k m.procs[k]=[⟨(k:Int),0⟩]:=by unfold o.iq;rw[if_pos g2]
    rw[bU] at qQ ⊢;simp only[List.length_cons,List.length_nil] at qQ;refine aa ?_;intro bb b5 fo ax bz;have fO:=fN.ext ax;have nJ:=ax.obj aP;refine aa ?_;refine K.mQ (y:=⟨(k:Int),0⟩) fO bz rfl (fun _=>rfl) o.VD (by simp only;omega) (by unfold maxLen;simp only;omega) (aA.trans ax).size fun bl n c bp fq pa=>?_;refine aa ?_;exact⟨(bl,n,c),bx,⟨fO.mc (aA.trans ax) pa (Nat.le_refl _),by rw[aP];exact fO.box pa nJ (by decide)⟩,fq⟩
   .have bU:o.iq k m.procs[k]=[]:=by unfold o.iq;rw[if_neg g2]
    refine aa ?_;exact⟨v,bx,⟨aA,bk⟩,by rw[bU,List.append_nil];exact fN⟩
  rintro v3 S bb ⟨⟨ax,bz⟩,fO⟩;rw[aP] at bz;clear aP;refine aa ?_;refine K.w3 [1,4] (fun x:gN×Nat=>[(3,.slice x.1.1 x.1.2.1 x.1.2.2),(5,.int .i64 ((x.2:Int)+1))]) (v3,0) (fun x w'=>(x.2<=o.elems m m.procs[k]/\Ext w w'/\w'.heap[bC]? = bb.heap[bC]?)/\bs o.c8.enc T.l 2 w.heap.size w' (.slice x.1.1 x.1.2.1 x.1.2.2) (l++o.iq k m.procs[k]++o.iU k x.2)) (fun x=>4 - x.2) bx ⟨⟨Nat.zero_le _,ax,rfl⟩,by simpa[o.iU] using fO⟩ ?_;rw[bz];clear bz;rintro⟨v4,j⟩ S bp ⟨⟨aR,aN,bA⟩,fq⟩;refine aa ?_;refine K.gB _ (fun w' e=>ajU _ m m.procs[k] _ _ w' (h.ext (aN.trans e))) ?_;refine aa ?_;intro bR aW;have cD:=aW.obj bA;have eG:=fq.ext aW;refine aa ?_;apply K.cond<;>intro g2
  .have eP:j<o.elems m m.procs[k]:=by omega
   refine aa ?_;intro bY ek e6 a8 ct;have dO:=eG.ext a8;have nJ:=a8.obj cD;have ui:=(aN.trans aW).trans a8;refine aa ?_;have jA:(l++o.iq k m.procs[k]++o.iU k j).length+1<=(o.insts m).length:=by
    simp only[List.length_append,o.iU,List.length_map,List.length_range] at qQ ⊢;omega
   refine K.mQ (y:=⟨(k:Int),(j:Int)+1⟩) dO ct rfl (fun _=>rfl) o.VD (Nat.le_trans (Nat.mul_le_mul_right 16 jA) (by omega)) (Nat.le_trans jA (by unfold maxLen;omega)) ui.size fun bl n c cd ew jV=>?_;refine aa ?_;exact⟨((bl,n,c),j+1),bx,⟨⟨by show j+1<=_;omega,dO.mc ui jV (Nat.le_refl _),dO.box jV nJ (by decide)⟩,by rw[o.W0,<-List.append_assoc];exact ew⟩,by show 4 - (j+1)<4 - j;omega⟩
  .have kU:j=o.elems m m.procs[k]:=by simp only at aR;omega
   refine aa ?_;exact⟨br,bk,(v4,l++(o.iq k m.procs[k]++o.iU k j)),bx,⟨aN.trans aW,cD⟩,by rw[<-List.append_assoc];exact eG,by rw[kU,<-rP];simp⟩
 .rw[List.drop_eq_nil_of_le (by omega)] at rP;refine aa ?_;refine⟨?_,aA⟩;simp only[o.iR,List.append_nil] at rP;rw[<-rP];exact fN
theorem XB(cs:List Value)(m:o.Model)(w:World)(h:o.ec w cs m)(aZ:m.cQ)(c7:o.vm m) :
  bu Tryz.prog F.AN #[.agg cs.toArray] w fun v w'=>bs o.Ref.enc T.m 2 w.heap.size w' v (o.refs m)/\Ext w w':=by
 obtain⟨cz,bS,b9,c1,cn,c2,cp,bP,cA,bX,rfl,ak,h1,U,ag,aJ,eI,ej,eo,dX,ep⟩:=h.form;have kk:=o.wQ c7;refine bL E.AN ?_;refine bG ?_;refine aa ?_;intro av bC cR aB ao;refine aa ?_;refine K.call (Bc _ m av (h.ext aB) aZ) ?_;rintro cy aU ⟨ad,aA⟩;have aP:=aA.obj ao;have kA:kK aU cy (o.insts m):=bs.iW (enc:=o.c8.enc) (fun _=>rfl) ad;obtain⟨cU,ci,rfl,bi⟩:=kA.form;have Kj:=aB.trans aA;refine aa ?_;refine K.dj 5 (o.insts m).length [1,3] (fun x:gN×List o.Ref=>[(4,.slice x.1.1 x.1.2.1 x.1.2.2)]) ((none,0,0),[]) (fun k x w'=>(Ext aU w'/\bs o.Ref.enc T.m 2 aU.heap.size w' (.slice x.1.1 x.1.2.1 x.1.2.2) x.2)/\x.2++o.oI m ((o.insts m).drop k) k=o.refs m) bx bx ⟨⟨Ext.refl _,bs.nil _ _ _ _ _⟩,by simp[o.refs]⟩ ?_;rintro k ⟨v,l⟩ S bb hk ⟨⟨ax,fO⟩,Ao⟩;have bz:=ax.obj aP;refine aa ?_;apply K.cond<;>intro g1
 .have br:k<(o.insts m).length:=by omega
  have DR:=o.rT (o.insts m)[k] (List.getElem_mem _);obtain⟨pj,wg⟩:=Int.eq_ofNat_of_zero_le DR.bf;have qP:pj<m.procs.length:=by have:=DR.ad;omega
  obtain⟨a,rfl⟩:=ag.addr (by omega);obtain⟨jc,rfl⟩:=kA.addr (by omega);obtain⟨ay,cE,dT,dL,eR,gn⟩:=ag.at pj qP;obtain⟨_,_,rfl,_⟩:=eR.form;obtain⟨_,_,rfl,lc⟩:=gn.form;have lu:o.q7 m (o.insts m)[k]=m.procs[pj].cI.length:=by
   unfold o.q7;rw[wg,o.iT (by omega) (by omega)];simp
  rw[o.aj3 br,lu] at Ao;have qQ:=congrArg List.length Ao;simp only[List.length_append] at qQ;refine aa ?_;refine K.dj 6 m.procs[pj].cI.length [1,3,5] (fun x:gN=>[(4,.slice x.1 x.2.1 x.2.2)]) v (fun j x w'=>Ext aU w'/\bs o.Ref.enc T.m 2 aU.heap.size w' (.slice x.1 x.2.1 x.2.2) (l++o.refsOf k j)) bx bx ⟨ax,by simpa[o.refsOf] using fO⟩ ?_;clear bz;rintro j v4 S bp aR ⟨aN,fq⟩;have bA:=aN.obj aP;have aot:=dL.ext Kj;refine aa ?_;refine K.dp pj wg qP ?_;refine aa ?_;intro bR aW;have eG:=fq.ext aW;refine aa ?_;apply K.cond<;>intro g2
  .have eP:j<m.procs[pj].cI.length:=by omega
   refine aa ?_;intro bY ek e6 a8 ct;have dO:=eG.ext a8;have ui:=(aN.trans aW).trans a8;refine aa ?_;have jA:(l++o.refsOf k j).length+1<=4500:=by
    simp only[List.length_append,o.refsOf,List.length_map,List.length_range] at qQ ⊢;omega
   refine K.mQ (y:=⟨(k:Int),(j:Int)⟩) dO ct rfl (fun _=>rfl) o.aj2 (by omega) (by unfold maxLen;omega) ui.size fun bl n c cd ew jV=>?_;refine aa ?_;exact⟨eP,bk,(bl,n,c),bx,dO.mc ui jV (Nat.le_refl _),by rw[o.XF,<-List.append_assoc];exact ew⟩
  .have kU:j=m.procs[pj].cI.length:=by omega
   refine aa ?_;exact⟨br,bk,(v4,l++o.refsOf k j),bx,⟨aN.trans aW,eG⟩,by rw[kU,<-Ao];simp⟩
 .rw[List.drop_eq_nil_of_le (by omega)] at Ao;refine aa ?_;refine⟨?_,Kj.trans ax⟩;simp only[o.oI,List.append_nil] at Ao;rw[<-Ao];exact fO.low Kj.size
end Go.Proofs.R
end
section
namespace bt
open Go
def eB(n:Int):List Value:=[.int .i64 n]
theorem ma:∀(y:Int),∀u∈eB y,u.oneCell'=true:=by intro y u hu;simp[eB] at hu;subst hu;rfl
instance aoM:nv (Flat eB) (fun n=>[Value.int .i64 n]):=⟨fun _ _ _ h=>h⟩
end bt
end
section
namespace Go.Proofs.R
open Go Go.RowKit bt
abbrev encI:Int->List Value:=fun n=>[Value.int .i64 n]
abbrev l4(base:Nat)(w:World)(v:Value)(xs:List Int):Prop:=bs encI T.a 1 base w v xs
structure ru(base b:Nat)(w:World)(m:Value)(st:List Int):Prop where
 ex:∃yQ,w.heap[b]? = some (.cells #[yQ,m] T.zo)/\l4 base w yQ st
 lt:b<base
 le:base<=w.heap.size
theorem ru.ext{base b:Nat}{w w':World}{m:Value}{st:List Int}(h:ru base b w m st)(he:Ext w w'):ru base b w' m st :=
 let ⟨yQ,h1,U⟩:=h.ex
 ⟨⟨yQ,he.obj h1,U.ext he⟩,h.lt,Nat.le_trans h.le he.size⟩
theorem KJ(st:List Int)(h:0<st.length):st.getLastD 0=st[st.length - 1]:=by
 rw[List.getLastD_eq_getLast?,List.getLast?_eq_getElem?,List.getElem?_eq_getElem (by omega)];rfl
theorem alO(base b:Nat)(w:World)(m:Value)(st:List Int)(h:ru base b w m st)(ak:0<st.length) :
  bu Tryz.prog F.bU #[.pointer (some ⟨b,0,none⟩)] w fun v w'=>v = .int .i64 (st.getLastD 0)/\Ext w w':=by
 obtain⟨yQ,dm,bc⟩:=h.ex;obtain⟨bl,cap,rfl,aw,hm⟩:=bc.form;have ad:Ints w _ st:=bs.pq (enc:=encI) (sz:=1) (fun _=>rfl) bc;obtain⟨a,rfl⟩:=ad.addr ak;unfold maxLen at hm;refine bL E.bU ?_;refine bG ?_;refine aQ ?_;refine K.dp (st.length - 1) (by omega) (by omega) ?_;refine aQ ?_;intro av he;refine aQ ?_;rw[KJ _ ak];exact cC
theorem ag9(x:o.Node)(cs:List Value)(s:o.Scope)(base b:Nat)(w:World)(m:Value)(st:List Int)(au:x.ok)(h:o.fC w cs s)(hm:ru base b w m st)(ag:x.op=3->0<st.length) :
  bu Tryz.prog F.oi #[.pointer (some ⟨b,0,none⟩),.agg x.enc.toArray,.agg cs.toArray] w fun v w'=>v = .tuple #[.int .i64 (o.il x s (st.getLastD 0)).1,.int .i64 (o.il x s (st.getLastD 0)).2]/\Ext w w':=by
 obtain⟨a0,bS,dD,c1,a2,c2,a3,bP,a4,bX,rfl,qc,dH,dM,eh,hc,eI,ej,eo,dX,ep⟩:=h.form;refine bL E.oi ?_;refine bG ?_;simp -dsimp only[cF];refine pE ?_;refine K.new fun av bC cR aB ao=>?_;refine pE ?_;refine K.new fun aU cr dQ aA aP=>?_;have he:=aB.trans aA;have dc:aU.heap[bC]? = some (.cells #[.int .i64 x.op,.int .i64 x.n] T.f):=aA.obj ao;clear ao;refine pE ?_;simp -dsimp only[cF];refine pE ?_;refine K.cut (fun bh w'=>bh 0 = .pointer (some ⟨b,0,none⟩)/\bh 4 = .pointer (some ⟨bC,0,none⟩)/\bh 5 = .pointer (some ⟨cr,0,none⟩)/\w'=aU/\(x.op=2\/x.op=3\/x.op=4) /\
  bh 8=if x.op=4 then .slice a4 s.locals.length bX else .slice dD s.vars.length c1) ?_ ?_
 .refine aQ ?_;apply K.cond<;>intro g1
  .refine aQ ?_;refine K.call (RJ x.n 0 aU) ?_;rintro _ bb ⟨rfl,ax⟩;have hk:o.il x s (st.getLastD 0)=if o.within x.n then (0,0) else (0,10):=by rw[o.il,if_pos g1]
   have aL:(o.tell (· + ·) x.n 0).2=o.within x.n:=by
    unfold o.tell
    have:o.within 0=true:=rfl
    simp only[Int.add_zero,this,Bool.and_true,Bool.and_self];split<;>simp_all
   rw[hk,aL];refine aQ ?_;refine K.du (fun g2=>?_) (fun g2=>?_)
   all_goals
    refine aQ ?_;rw[g2];exact cC
  refine aQ ?_;apply K.cond<;>intro g4
  .refine aQ ?_;refine⟨trivial,trivial,trivial,trivial,.inr (.inr g4),by rw[if_pos g4]⟩
  refine aQ ?_;apply K.cond<;>intro g2
  .refine aQ ?_;refine⟨trivial,trivial,trivial,trivial,.inl g2,by rw[if_neg g4]⟩
  refine aQ ?_;apply K.cond<;>intro g3
  .refine aQ ?_;refine⟨trivial,trivial,trivial,trivial,.inr (.inl g3),by rw[if_neg g4]⟩
  refine aQ ?_;refine K.gS (c:=[_,_]) dc (Ext.refl _) rfl ?_;refine aQ ?_;refine K.gS (c:=[_,_,_,_,_,_]) aP (Ext.refl _) rfl ?_;refine aQ ?_;refine K.call (aha x _ s aU au (h.ext he)) ?_;rintro _ bb ⟨rfl,ax⟩;refine aQ ?_;have hk:o.il x s (st.getLastD 0)=o.lC x s:=by rw[o.il,if_neg g1,if_neg (by omega)]
  rw[hk];exact cC
 .rintro S w' cg ⟨jl,oK,nT,rfl,lv,X3⟩;have hk:o.il x s (st.getLastD 0)=(let q:=o.fP (if x.op=4 then s.locals else s.vars) x.n s;if q.2.2=false then (0,8) else if (x.op=3/\(q.2.1=0\/st.getLastD 0≠q.2.1))\/(x.op≠3/\q.2.1≠0) then (0,9) else (q.1,0)):=by
   rw[o.il,if_neg (by omega),if_pos lv]
  rw[hk];clear hk;have aT:o.hh w' (S 8) (if x.op=4 then s.locals else s.vars):=by
   rw[X3];split
   .exact hc.ext he
   .exact dH.ext he
  generalize (if x.op=4 then s.locals else s.vars)=l at aT ⊢;obtain⟨Ou,dW⟩:∃Ou,S 8=Ou:=⟨_,rfl⟩;rw[dW] at aT;clear X3;refine dq (zI jl (zI oK (zI nT dW))) ?_;refine K.gS (c:=[_,_,_,_,_,_]) aP (Ext.refl _) rfl ?_;refine dq (zI jl (zI oK nT)) ?_;refine K.call (ame _ l x.n _ s w' aT (h.ext he)) ?_;rintro _ bb ⟨rfl,ax⟩;generalize o.fP l x.n s=q;obtain⟨wO,yK,Nt⟩:=q;refine dq (zI jl (zI oK nT)) ?_;refine K.du (fun g1=>?_) (fun g1=>?_);rotate_left
  .refine aQ ?_;simp only[g1,if_true];exact cC
  have m3:=(hm.ext he).ext ax;refine dq (zI jl (zI oK nT)) ?_;apply K.cond<;>intro g2
  .refine dq (zI jl (zI oK nT)) ?_;apply K.cond<;>intro g3
   .refine dq (zI jl (zI oK nT)) ?_;simp only[g1,Bool.true_eq_false,if_false];rw[if_pos (.inl ⟨g2,.inl g3⟩)];exact cC
   refine dq (zI jl (zI oK nT)) ?_;refine K.call (alO base b bb m st m3 (ag g2)) ?_;rintro _ bp ⟨rfl,aN⟩;refine dq (zI jl (zI oK nT)) ?_;apply K.cond<;>intro g4
   .refine dq (zI jl (zI oK nT)) ?_;simp only[g1,Bool.true_eq_false,if_false];rw[if_neg (by omega)];exact cC
   .refine aQ ?_;simp only[g1,Bool.true_eq_false,if_false];rw[if_pos (.inl ⟨g2,.inr g4⟩)];exact cC
  .refine dq (zI jl (zI oK nT)) ?_;apply K.cond<;>intro g4
   all_goals
    refine aQ ?_;simp only[g1,Bool.true_eq_false,if_false]
   .rw[if_neg (by omega)];exact cC
   .rw[if_pos (.inr ⟨g2,g4⟩)];exact cC
end Go.Proofs.R
end
section
namespace Go.Proofs.R
open Go Go.RowKit bt
theorem K.Nv{P:Program}{x:Value}{args:List Value}{w:World}{aI:Value->Prop}{t}(v:Value)(h:∀w',Ext w w'->vf P x args w' (fun u b2=>u=v/\Ext w' b2) ⟨⟩)(hk:aI v):BS P x args w aI t:=by
 unfold BS;refine⟨v,fun w' he=>?_,hk⟩
 have:=h w' he
 unfold vf at this;obtain⟨f,first,cap,e,aK,ba⟩:=this;exact⟨f,first,cap,e,aK,ba.mono fun _ _ ⟨h1,U⟩=>⟨h1,he.trans U⟩⟩
theorem y7.ext{w w':World}{v:Value}{g:Int->Int->Int×Bool}(he:Ext w w')(h:y7 w v g):y7 w' v g:=by
 rcases h with h | ⟨c,f,p,h1,U,ag⟩
 .exact .inl h
 .exact .inr ⟨c,f,p,h1,he.obj U,ag⟩
def Ob(f:o.Node->List Int->Int×Int)(two:o.pz->List Int->Int×Int)(leaf:o.Node->List Int->Int×Int):Prop :=
 ∀x st,f x st=match o.gI x.op with | some al=>two al (st.drop (st.length - al.parts.toNat)) | none=>leaf x st
theorem WT{x:Int}{al:o.pz}(h:o.gI x=some al):1<=al.parts/\al.parts<=2:=by
 unfold o.gI at h
 repeat' split at h
 all_goals first | (cases h;exact⟨by decide,by decide⟩) | cases h
theorem alx(f:o.Node->List Int->Int×Int)(two:o.pz->List Int->Int×Int)(leaf:o.Node->List Int->Int×Int)(aK:Ob f two leaf)
  (x:o.Node)(base b:Nat)(w:World)(m l2 v2:Value)(st:List Int)(hm:ru base b w m st)(bc:pA w m)(ub:st.length<=24)
  (LV:0<=o.e0 x.op->o.e0 x.op<=st.length->o.gI x.op=none->∀w' da t,Ext w w'->(∀b2,Ext w' b2->da (.tuple #[.int .i64 (leaf x st).1,.int .i64 (leaf x st).2]) b2)->w7 Tryz.prog l2 [.agg x.enc.toArray] w' da t)
  (Mj:∀al e1 ga w' da t,Ext w w'->o.gI x.op=some al->BP w' al e1->al.parts<=st.length->Ints w' ga (st.drop (st.length - al.parts.toNat)) ->
   (∀b2,Ext w' b2->da (.tuple #[.int .i64 (two al (st.drop (st.length - al.parts.toNat))).1,.int .i64 (two al (st.drop (st.length - al.parts.toNat))).2]) b2)->vf Tryz.prog v2 [e1,ga] w' da t) :
  bu Tryz.prog F.xP #[.pointer (some ⟨b,0,none⟩),.agg x.enc.toArray,l2,v2] w fun v w' =>
   v = .int .i64 (o.stepG f x st).1/\Mod (fun k=>k=b\/base<=k) w w'/\((o.stepG f x st).1=0->ru base b w' m (o.stepG f x st).2):=by
 obtain⟨yQ,dm,gj⟩:=hm.ex;obtain⟨bl,cap,rfl,De,ik⟩:=gj.form;have ad:Ints w _ st:=bs.pq (enc:=encI) (sz:=1) (fun _=>rfl) gj;unfold maxLen at ik;refine bL E.xP ?_;refine bG ?_;simp -dsimp only[cF];refine pE ?_;refine K.new fun av bC cR aB ao=>?_;refine pE ?_;simp -dsimp only[cF];refine pE ?_;refine K.gB _ (fun w' e=>ai5 x.op m w' (bc.ext (aB.trans e))) ?_;refine pE ?_;intro aU aA;have fx:=aB.trans aA;refine pE ?_;simp -dsimp only[cF];generalize aD:o.e0 x.op=n;have ki : -1<=n/\n<=2:=by rw[<-aD];unfold o.e0; (repeat' split)<;>omega
 refine aQ ?_;apply K.cond<;>intro g1
 .refine aQ ?_;have ay:o.stepG f x st=(3,st):=by unfold o.stepG;rw[aD,if_pos g1]
  rw[ay];exact⟨rfl,fx.mod,fun h=>by cases h⟩
 refine aQ ?_;apply K.cond<;>intro g2
 .refine aQ ?_;have ay:o.stepG f x st=(4,st):=by unfold o.stepG;rw[aD,if_neg g1,if_pos g2]
  rw[ay];exact⟨rfl,fx.mod,fun h=>by cases h⟩
 refine pE ?_;simp -dsimp only[cF];refine pE ?_;simp -dsimp only[cF];refine pE ?_;have eD:o.stepG f x st=if (f x st).2≠0 then ((f x st).2,st) else if (st.take (st.length - n.toNat)++[(f x st).1]).length > 12 then (12,st) else (0,st.take (st.length - n.toNat)++[(f x st).1]):=by
  unfold o.stepG;rw[aD,if_neg g1,if_neg g2]
 rw[eD];clear eD;have wa:=aK x st;generalize ba:f x st=r at wa ⊢;refine K.cut (fun bh w'=>bh 0 = .pointer (some ⟨b,0,none⟩)/\bh 9 = .int .i64 n/\bh 10 = .int .i64 r.1/\bh 11 = .int .i64 r.2/\Ext w w') ?_ ?_
 .refine aQ ?_;intro bb ax;obtain⟨es,q,nb,ph,uF⟩:=(bc.ext (fx.trans ax)).look x.op;refine aQ ?_;refine K.mv nb ph ?_;cases lv:o.gI x.op with
  | none =>
   simp only[lv] at uF wa;subst uF;simp only[lY,Option.map_none,Option.getD_none,Option.isSome_none,if_true];refine aQ ?_;refine K.new fun bp cM fM aN bA=>?_;refine⟨aN,?_⟩;refine aQ ?_;refine K.h6 (cs:=#[.int .i64 0,.int .i64 0,.int .i64 0,.nilFunc]) bA rfl rfl (by simp[Value.oneCell']) fun bR eZ cD=>?_;have aW:Ext bb bR:=eZ.ext aN fM;clear bA eZ aN;refine aQ ?_;refine K.gS (c:=[_,_]) (aA.obj ao) (fL) rfl ?_;refine aQ ?_;refine LV (by omega) (by omega) lv _ _ _ ((fx.trans ax).trans aW) fun bY a8=>?_;refine aQ ?_;rw[wa];exact⟨trivial,trivial,rfl,rfl,((fx.trans ax).trans aW).trans a8⟩
  | some al =>
   simp only[lv] at uF wa;obtain⟨i,e1,rfl,u,rfl,bw⟩:=uF;obtain⟨b9,cn⟩:=WT lv;have on:=(o.ER lv).1;simp only[lY,Option.map_some,Option.getD_some,Option.isSome_some,if_true];refine aQ ?_;refine K.new fun bp cM fM aN bA=>?_;refine⟨aN,?_⟩;refine aQ ?_;refine K.h6 (cs:=#[.int .i64 al.parts,.int .i64 al.iX,.int .i64 al.makes,u]) bA rfl rfl (by rcases bw with ⟨f,rfl,_⟩ | ⟨c,f,p,rfl,_⟩<;>simp[Value.oneCell']) fun bR eZ cD=>?_;have aW:Ext bb bR:=eZ.ext aN fM;clear bA eZ aN;have Lz:=(fx.trans ax).trans aW;have aoc:BP bb al (.agg #[.int .i64 al.parts,.int .i64 al.iX,.int .i64 al.makes,u]):=⟨u,rfl,bw⟩;obtain⟨p,rfl⟩:=Int.eq_ofNat_of_zero_le (show 0<=n by omega);have aO:al.parts.toNat=p:=by omega
   refine aQ ?_;refine K.gS (c:=[_,_,_,_]) cD (Ext.refl _) rfl ?_;refine aQ ?_;refine K.ak1 (st.length - p) (by simp -dsimp only[c4,cF,Nat.reduceAdd,Nat.reduceEqDiff,reduceIte,reduceCtorEq,db];rw[Int.ofNat_sub (by omega)]) ⟨by omega,by omega⟩ ?_;have aL:=ad.tail (st.length - p) (by omega);rw[aO] at wa;refine aQ ?_;refine K.Nv _ (fun w' e=>Mj al _ _ w' _ _ (Lz.trans e) lv ⟨u,rfl,bw.ext (aW.trans e)⟩ (by omega) (by rw[aO];exact aL.ext Flat.ext (Lz.trans e)) fun b2 a6=>⟨rfl,a6⟩) ?_;refine aQ ?_;intro bY a8;refine aQ ?_;rw[wa,aO];exact⟨trivial,trivial,rfl,rfl,Lz.trans a8⟩
 .clear ao aB aA fx;rintro S bb cg ⟨jl,Fa,E9,Bk,ax⟩;simp -dsimp only[cF];refine dq (zI jl (zI Fa (zI E9 Bk))) ?_;apply K.cond<;>intro g3;rotate_left
  .refine dq Bk ?_;rw[if_pos g3];exact⟨rfl,ax.mod,fun h=>absurd h g3⟩
  obtain⟨p,rfl⟩:=Int.eq_ofNat_of_zero_le (show 0<=n by omega);have pQ:¬r.2≠0:=by simpa using g3
  rw[if_neg pQ];have ik:(st.take (st.length - p)++[r.1]).length=st.length - p+1:=by simp[List.length_take]
  have ij:=hm.ext ax;have fO:l4 base bb (.slice bl st.length cap) st:=gj.ext ax;refine pE ?_;simp -dsimp only[cF];refine dq (zI jl (zI Fa (zI E9 Bk))) ?_;intro bp aN;have fq:l4 base bp (.slice bl st.length cap) st:=fO.ext aN;refine dq (zI jl (zI Fa (zI E9 Bk))) ?_;refine K.tm (st.length - p) (by simp -dsimp only[c4,cF,Nat.reduceAdd,Nat.reduceEqDiff,reduceIte,reduceCtorEq,db];rw[Int.ofNat_sub (by omega)]) (by omega) ?_;refine dq (zI jl (zI Fa (zI E9 Bk))) ?_;refine K.lk (cs:=[r.1].flatMap encI) (by simp[List.range,List.range.loop,eQ,lay,ft,cu,Value.cells,encI]) fun bR dR kR aW cD=>?_;refine⟨aW,?_⟩;refine aQ ?_;have eG:l4 base bR (.slice bl (st.length - p) cap) (st.take (st.length - p)):=bs.head (enc:=encI) (sz:=1) (xs:=st) (fun _=>rfl) (bs.ext aW fq) (st.length - p) (Nat.sub_le _ _);have cw:(st.take (st.length - p)).length=st.length - p:=by simp[List.length_take]
  have A8:((st.take (st.length - p)).length+[r.1].length)*8<=140737488355328:=by rw[cw];simp only[List.length_cons,List.length_nil];omega
  have ajr:(st.take (st.length - p)).length+[r.1].length<=maxLen:=by rw[cw];simp only[List.length_cons,List.length_nil,maxLen];omega
  have dH:∀y,∀u∈encI y,u.oneCell'=true:=fun y u h=>by simp[encI] at h;subst h;rfl
  refine K.su (xs:=st.take (st.length - p)) (ys:=[r.1]) eG (fun _=>rfl) (hl cD) rfl dH A8 ajr (by have:=hm.le;have:=ax.size;have:=aN.size;have:=aW.size;omega) fun v6 bY dO jU=>?_;have C7:bR.heap[b]? = some (.cells #[.slice bl st.length cap,m] T.zo):=aW.obj (aN.obj (ax.obj dm));have e6:bY.heap[b]? = some (.cells #[.slice bl st.length cap,m] T.zo):=by
   refine(jU.block b (cH C7) fun e=>?_).trans C7
   have:=(eG.lt b e.symm).1
   have:=hm.lt
   omega
  refine aQ ?_;refine K.st1 e6 (by simp) (by obtain⟨bl,cap,e,_⟩:=dO.form;rw[e];rfl) fun cd dB cS=>?_;have uu:Mod (fun k=>k=b\/base<=k) w cd :=
   (((ax.trans aN).trans aW).mod.trans (Mod.grown jU fun k hk=>.inr (eG.lt k hk).1)).trans (dB.mod (.inl rfl))
  have ow:ru base b cd m (st.take (st.length - p)++[r.1]) :=
   ⟨⟨v6,cS,dO.wr dB hm.lt⟩,hm.lt,Nat.le_trans hm.le uu.size⟩
  obtain⟨wL,ang,rfl,ct,_⟩:=dO.form;rw[ik];have aop:((st.take (st.length - p)++[r.1]).length:Int)=st.length - p+1:=by rw[ik];omega
  refine dq (zI jl (zI Fa (zI E9 Bk))) ?_;apply K.cond<;>intro g4
  .refine aQ ?_;simp only[Int.toNat_natCast,ik];rw[if_pos (by omega)];exact⟨rfl,uu,fun h=>by cases h⟩
  .refine aQ ?_;simp only[Int.toNat_natCast,ik];rw[if_neg (by omega)];exact⟨rfl,uu,fun _=>ow⟩
end Go.Proofs.R
end