/- Parts. -/
import Derived.Test.YtakmdjclehkglaaGreatDoorQauj
import Derived.Defers
import Derived.Recover
set_option linter.all false
set_option maxRecDepth 100000
set_option maxHeartbeats 16000000
section
namespace bb
open Go Go.RowKit
structure Av where
 n:Nat
 res:List mr
 pre:eC
 b5:List Step
 fn:Operand
 rest:eC
def Mv(ad:Oper):H_ G_ :=
 match ad.guard,ad.dst,ad.op with
 | none,none,.defer ⟨.value x,args,_⟩=>match args.toList with | []=>some x | _=>none
 | _,_,_=>none
def Vi(P:D_)(fn:Func):Code->H_ Av
 | .seq a (.seq (.region _ ops false) c) =>
  match ops.toList.getLast?.bind Mv,comp P fn.ntmps a,pO P fn.ntmps ops ops.toList.dropLast,comp P fn.ntmps c,xp P fn.results.toList with
  | some x,some p9,some b5,some lc,some r=>some ⟨fn.ntmps,r,p9,b5,x,lc⟩
  | _,_,_,_,_=>none
 | _=>none
def GZ(P:D_)(f:E_):H_ Av :=
 match P.funcs[f]? with
 | some fn=>match fn.body with | some c=>Vi P fn c | none=>none
 | none=>none
def tD(P:D_)(f:E_)(cap:Array B_)(u:FrameMode)(w:A_)(R:A_->Prop):Prop :=
 CallsD P f cap u w fun e kb w'=>(∃v,e = .returned v)/\settle kb = .returning/\R w'
def DD(P:D_)(res:C_ mr)(f:E_)(cap:Array B_)(R:B_->A_->Prop):ed->Fr->A_->Prop
 | .normal,S,w=>tD P f cap .returning w fun w'=>pv res S w' fun vs=>R (gY vs) w'
 | .ret,S,w=>tD P f cap .returning w fun w'=>pv res S w' fun vs=>R (gY vs) w'
 | .exit _,_,_=>False
 | .gf c,S,w=>tD P f cap (.panicking c) w fun w'=>pv res S w' fun vs=>R (gY vs) w'
def aqQ(P:D_)(L:Av)(R:B_->A_->Prop)(S:Fr)(w:A_):Prop :=
 ec P L.pre (uO (fun S w=>steps P L.b5 S w fun S w => ∃f cap,aS S L.fn = .func (.func f) #[] cap/\okF P f=true/\ec P L.rest (DD P L.res f cap R) S w) (fun _ _ _=>False)) S w
theorem ae8{ad:Oper}{x:G_}(h:Mv ad=some x):∃ty pos after nz,ad=⟨none,.defer ⟨.value x,#[],nz⟩,ty,pos,after,none⟩:=by
 obtain⟨dst,op,ty,pos,after,guard⟩:=ad;unfold Mv at h;split at h
 .rename_i h1 I ab;simp only at h1 I ab;split at h
  .rename_i aD;injection h with h
   have aY:=Array.toList_eq_nil_iff.1 aD;subst h1 I ab h aY;exact⟨_,_,_,_,rfl⟩
  .cases h
 .cases h
theorem afE{P:D_}{f:E_}{L:Av}(hm:P.follows .mixedOrders=true)(ah:GZ P f=some L){args:C_ B_}{w:A_}{R:B_->A_->Prop}(aV:args.length<=L.n)
  (h:aqQ P L R (hQ args 0) w):a7 P f args.toArray w R:=by
 unfold GZ at ah;split at ah
 .rename_i fn kO;split at ah
  .rename_i c ak;unfold Vi at ah;split at ah
   .rename_i a id ops kE;split at ah
    .rename_i x p9 b5 lc r h1 I ab aD aY;injection ah with ah;subst ah
     obtain⟨ad,aM,ag⟩:=Option.bind_eq_some_iff.1 h1;obtain⟨ty,pos,after,nz,rfl⟩:=ae8 ag;have ajl:ops.toList=ops.toList.dropLast++[⟨none,.defer ⟨.value x,#[],nz⟩,ty,pos,after,none⟩]:=by
      have cw:ops.toList≠[]:=by intro e;rw[e] at aM;cases aM
      rw[List.getLast?_eq_some_getLast cw] at aM;injection aM with aM
      rw[<-aM,List.dropLast_concat_getLast cw]
     have fin:∀(g:E_) (cap:Array B_) (S:Fr) (cD:Act) (w':A_) (u:FrameMode),u≠.run->okF P g=true->Fits [{ target:=.fn (.func g) cap,args:=#[] }] cD S fn.ntmps->tD P g cap u w' (fun w'=>pv r S w' fun vs=>R (gY vs) w') ->
       Leaves P fn cD.tmps (fun e w' => ∃v,e = .returned v/\R v w') cD.defers u w':=by
      intro g cap S cD w' u hu di ax aF;rw[ax.1];refine leaves_cons hu (f:=g) (args:=cap) (by simp[invoke,Cl di]) (CallsD.mono aF ?_);rintro e kb bK ⟨⟨v,rfl⟩,an,aL⟩;simp only[an];obtain⟨vs,bx,b1⟩:=r9 ax _ _ _ aY aL;exact⟨_,wA bx,_,rfl,b1⟩
     refine calls_of_wp_defers kO ak ((wpIn_wide (n:=0)).1 ?_);refine wpIn_seq (wpIn_mono (sound (ds:=[]) (r:=none) (m:=0) hm a p9 I _ _ (hQ args 0) w (MR aV) h) fun e cD w' au=>?_);cases e with
     | normal =>
      obtain⟨S,ax,au⟩:=au;refine wpIn_seq (wpIn_region_list ?_);rw[ajl];refine yo (r:=none) (tl:=[_]) ?_ ?_ _ b5 cD S w' ab ax au
      .rintro a2 kB aH l6 ⟨g,cap,he,di,aG⟩;have hw:Region.wanted (⟨none,.defer ⟨.value x,#[],nz⟩,ty,pos,after,none⟩:Oper) (yielded ops a2.tmps)=true:=rfl;simp only[wpListIn,hw,if_true];have hS:∀ρ:G_->B_,ρ x = .func (.func g) #[] cap->((⟨none,.defer ⟨.value x,#[],nz⟩,ty,pos,after,none⟩:Oper).semAt none ρ).run P aH = .ok (.defer { target:=.fn (.func g) cap,args:=#[] }) aH:=by
        intro ρ akO;simp[Oper.semAt,execOp,resolve,Deferred.ofValue,akO,go_sem]
       refine⟨fun _ _=>trivial,?_⟩;rw[show(nG none).round=none from rfl,hS a2.eval (by rw[l6.eval];exact he)];have aiS:Fits [{ target:=.fn (.func g) cap,args:=#[] }] ({ a2 with defers:={ target:=.fn (.func g) cap,args:=#[] } :: a2.defers }:Act) kB fn.ntmps:=⟨by rw[l6.1],l6.2⟩;refine wpIn_mono (sound (ds:=[{ target:=.fn (.func g) cap,args:=#[] }]) (r:=none) (m:=0) hm kE lc aD _ _ kB aH aiS aG) fun e a4 aR au=>?_;cases e with
       | normal=>obtain⟨pI,pZ,au⟩:=au;exact fin g cap pI a4 aR .returning (by simp) di pZ au
       | ret=>obtain⟨pI,pZ,au⟩:=au;exact fin g cap pI a4 aR .returning (by simp) di pZ au
       | exit i=>obtain⟨pI,pZ,au⟩:=au;exact au.elim
       | panic GW=>obtain⟨pI,pZ,au⟩:=au;exact fin g cap pI a4 aR (.panicking GW) (by simp) di pZ au
       | _=>exact au.elim
      .rintro⟨_,_,ag⟩;obtain⟨_,h1,_⟩:=ag;cases h1
     | ret=>obtain⟨S,ax,au⟩:=au;exact au.elim
     | exit i=>obtain⟨S,ax,au⟩:=au;exact au.elim
     | panic GW=>obtain⟨S,ax,au⟩:=au;exact au.elim
     | _=>exact au.elim
    .cases ah
   .cases ah
  .cases ah
 .cases ah
structure CX where
 n:Nat
 res:List mr
 d:Nat
 e:Nat
 rest:eC
def Qp(ad:Oper):H_ Nat :=
 match ad.guard,ad.op,ad.dst with
 | none,.call ⟨.builtin .recover,args,_⟩,some d=>match args.toList with | []=>some d | _=>none
 | _,_,_=>none
def LR(ad:Oper):H_ (Nat×Nat) :=
 match ad.guard,ad.op,ad.dst with
 | none,.assign (.tmp d),some e=>some (d,e)
 | _,_,_=>none
def Vj(P:D_)(fn:Func):Code->H_ CX
 | .seq (.region _ ops false) c =>
  match ops.toList with
  | [bO,bV]=>match Qp bO,LR bV,comp P fn.ntmps c,xp P fn.results.toList with
   | some d,some (vm,e),some lc,some r=>if d=vm/\d<fn.ntmps/\e<fn.ntmps then some ⟨fn.ntmps,r,d,e,lc⟩ else none
   | _,_,_,_=>none
  | _=>none
 | _=>none
def G0(P:D_)(f:E_):H_ CX :=
 match P.funcs[f]? with
 | some fn=>match fn.body with | some c=>Vj P fn c | none=>none
 | none=>none
def pt:FrameMode->B_×FrameMode
 | .panicking ({ v,recovered:=false,goexit:=false } :: amR)=>(v,.panicking ({ v,recovered:=true } :: amR))
 | u=>(.nilIface,u)
theorem aos(c:Frame)(cs:C_ Frame):(match recoverD (c :: cs) with | some (v,iS)=>(v,iS) | none=>(.nilIface,c :: cs))=((pt c.mode).1,{ c with mode:=(pt c.mode).2 } :: cs):=by
 obtain⟨fn,tmps,todo,defers,mode,kind,ro⟩:=c;unfold recoverD pt;cases mode with
 | run=>rfl
 | returning=>rfl
 | panicking l =>
  cases l with
  | nil=>rfl
  | cons p r =>
   obtain⟨v,rc,ge⟩:=p;cases rc<;>cases ge<;>rfl
theorem aoq{ad:Oper}{d:Nat}(h:Qp ad=some d):∃nz ty pos after,ad=⟨some d,.call ⟨.builtin .recover,#[],nz⟩,ty,pos,after,none⟩:=by
 obtain⟨dst,op,ty,pos,after,guard⟩:=ad;unfold Qp at h;split at h
 .rename_i h1 I ab;simp only at h1 I ab;split at h
  .rename_i aD;injection h with h
   have aY:=Array.toList_eq_nil_iff.1 aD;subst h1 I ab h aY;exact⟨_,_,_,_,rfl⟩
  .cases h
 .cases h
theorem ads{ad:Oper}{d e:Nat}(h:LR ad=some (d,e)):∃ty pos after,ad=⟨some e,.assign (.tmp d),ty,pos,after,none⟩:=by
 obtain⟨dst,op,ty,pos,after,guard⟩:=ad;unfold LR at h;split at h
 .rename_i h1 I ab;simp only at h1 I ab;injection h with h
  injection h with aY bx
  subst h1 I ab aY bx;exact⟨_,_,_,rfl⟩
 .cases h
theorem afF{P:D_}{f:E_}{L:CX}(hm:P.follows .mixedOrders=true)(ah:G0 P f=some L){args:C_ B_}{u:FrameMode}{w:A_}{R:B_->A_->Prop}(aV:args.length<=L.n)
  (h:ec P L.rest (DC L.res R) (bW (bW (hQ args 0) L.d (pt u).1) L.e (pt u).1) w):CallsD P f args.toArray u w fun e kb w'=>kb=(pt u).2/\∃v,e = .returned v/\R v w':=by
 unfold G0 at ah;split at ah
 .rename_i fn kO;split at ah
  .rename_i c ak;unfold Vj at ah;split at ah
   .rename_i id ops kE;split at ah
    .rename_i bO bV Ex;split at ah
     .rename_i d vm e lc r h1 I ab aD;split at ah
      .rename_i aiH;obtain⟨aiG,a6,he⟩:=aiH;subst aiG;injection ah with ah;subst ah
       obtain⟨nz,aqw,anJ,ade,rfl⟩:=aoq h1;obtain⟨aqx,anK,adf,rfl⟩:=ads I;refine callsD_of_wpS kO ak fun Ba cs hu=>?_;refine wpS_seq (wpS_region ?_);have dy:ops.size=2:=by rw[<-Array.length_toList,Ex];rfl
       have BE:ops[0]? = ops.toList[0]? := by simp
       have N0:ops[1]? = ops.toList[1]? := by simp
       rw[Ex] at BE N0;simp only[List.getElem?_cons_zero,List.getElem?_cons_succ] at BE N0;have aL:List.range ops.size=[0,1]:=by rw[dy];rfl
       rw[aL];have akd:∀(ρ:G_->B_),(execOp ρ ⟨some d,.call ⟨.builtin .recover,#[],nz⟩,aqw,anJ,ade,none⟩).run P w = .ok .recover w:=by
        intro ρ;simp[execOp,resolve,invoke,builtin,go_sem]
       have BU:∀(dst:H_ Nat) (op:Op) (ty:F_) (pos:String) (after:Array Edge) (y:Nat->H_ Bool),Region.wanted (⟨dst,op,ty,pos,after,none⟩:Oper) y=true:=fun _ _ _ _ _ _=>rfl;have aiR:=MR (n:=fn.ntmps) aV;have key:∀(v:B_) (iS:C_ Frame),ec P lc (DC r R) (bW (bW (hQ args 0) d v) e v) w->(iS = { Ba with mode:=(pt u).2 } :: cs) ->
         wpOpsS P ops (Exit.thenS (kE.wpS P (bodyPostS P fn Ba cs fun e kb w'=>kb=(pt u).2/\∃v,e = .returned v/\R v w')) (bodyPostS P fn Ba cs fun e kb w'=>kb=(pt u).2/\∃v,e = .returned v/\R v w')) [1]
          (({ tmps:=args.toArray++Array.replicate (fn.ntmps - args.toArray.size) undef,defers:=[] }:Act).put (some d) v) iS w:=by
        intro v iS aG gx;have IE:=aiR.put (d:=some d) (by simpa[xr] using a6) v;have ag:(execOp (({ tmps:=args.toArray++Array.replicate (fn.ntmps - args.toArray.size) undef,defers:=[] }:Act).put (some d) v).eval ⟨some e,.assign (.tmp d),aqx,anK,adf,none⟩).run P w = .ok (.value v) w:=by
         rw[IE.eval];simp[execOp,aS,bb.put,bW]
        simp only[wpOpsS,N0,BU,if_true,ag];rw[Oper.upon_value];have l6:=IE.put (d:=some e) (by simpa[xr] using he) v;refine wpS_of_wp ((wpIn_wide (n:=0)).1 (wpIn_mono (sound (ds:=[]) (r:=none) (m:=0) hm kE lc ab _ _ _ w l6 aG) fun x a4 aR au=>?_));cases x with
        | normal =>
         obtain⟨pI,pZ,au⟩:=au;obtain⟨vs,bx,b1⟩:=r9 pZ _ _ _ aD au;exact⟨pZ.1,_,gx,_,wA bx,rfl,_,rfl,b1⟩
        | ret =>
         obtain⟨pI,pZ,au⟩:=au;obtain⟨vs,bx,b1⟩:=r9 pZ _ _ _ aD au;exact⟨pZ.1,_,gx,_,wA bx,rfl,_,rfl,b1⟩
        | exit i=>obtain⟨pI,pZ,au⟩:=au;exact au.elim
        | panic GW=>obtain⟨pI,pZ,au⟩:=au;exact au.elim
        | _=>exact au.elim
       have qU:=aos Ba cs;rw[hu] at qU;unfold wpOpsS;simp only[BE,BU,if_true,akd];cases IZ:recoverD (Ba :: cs) with
       | none =>
        rw[IZ] at qU;injection qU with bt aI
        exact key .nilIface (Ba :: cs) (by rw[bt];exact h) aI
       | some aqP =>
        obtain⟨v,iS⟩:=aqP;rw[IZ] at qU;injection qU with bt aI
        exact key v iS (by rw[bt];exact h) aI
      .cases ah
     .cases ah
    .cases ah
   .cases ah
  .cases ah
 .cases ah
end bb
namespace bb
open Go Go.RowKit
def Ll(P:D_)(v:B_)(K:E_->Array B_->Prop):Prop := ∃f cap,v = .func (.func f) #[] cap/\okF P f=true/\K f cap
section
variable{P:Program}{S:Fr}{w:World}{res:List mr}{R:Value->World->Prop}
theorem AB9{f:E_}{L:Av}(hm:P.follows .mixedOrders=true)(ah:GZ P f=some L){args:C_ B_}(aV:args.length<=L.n)
  (h:dO P L.pre (hY (fun S w=>ka P L.b5 S w (fun S w=>Ll P (aS S L.fn) fun g cap=>dO P L.rest (DD P L.res g cap R) S w ⟨⟩) ⟨⟩) (fun _ _ _=>False) ⟨⟩) (hQ args 0) w ⟨⟩):a7 P f args.toArray w R:=by
 refine afE hm ah aV ?_;unfold dO hY ka Ll at h;exact h
theorem AC0{g:E_}{cap:Array B_}{K:E_->Array B_->Prop}(di:okF P g=true)(h:K g cap):Ll P (.func (.func g) #[] cap) K:=⟨g,cap,rfl,di,h⟩
theorem AC1{g:E_}{cap:Array B_}(h:tD P g cap .returning w fun w'=>jd res S w' (fun vs=>R (gY vs) w') ⟨⟩):DD P res g cap R .ret S w:=by
 unfold jd at h;exact h
theorem AC2{g:E_}{cap:Array B_}{c:C_ PanicEntry}(h:tD P g cap (.panicking c) w fun w'=>jd res S w' (fun vs=>R (gY vs) w') ⟨⟩):DD P res g cap R (.gf c) S w:=by
 unfold jd at h;exact h
theorem tD.of{g:E_}{cap:Array B_}{u yu:FrameMode}{C1 C2:A_->Prop}(h:CallsD P g cap u w fun e kb w'=>kb=yu/\∃v,e = .returned v/\C1 w')(an:settle yu = .returning)(hk:∀w',C1 w'->C2 w'):tD P g cap u w C2 :=
 CallsD.mono h fun e kb w' ⟨h1,v,I,ab⟩=>⟨⟨v,I⟩,by rw[h1];exact an,hk _ ab⟩
theorem AA1{f:E_}{L:CX}(hm:P.follows .mixedOrders=true)(ah:G0 P f=some L){args:C_ B_}{u:FrameMode}(aV:args.length<=L.n)
  (h:dO P L.rest (qG L.res R ⟨⟩) (bW (bW (hQ args 0) L.d (pt u).1) L.e (pt u).1) w ⟨⟩):CallsD P f args.toArray u w fun e kb w'=>kb=(pt u).2/\∃v,e = .returned v/\R v w':=by
 refine afF hm ah aV ?_;unfold dO qG at h;exact h
theorem aba(d:Nat){t:F_}{ms:Array (String×F_)}(h:P.underlying t=some (.interface ms))(w:A_):(Op.equalIn (d+1) t .nilIface .nilIface).run P w = .ok true w/\∀T v,(Op.equalIn (d+1) t (.iface T v) .nilIface).run P w = .ok false w:=by
 constructor
 .simp[Op.equalIn,run_underlying h]
 .intro T v;simp[Op.equalIn,run_underlying h]
theorem YM{t:F_}(h:(P.underlying t).map x3=some true):∃ms,P.underlying t=some (.interface ms):=by
 obtain⟨d,a6,U⟩:=Option.map_eq_some_iff.1 h;cases d<;>first | exact⟨_,a6⟩ | (simp[x3] at U;done)
theorem AC3{ig:F_}{x:G_}{v:B_}{aC:B_->Prop}{t}(h:(P.underlying ig).map x3=some true)(hk:aC (.bool false)):gA P .neq ig x (.const v) .nilIface .nilIface aC t :=
 _N (v:=.bool false) (fun w=>by
  obtain⟨ms,h⟩:=YM h;have h1:=(aba 9999 h w).1;have I:(Op.equalIn Op.maxDepth ig .nilIface .nilIface).run P w = .ok true w:=h1;cases x<;>simp[eqGuard,binOp,Op.equal,go_sem,I,Result.andThen]) hk
theorem AC4{ig T:F_}{x y:G_}{v:B_}{aC:B_->Prop}{t}(h:(P.underlying ig).map x3=some true)(hk:aC (.bool true)):gA P .neq ig x y (.iface T v) .nilIface aC t :=
 _N (v:=.bool true) (fun w=>by
  obtain⟨ms,h⟩:=YM h;have I:(Op.equalIn Op.maxDepth ig (.iface T v) .nilIface).run P w = .ok false w:=(aba 9999 h w).2 T v;simp[eqGuard,binOp,Op.equal,go_sem,I,Result.andThen]) hk
theorem AC5{x:G_}{aco T ty:F_}{v:B_}{cW:B_->A_->Prop}{t}(ag:aS S x = .iface T v)(h:(P.underlying T).map x3=some false)(hk:cW (.tuple #[v,.bool true]) w):sn P (.typeAssert x aco T true) ty S w cW t:=by
 refine _E (v:=.tuple #[v,.bool true]) (w':=w) ?_ hk;obtain⟨d,a6,U⟩:=Option.map_eq_some_iff.1 h;have h1:(Instr.typeAssert (.iface T v) aco T true).run P w = .ok (.tuple #[v,.bool true]) w:=by
  cases d<;>first | (simp[x3] at U;done) | (simp[Instr.typeAssert,run_underlying a6])
 simp[execOp,ag,h1,Result.andThen]
end
end bb
end
section
namespace Go.Proofs.R
open Go bb Go.Proofs
abbrev F.m:E_:=54
def Sf.oz:Av:=⟨16,[.jw 4 2], (.dk [bN 1 (.box T.g (ae 0)),bN 2 (.new T.x (.agg #[cv,cv,cv,cv]))]),
 [bD 4 (.uz F.m [] [(ae 2)])],(ae 4), (cJ [bN 5 .ta,aq 3 5] (.seq (.fs [h0 6 5 1,aq 7 3] (some 8) F.a0 [(ae 6),(ae 7)]) (.seq (.fs [h0 9 5 1,aq 10 3] (some 11) F.df [(ae 9),(ae 10)]) (.seq (.fs [h0 12 5 1,aq 13 3] (some 14) F.a2 [(ae 12),(ae 13)]) (cJ [bD 15 (.gg [cv,cv,cv,cv] [(0,1),(1,1),(2,1),(3,1)] []),pC 4 2 15] .ret)))))⟩
theorem acD.oz:GZ Tryz.prog F.oz=some Sf.oz:=by kernel_rfl
def Lk.m:CX:=⟨17,[],4,1, (cJ [aq 5 1,bD 6 (.bin .neq T.as (ae 5) (.const .nilIface))] (jL 6 (cJ [aq 8 1,bN 9 (.raw (.typeAssert (ae 8) T.as T.qw true) T.AR),aq 7 9,CE 10 7 0,CE 11 7 1,bN 2 (.new T.qw (.agg #[cv,cv,cv,cv])),pC 4 2 10,aq 3 11] (.seq (cJ [aq 12 3,bD 13 (.un .not (ae 12))] (jL 13 (.r5 [aq 14 1] (ae 14)) .skip)) (.dk [bl 15 0 2,h0 16 4 15,pC 4 0 16]))) .skip))⟩
theorem Sh.m:G0 Tryz.prog F.m=some Lk.m:=by kernel_rfl
end Go.Proofs.R
end
section
namespace o
theorem anP{m:Model}(h:(pr m).cA=0):pr m=tV:=Qd (Kr h)
end o
namespace Go.Proofs.R
open Go Go.RowKit bb
theorem aeI(b:Nat)(w:A_):CallsD Tryz.prog F.m #[.pointer (some ⟨b,0,none⟩)] .returning w fun e kb w'=>kb = .returning/\∃v,e = .returned v/\w'=w:=by
 refine AA1 lj Sh.m (args:=[_]) (Nat.le_of_ble_eq_true rfl) ?_;dsimp only[Lk.m];refine nO ?_;dsimp only[pt];refine J ?_;refine AC3 (by kernel_rfl) ?_
 (repeat' first
 | assumption
 | exact Ext.refl _
 | refine Ext.trans ?_ (by assumption)
 | refine Q_ (by omega) ?_
 | refine _K (by assumption) ?_ rfl ?_
 | refine _D (by assumption) ?_ rfl ?_
 | refine _O (by assumption) ?_ (by omega) rfl ?_
 | refine _P (by assumption) ?_ (by omega) rfl ?_
 | refine _Q (by assumption) ?_ (by omega) rfl ?_
 | refine _T (by omega) ?_
 | refine _R (by first | assumption | omega) ?_
 | refine _S (by first | assumption | omega) ?_
 | refine _G (by assumption) ?_
 | refine _H (by assumption) ?_
 | simp -dsimp only[c0,cB,Nat.reduceAdd,Nat.reduceEqDiff,reduceIte,reduceCtorEq,dd])
theorem aeH(f:o.sh)(b:Nat)(w:A_)(ak:w.heap[b]? = some (.cells #[.int .i64 0,.int .i64 0,.int .i64 0,.int .i64 0] T.x)) :
  CallsD Tryz.prog F.m #[.pointer (some ⟨b,0,none⟩)] (.panicking (wI f)) w fun e kb w'=>kb=(pt (.panicking (wI f))).2/\∃v,e = .returned v /\
   (w'.heap[b]? = some (.cells #[.int .i64 f.cA,.int .i64 f.part,.int .i64 f.item,.int .i64 f.sub] T.x)/\∀w0,Ext w0 w->w0.heap.size<=b->Ext w0 w'):=by
 refine AA1 lj Sh.m (args:=[_]) (Nat.le_of_ble_eq_true rfl) ?_;dsimp only[Lk.m];refine nO ?_;dsimp only[pt,wI];refine J ?_;refine AC4 (by kernel_rfl) ?_;refine J ?_;refine AC5 rfl (by kernel_rfl) ?_;refine J ?_;intro w1 bo cT al ai;have F0:=cy ak;replace ak:=al.obj ak;refine J ?_;intro aH po av;refine J ?_;exact⟨av,fun w0 e aF=>po.ext (e.trans al) aF⟩
theorem x9(cs:C_ B_)(m:o.Model)(w:A_)(h:o.dV w cs m)(aK:m.cN)(aM:gB w) :
  a7 Tryz.prog F.oz #[.agg cs.toArray] w fun v w'=>v = .agg #[.int .i64 (o.check m).cA,.int .i64 (o.check m).part,.int .i64 (o.check m).item,.int .i64 (o.check m).sub]/\Ext w w':=by
 obtain⟨cd,bw,bO,c1,bV,c2,b2,br,cj,bF,rfl,_⟩:=h.form;refine AB9 lj acD.oz (args:=[_]) (Nat.le_of_ble_eq_true rfl) ?_;dsimp only[Sf.oz];refine nO ?_;refine J ?_;intro w1 bo cT al ai;refine J ?_;intro aH bR dt ao av;replace ai:=ao.obj ai;have gj:=cy ai;have z5:=cy av;refine J ?_;refine AC0 (by kernel_rfl) ?_;refine J ?_;refine _g fun aP cn pe aj iW=>?_;replace ai:=aj.obj ai;replace av:=aj.obj av;have z2:=cy av;have z3:=ao.size;have z4:=al.size;have ba:=(al.trans ao).trans aj;have L8:∀(f:o.sh) (w':A_) (S:Fr),Ext w w'->w'.heap[bR]? = some (.cells #[.int .i64 0,.int .i64 0,.int .i64 0,.int .i64 0] T.x)->S 2 = .pointer (some ⟨bR,0,none⟩)->f=o.check m ->
   DD Tryz.prog [.jw 4 2] F.m #[.pointer (some ⟨bR,0,none⟩)] (fun v w'=>v = .agg #[.int .i64 (o.check m).cA,.int .i64 (o.check m).part,.int .i64 (o.check m).item,.int .i64 (o.check m).sub]/\Ext w w') (.gf (wI f)) S w':=by
  rintro f w' S e ah bZ rfl;refine AC2 (tD.of (aeH (o.check m) bR w' ah) rfl ?_);rintro aR ⟨ak,he⟩;simp -dsimp only[c0,cB,Nat.reduceAdd,Nat.reduceEqDiff,reduceIte,reduceCtorEq,dd,bZ];refine R_ ak (Ext.refl _) rfl ?_;simp -dsimp only[c0,cB,Nat.reduceAdd,Nat.reduceEqDiff,reduceIte,reduceCtorEq,dd];exact⟨aU,he _ e (by omega)⟩
 refine J ?_;refine X_ (ag9 _ m cn aP h ba (by omega) aM (fK.empty iW)) ?_ ?_;rotate_left
 .rintro c aR ⟨h1,rfl,bG,m4⟩;refine J ?_;exact L8 _ aR _ bG (m4.obj (by omega) av) rfl (by rw[o.check,if_pos h1])
 rintro _ aR ⟨h1,bG,m4,q5⟩;replace ai:=m4.obj (by omega) ai;replace av:=m4.obj (by omega) av;refine J ?_;refine X_ (anM _ m cn aR h aK bG (by omega) aM h1 q5) ?_ ?_;rotate_left
 .rintro c bq ⟨I,rfl,bU,m5⟩;refine J ?_;exact L8 _ bq _ bU (m5.obj (by omega) av) rfl (by rw[o.check,if_neg (by simpa using h1),if_pos I])
 rintro _ bq ⟨I,bU,m5,q6⟩;replace ai:=m5.obj (by omega) ai;replace av:=m5.obj (by omega) av;refine J ?_;refine X_ (anO _ m cn bq h aK bU (by omega) aM q6) ?_ ?_;rotate_left
 .rintro c bB ⟨ab,rfl,c8,m6⟩;refine J ?_;exact L8 _ bB _ c8 (m6.obj (by omega) av) rfl (by rw[o.check,if_neg (by simpa using h1),if_neg (by simpa using I)])
 rintro _ bB ⟨ab,c8,m6⟩;replace ai:=m6.obj (by omega) ai;replace av:=m6.obj (by omega) av;have lH:o.check m=o.tV:=by rw[o.check,if_neg (by simpa using h1),if_neg (by simpa using I),o.anP ab]
 refine J ?_;intro bQ dT c9;refine J ?_;refine AC1 (tD.of (aeI bR bQ) rfl ?_);rintro _ rfl;refine J ?_;exact⟨by rw[lH];rfl,dT.ext c8 (by omega)⟩
end Go.Proofs.R
end
section
namespace o
open Go
def dN.enc(b:dN):C_ B_:=[.int .i64 b.aO,.int .i64 b.U,.int .i64 b.kind]
def Cell.slot(x:Cell):C_ B_:=[.int .i64 x.sort,.int .i64 x.wN,.int .i64 x.place,.int .i64 x.kind]
def Cell.enc(x:Cell):C_ B_:=[.int .i64 x.sort,.int .i64 x.wN,.int .i64 x.place,.int .i64 x.aO,.int .i64 x.U,.int .i64 x.kind]
theorem xf:∀(y:dN),∀u∈y.enc,u.oneCell'=true:=by intro y u hu;simp[dN.enc] at hu;rcases hu with rfl | rfl | rfl<;>rfl
theorem apD:∀(y:Cell),∀u∈y.slot,u.oneCell'=true:=by intro y u hu;simp[Cell.slot] at hu;rcases hu with rfl | rfl | rfl | rfl<;>rfl
theorem Ds:∀(y:Cell),∀u∈y.enc,u.oneCell'=true:=by intro y u hu;simp[Cell.enc] at hu;rcases hu with rfl | rfl | rfl | rfl | rfl | rfl<;>rfl
end o
namespace Go.Proofs.R
open Go Go.RowKit bb
theorem alR(k:Int)(w:A_)(h:o.dH (k+1)):a7 Tryz.prog F.el #[.int .i64 k] w fun v w'=>v = .int .i64 (o.kindOf k)/\w'=w:=by
 unfold o.dH at h;refine bn E.el ?_;unfold o.kindOf;refine J ?_;apply I_<;>intro g1
 .refine J ?_;exact⟨by rw[if_pos g1],aU⟩
 .refine J ?_;exact⟨by rw[if_neg g1],aU⟩
theorem Qu(k:Int)(w:A_)(h:o.dH (k+1)):a7 Tryz.prog F.J6 #[.int .i64 k] w fun v w'=>v = .int .i64 (o.kindOf k)/\w'=w:=by
 unfold o.dH at h;refine bn E.J6 ?_;unfold o.kindOf;refine J ?_;apply I_<;>intro g1
 .refine J ?_;exact⟨by rw[if_pos g1],aU⟩
 .refine J ?_;exact⟨by rw[if_neg g1,Int.add_comm],aU⟩
theorem PH(x:o.Var)(v:B_)(l:C_ o.Scalar)(w:A_)(aF:o.h2 w v l)(h:o.dH (x.scalar+1)) :
  a7 Tryz.prog F.AW #[.agg x.enc.toArray,v] w fun v w'=>v = .agg (o.e7 x.scalar x.aO x.U l).enc.toArray/\Ext w w':=by
 obtain⟨ad,c,rfl,_⟩:=aF.form;rw[o.yU];refine bn E.AW ?_;refine J ?_;intro w1 bo cT al ai;refine J ?_;intro aH bR dt ao av;replace ai:=ao.obj ai;have gj:=cy ai;have z2:=cy av;have aI:=al.trans ao;refine J ?_;refine J_ (GO x _ l aH (aF.ext aI)) ?_;rintro _ aP ⟨rfl,aj⟩;replace ai:=aj.obj ai;replace av:=aj.obj av;have ba:=aI.trans aj;refine J ?_;refine J_ (alR x.scalar aP h) ?_;rintro _ oh ⟨rfl,rfl⟩;refine J ?_;intro aR du bH;refine J ?_;exact⟨aU,du.ext ba (by have:=al.size;omega)⟩
theorem al5(cs:C_ B_)(m:o.Model)(w:A_)(h:o.dV w cs m)(aK:m.cN)(aM:gB w) :
  a7 Tryz.prog F.cs #[.agg cs.toArray] w fun v w'=>v = .bool (decide ((o.check m).cA=0))/\Ext w w':=by
 obtain⟨cd,bw,bO,c1,bV,c2,b2,br,cj,bF,rfl,_⟩:=h.form;refine bn E.cs ?_;refine J ?_;intro w1 bo cT al ai;refine J ?_;refine J_ (x9 _ m w1 (h.ext al) aK (aM.ext al)) ?_;rintro _ aH ⟨rfl,ao⟩;refine J ?_;refine _A (v:=.int .i64 (o.check m).cA) rfl ?_;refine J ?_;exact⟨aU,al.trans ao⟩
theorem aha(cs:C_ B_)(m:o.Model)(w:A_)(h:o.dV w cs m)(aK:m.cN) :
  a7 Tryz.prog F.J5 #[.agg cs.toArray] w fun v w'=>v = .bool (decide ((o.check m).cA=0))/\Ext w w':=by
 obtain⟨cd,bw,bO,c1,bV,c2,b2,br,cj,bF,rfl,_⟩:=h.form;refine bn E.J5 ?_;refine J ?_;intro w1 bo cT al ai;refine J ?_;refine J_ (Qs _ m w1 (h.ext al) aK) ?_;rintro _ aH ⟨rfl,ao⟩;unfold xw;refine J ?_;refine _A (v:=.int .i64 (o.check m).cA) rfl ?_;refine J ?_;exact⟨aU,al.trans ao⟩
end Go.Proofs.R
end
section
namespace bb
open Go Go.RowKit
theorem ix.congr{α:Type}{enc:α->C_ B_}{e:F_}{sz base n:Nat}{w:A_}{vs tA:Nat->H_ Addr×Nat×Nat}{xs FW:Nat->C_ α}(h:ix enc e sz base w n vs xs)(aG:∀i,i<n->vs i=tA i)(ag:∀i,i<n->xs i=FW i):ix enc e sz base w n tA FW :=
 ⟨fun i U=>by rw[<-aG i U,<-ag i U];exact h.own i U,fun i j k U aE cw he=>by rw[<-aG j aE];rw[<-aG i U] at he;exact h.apart i j k U aE cw he⟩
theorem MM{S:Fr}{t:Nat}{n:Int}(h:S t = .int .i64 n):eW S ((List.range 1).map fun i=>(i*1,1)) [(0,.tmp t)] [.int .i64 0]=some [.int .i64 n]:=by
 simp[eW,lay,dp,h,Value.cells,List.range,List.range.loop]
structure eB(cz:List TypeId)(w w':World):Prop where
 size:w.heap.size<=w'.heap.size
 cu:∀(k:Nat) (c:Array Value) (t:TypeId),w.heap[k]? = some (.cells c t)->t∉cz->w'.heap[k]? = some (.cells c t)
section
variable{cz:List TypeId}{a b w w':World}
theorem eB.refl:eB cz w w:=⟨Nat.le_refl _,fun _ _ _ h _=>h⟩
theorem eB.trans{c:A_}(h:eB cz a b)(k:eB cz b c):eB cz a c:=⟨Nat.le_trans h.size k.size,fun i c t ah aB=>k.cu i c t (h.cu i c t ah aB) aB⟩
theorem eB.ext(h:Ext a b):eB cz a b:=⟨h.size,fun _ _ _ ah _=>h.obj ah⟩
theorem eB.mod{A:Nat->Prop}(h:Mod A a b)(dh:∀(k:Nat) (c:Array B_) (t:F_),a.heap[k]? = some (.cells c t)->A k->t∈cz):eB cz a b:=⟨h.size,fun k c t ah aB=>h.obj (fun hk=>aB (dh k c t ah hk)) ah⟩
theorem eB.wr{k:Nat}{c:Array B_}{t:F_}{f:Nat×Nat}(h:dn k a b)(ah:a.heap[k]? = some (.cells c t f))(aB:t∈cz):eB cz a b:=eB.mod (h.mod (A:=fun i=>i=k) rfl) fun i kE ig pS e=>by
 subst e;rw[ah] at pS;injection pS with pS;injection pS with _ e;exact e ▸ aB
theorem aW.ib{α:Type}{enc:α->C_ B_}{e:F_}{sz base:Nat}{v:B_}{xs:C_ α}(h:aW enc e sz base a v xs)(k:eB cz a b)(he:e∉cz):aW enc e sz base b v xs:=by
 refine⟨h.1,?_⟩;rcases h.2 with ay | ⟨g,cap,cur,rfl,ak,aK,rest⟩
 .exact .inl ay
 .exact .inr ⟨g,cap,cur,rfl,ak,k.cu _ _ _ aK he,rest⟩
end
end bb
namespace o
structure ha where
 V:List Int
 C:List Int
 c5:List Int
 n:Nat
 L:List Int
 H:List Int
 Z:List Cell
def ha.of(V C c5:C_ Int)(cs:C_ Cell):ha:=⟨V,C,c5,cs.length,cs.map (·.aO),cs.map (·.U),cs⟩
def ha.rows(s:ha):Nat->C_ Int:=fun i=>if i=0 then s.V else if i=1 then s.C else if i=2 then s.c5 else if i=3 then s.L else s.H
end o
namespace Go.Proofs.R
open Go Go.RowKit bb
def s9:C_ F_:=[T.a,T.r,T.h,T.o1]
structure kA(w1:World)(bJ bs:Nat)(s:o.ha)(W:World):Prop where
 mod:Mod (fun k=>k=bJ\/k=bs) w1 W
 ex:∃(vs:Nat->hc) (u:hc),W.heap[bJ]? = some (.cells #[ct (vs 0),ct (vs 1),ct (vs 2),.int .i64 s.n,ct (vs 3),ct (vs 4)] T.h)/\ix cR T.a 1 w1.heap.size W 5 vs s.rows /\
  W.heap[bs]? = some (.cells #[ct u] T.o1)/\aW o.Cell.slot T.r 4 w1.heap.size W (ct u) s.Z
theorem kA.move{w1:A_}{bJ bs:Nat}{s:o.ha}{W b6:A_}{A:Nat->Prop}(h:kA w1 bJ bs s W)(m:Mod A W b6)(dh:∀(k:Nat) (c:Array B_) (t:F_),W.heap[k]? = some (.cells c t)->t∈s9->¬A k)(jl:∀k,A k->w1.heap.size<=k):kA w1 bJ bs s b6:=by
 obtain⟨vs,u,h1,I,ab,aD⟩:=h.ex;refine⟨h.mod.comp m (fun _ _ a=>a) fun k hk a=>absurd (jl k a) (by omega),vs,u,m.obj (dh _ _ _ h1 (by decide)) h1,I.mod m fun i k U hk=>?_,m.obj (dh _ _ _ ab (by decide)) ab,aD.mod m fun k hk=>?_⟩
 .obtain⟨cur,ah⟩:=(I.own i U).cu k hk;exact dh _ _ _ ah (by decide)
 .obtain⟨cur,ah⟩:=aD.cu k hk;exact dh _ _ _ ah (by decide)
theorem kA.ext{w1:A_}{bJ bs:Nat}{s:o.ha}{W b6:A_}(h:kA w1 bJ bs s W)(e:Ext W b6):kA w1 bJ bs s b6:=h.move (A:=fun _=>False) e.mod (fun _ _ _ _ _ h=>h) fun _ h=>h.elim
structure nM(w1:World)(s:o.ha)(x:o.dN)(fF:Fr)(w0:World)(vs:Nat->hc)(a33:Addr)(d25 d26 d31 d32 d33:Bool)(S:Fr)(w:World):Prop where
 hC:∀t,t∉[25,26,31,32,33,34]->S t=fF t
 mod:Mod (fun k=>(ct (vs 3)).ownBlock=some k\/(ct (vs 4)).ownBlock=some k) w0 w
 rows:∃v3 v4,ix cR T.a 1 w1.heap.size w 5 (dJ (dJ vs 3 v3) 4 v4) (dJ (dJ s.rows 3 (if d26 then s.L++[x.aO] else s.L)) 4 (if d32 then s.H++[x.U] else s.H))/\(d26=false->v3=vs 3)/\(d32=false->v4=vs 4) /\
  (d26=true->S 26=ct v3)/\(d32=true->S 32=ct v4)
 Fu:d25=true->d26=false->∃b,S 25 = .slice (some ⟨b,0,none⟩) 1 1/\w0.heap.size<=b/\w.heap[b]? = some (.cells #[.int .i64 x.aO] T.a)
 Kz:d31=true->d32=false->∃b,S 31 = .slice (some ⟨b,0,none⟩) 1 1/\w0.heap.size<=b/\w.heap[b]? = some (.cells #[.int .i64 x.U] T.a)
 Fv:d33=true->S 33 = .pointer (some a33)
section
variable{w1 w0 w:World}{s:o.ha}{x:o.dN}{fF S:Fr}{vs:Nat->hc}{a33:Addr}{d25 d26 d31 d32 d33:Bool}{K:Value->World->Prop}
theorem nM.Z3(h:nM w1 s x fF w0 vs a33 false false d31 d32 d33 S w)(vw:fF 24 = .int .i64 x.aO)(hk:∀v w',nM w1 s x fF w0 vs a33 true false d31 d32 d33 (put S (some 25) v) w'->K v w') :
  nF Tryz.prog (.fZ T.a 1 1 [.int .i64 0] [(0,.tmp 24)]) S w K:=by
 have he:Ext w (w.alloc (.cells #[.int .i64 x.aO] T.a)):=(Ext.refl w).alloc _;refine Dj (MM (by rw[h.hC 24 (by decide),vw])) (hk _ _ ⟨fun t aB=>?_,h.mod.trans he.mod,?_,fun _ _=>⟨_,by simp[iI,bL],h.mod.size,heap_alloc_new w _⟩,fun a b=>?_,fun a=>by rw[iI,bL,if_neg (by decide)];exact h.Fv a⟩)
 .rw[iI,bL,if_neg (by intro e;subst e;simp at aB)];exact h.hC t aB
 .obtain⟨v3,v4,h1,I,ab,aD,aY⟩:=h.rows;exact⟨v3,v4,h1.ext he,I,ab,fun e=>(by cases e),fun e=>by rw[iI,bL,if_neg (by decide)];exact aY e⟩
 .obtain⟨b,h1,I,ab⟩:=h.Kz a b;exact⟨b,by rw[iI,bL,if_neg (by decide)];exact h1,I,he.obj ab⟩
theorem nM.PT(h:nM w1 s x fF w0 vs a33 d25 d26 false false d33 S w)(ahm:fF 30 = .int .i64 x.U)(hk:∀v w',nM w1 s x fF w0 vs a33 d25 d26 true false d33 (put S (some 31) v) w'->K v w') :
  nF Tryz.prog (.fZ T.a 1 1 [.int .i64 0] [(0,.tmp 30)]) S w K:=by
 have he:Ext w (w.alloc (.cells #[.int .i64 x.U] T.a)):=(Ext.refl w).alloc _;refine Dj (MM (by rw[h.hC 30 (by decide),ahm])) (hk _ _ ⟨fun t aB=>?_,h.mod.trans he.mod,?_,fun a b=>?_,fun _ _=>⟨_,by simp[iI,bL],h.mod.size,heap_alloc_new w _⟩,fun a=>by rw[iI,bL,if_neg (by decide)];exact h.Fv a⟩)
 .rw[iI,bL,if_neg (by intro e;subst e;simp at aB)];exact h.hC t aB
 .obtain⟨v3,v4,h1,I,ab,aD,aY⟩:=h.rows;exact⟨v3,v4,h1.ext he,I,ab,fun e=>by rw[iI,bL,if_neg (by decide)];exact aD e,fun e=>by cases e⟩
 .obtain⟨b,h1,I,ab⟩:=h.Fu a b;exact⟨b,by rw[iI,bL,if_neg (by decide)];exact h1,I,he.obj ab⟩
theorem nM.LP(h:nM w1 s x fF w0 vs a33 true false d31 d32 d33 S w)(ahl:fF 22=ct (vs 3))(ch:∀i k,i<5->(ct (vs i)).ownBlock=some k->k<w0.heap.size)(ak:w1.heap.size<=w0.heap.size)(hm:s.L.length<=100000)
  (hk:∀v w',nM w1 s x fF w0 vs a33 true true d31 d32 d33 (put S (some 26) v) w'->K v w') :
  nF Tryz.prog (.app T.b T.a 1 8 (.tmp 22) (.tmp 25)) S w K:=by
 obtain⟨b,bt,aI,ba⟩:=h.Fu rfl rfl;obtain⟨v3,v4,h1,I,ab,aD,aY⟩:=h.rows;obtain rfl:=I rfl;show yx Tryz.prog T.b T.a 1 8 (S 22) (S 25) w K;rw[h.hC 22 (by decide),ahl,bt];have vO:=h.mod.size;refine ix.app (vs:=dJ (dJ vs 3 (vs 3)) 4 v4) (xs:=dJ (dJ s.rows 3 (if false=true then s.L++[x.aO] else s.L)) 4 (if d32=true then s.H++[x.U] else s.H)) (y:=x.aO) 3 (by decide) h1 (fun _=>rfl) (hA ba) rC (by simp[dJ];omega) (by simp[dJ];unfold maxLen;omega) (by omega) fun b9 w' aM aK _=>?_;have a1:Mod (fun k=>(ct (vs 3)).ownBlock=some k) w w':=Mod.grown aK fun k hk=>hk;refine hk _ _ ⟨fun t aB=>?_,h.mod.trans (a1.Al fun k hk=>.inl hk),?_,fun _ e=>(by cases e),fun a b=>?_,fun a=>by rw[iI,bL,if_neg (by decide)];exact h.Fv a⟩
 .rw[iI,bL,if_neg (by intro e;subst e;simp at aB)];exact h.hC t aB
 .refine⟨b9,v4,aM.congr (fun i U=>?_) (fun i U=>?_),fun e=>(by cases e),ab,fun _=>by simp[iI,bL],fun e=>by rw[iI,bL,if_neg (by decide)];exact aY e⟩
  .unfold dJ;by_cases a:i=3
   .subst a;simp
   .simp[a]
  .unfold dJ;by_cases a:i=3
   .subst a;simp
   .simp[a]
 .obtain⟨gL,h1,I,ab⟩:=h.Kz a b;exact⟨gL,by rw[iI,bL,if_neg (by decide)];exact h1,I,a1.obj (fun e=>by have:=ch 3 gL (by decide) e;omega) ab⟩
theorem nM.LQ(h:nM w1 s x fF w0 vs a33 true true true false d33 S w)(MZ:fF 28=ct (vs 4))(ak:w1.heap.size<=w0.heap.size)(hm:s.H.length<=100000)
  (hk:∀v w',nM w1 s x fF w0 vs a33 true true true true d33 (put S (some 32) v) w'->K v w') :
  nF Tryz.prog (.app T.b T.a 1 8 (.tmp 28) (.tmp 31)) S w K:=by
 obtain⟨b,bt,aI,ba⟩:=h.Kz rfl rfl;obtain⟨v3,v4,h1,I,ab,aD,aY⟩:=h.rows;obtain rfl:=ab rfl;show yx Tryz.prog T.b T.a 1 8 (S 28) (S 31) w K;rw[h.hC 28 (by decide),MZ,bt];have vO:=h.mod.size;refine ix.app (vs:=dJ (dJ vs 3 v3) 4 (vs 4)) (xs:=dJ (dJ s.rows 3 (if true=true then s.L++[x.aO] else s.L)) 4 (if false=true then s.H++[x.U] else s.H)) (y:=x.U) 4 (by decide) h1 (fun _=>rfl) (hA ba) rC (by simp[dJ];omega) (by simp[dJ];unfold maxLen;omega) (by omega) fun b9 w' aM aK _=>?_;have a1:Mod (fun k=>(ct (vs 4)).ownBlock=some k) w w':=Mod.grown aK fun k hk=>hk;refine hk _ _ ⟨fun t aB=>?_,h.mod.trans (a1.Al fun k hk=>.inr hk),?_,fun _ e=>(by cases e),fun _ e=>(by cases e),fun a=>by rw[iI,bL,if_neg (by decide)];exact h.Fv a⟩
 .rw[iI,bL,if_neg (by intro e;subst e;simp at aB)];exact h.hC t aB
 .refine⟨v3,b9,aM.congr (fun i U=>?_) (fun i U=>?_),fun e=>(by cases e),fun e=>(by cases e),fun e=>by rw[iI,bL,if_neg (by decide)];exact aD e,fun _=>by simp[iI,bL]⟩
  .unfold dJ;by_cases a:i=4
   .subst a;simp
   .simp[a]
  .unfold dJ;by_cases a:i=4
   .subst a;simp
   .simp[a]
theorem nM.Q0(h:nM w1 s x fF w0 vs a33 d25 d26 d31 d32 d33 S w):nM w1 s x fF w0 vs a33 d25 d26 d31 d32 true (bW S 33 (.pointer (some a33))) w:=by
 have q:∀t,t≠33->bW S 33 (.pointer (some a33)) t=S t:=fun t aB=>by rw[bL,if_neg aB]
 refine⟨fun t aB=>?_,h.mod,?_,fun a b=>?_,fun a b=>?_,fun _=>by simp[bL]⟩
 .rw[q t (by intro e;subst e;simp at aB)];exact h.hC t aB
 .obtain⟨v3,v4,h1,I,ab,aD,aY⟩:=h.rows;exact⟨v3,v4,h1,I,ab,fun e=>by rw[q _ (by decide)];exact aD e,fun e=>by rw[q _ (by decide)];exact aY e⟩
 .obtain⟨gL,h1,I⟩:=h.Fu a b;exact⟨gL,by rw[q _ (by decide)];exact h1,I⟩
 .obtain⟨gL,h1,I⟩:=h.Kz a b;exact⟨gL,by rw[q _ (by decide)];exact h1,I⟩
end
end Go.Proofs.R
end
section
namespace Go.Proofs.R
open Go Go.RowKit bb
def kz(b:Nat)(w w':A_):Prop := ∀j,j<3->w'.cell? (Addr.add ⟨b,0,none⟩ j)=w.cell? (Addr.add ⟨b,0,none⟩ j)
theorem kz.refl{b:Nat}{w:A_}:kz b w w:=fun _ _=>rfl
theorem kz.trans{b:Nat}{w w' bK:A_}(h:kz b w w')(k:kz b w' bK):kz b w bK:=fun j aE=>(k j aE).trans (h j aE)
theorem kz.of{b:Nat}{w w':A_}{bw c1 c2:B_}{l we:C_ B_}{t ig:F_}{f tU:Nat×Nat}(h:w.heap[b]? = some (.cells (bw :: c1 :: c2 :: l).toArray t f))(bd:w'.heap[b]? = some (.cells (bw :: c1 :: c2 :: we).toArray ig tU)):kz b w w':=fun j aE=>by
 have:j=0\/j=1\/j=2:=by omega
 rcases this with rfl | rfl | rfl
 .rw[fQ h (v:=bw) rfl,fQ bd (v:=bw) rfl]
 .rw[fQ h (v:=c1) rfl,fQ bd (v:=c1) rfl]
 .rw[fQ h (v:=c2) rfl,fQ bd (v:=c2) rfl]
theorem kz.ext{b:Nat}{w w':A_}(he:Ext w w')(h:b<w.heap.size):kz b w w':=fun j _=>by
 rw[add_eq];simp only[World.cell?,he.heap h]
def Uw:eJ:=(.take (bl 21 4 3) (.take (bp 22 21) (.take (bl 23 0 11) (.take (bp 24 23) (.take (bl 27 5 3) (.take (bp 28 27) (.take (bl 29 1 11) (.take (bp 30 29) (.alt (bN 25 (.fZ T.a 1 1 [(.int .i64 0)] [(0,(ae 24))])) (.alt (bN 26 (.app T.b T.a 1 8 (ae 22) (ae 25))) (.take (bl 33 4 3) (.alt (bN 31 (.fZ T.a 1 1 [(.int .i64 0)] [(0,(ae 30))])) (.bk (bN 32 (.app T.b T.a 1 8 (ae 28) (ae 31))) (.bk (ys 33 26) (.take (bl 34 5 3) (.bk (ys 34 32) .done .nil)) .nil) .nil) .nil)) (.alt (bN 31 (.fZ T.a 1 1 [(.int .i64 0)] [(0,(ae 30))])) (.alt (bN 26 (.app T.b T.a 1 8 (ae 22) (ae 25))) (.take (bl 33 4 3) (.bk (bN 32 (.app T.b T.a 1 8 (ae 28) (ae 31))) (.bk (ys 33 26) (.take (bl 34 5 3) (.bk (ys 34 32) .done .nil)) .nil) .nil)) .nil) .nil)) (.alt (bN 31 (.fZ T.a 1 1 [(.int .i64 0)] [(0,(ae 30))])) (.alt (bN 25 (.fZ T.a 1 1 [(.int .i64 0)] [(0,(ae 24))])) (.alt (bN 26 (.app T.b T.a 1 8 (ae 22) (ae 25))) (.take (bl 33 4 3) (.bk (bN 32 (.app T.b T.a 1 8 (ae 28) (ae 31))) (.bk (ys 33 26) (.take (bl 34 5 3) (.bk (ys 34 32) .done .nil)) .nil) .nil)) .nil) .nil) .nil))))))))))
theorem mg{S:Fr}{n m:Nat}{v u:B_}(h:S m=u)(ay:m≠n):bW S n v m=u:=by rw[bL,if_neg ay];exact h
theorem adb{w1 w:A_}{bJ bs b0:Nat}{s:o.ha}{x:o.dN}{S:Fr}{cW:Fr->A_->Prop}(cw:bJ≠bs)(jl:bJ<w1.heap.size/\bs<w1.heap.size)(an:kA w1 bJ bs s w)(ab:S 3 = .pointer (some ⟨bJ,0,none⟩))(H6:S 11 = .pointer (some ⟨b0,0,none⟩))
  (ah:w.heap[b0]? = some (.cells x.enc.toArray T.j))(hm:s.L.length<=100000)(Og:s.H.length<=100000)
  (hk:∀aX w',kA w1 bJ bs ⟨s.V,s.C,s.c5,s.n,s.L++[x.aO],s.H++[x.U],s.Z⟩ w'->eB s9 w w'->kz bJ w w'->cW aX w'):∃C:A_->Prop,C w/\eg Tryz.prog C Uw S w cW:=by
 obtain⟨vs,u,g1,g2,g3,g4⟩:=an.ex;have th:=g2.not g1 (by decide);have qd:=g2.not ah (by decide);refine⟨Mod (fun k=>(ct (vs 3)).ownBlock=some k\/(ct (vs 4)).ownBlock=some k) w,Mod.refl _ _,?_⟩;have rx:∀w',Mod (fun k=>(ct (vs 3)).ownBlock=some k\/(ct (vs 4)).ownBlock=some k) w w'->w'.heap[bJ]? = some (.cells #[ct (vs 0),ct (vs 1),ct (vs 2),.int .i64 s.n,ct (vs 3),ct (vs 4)] T.h) :=
  fun w' m=>m.obj (fun h=>h.elim (th 3 (by decide)) (th 4 (by decide))) g1
 have fg:∀w',Mod (fun k=>(ct (vs 3)).ownBlock=some k\/(ct (vs 4)).ownBlock=some k) w w'->w'.heap[b0]? = some (.cells x.enc.toArray T.j) :=
  fun w' m=>m.obj (fun h=>h.elim (qd 3 (by decide)) (qd 4 (by decide))) ah
 have dy:w1.heap.size<=w.heap.size:=an.mod.size;unfold Uw;refine eg.jh ab ?_;refine eg.ld (v:=ct (vs 3)) (by simp[bL];rfl) (fun w' m=>fQ (rx w' m) rfl) ?_;refine eg.jh (a:=⟨b0,0,none⟩) (by simp[bL,H6]) ?_;refine eg.ld (v:=.int .i64 x.aO) (by simp[bL];rfl) (fun w' m=>fQ (fg w' m) rfl) ?_;refine eg.jh (a:=⟨bJ,0,none⟩) (by simp[bL,ab]) ?_;refine eg.ld (v:=ct (vs 4)) (by simp[bL];rfl) (fun w' m=>fQ (rx w' m) rfl) ?_;refine eg.jh (a:=⟨b0,0,none⟩) (by simp[bL,H6]) ?_;refine eg.ld (v:=.int .i64 x.U) (by simp[bL];rfl) (fun w' m=>fQ (fg w' m) rfl) ?_;generalize zi:bW _ 30 _=w8;have ba:w8 3 = .pointer (some ⟨bJ,0,none⟩):=by subst zi;simp[bL,ab]
 have Mz:w8 22=ct (vs 3):=by subst zi;simp[bL]
 have Hq:w8 24 = .int .i64 x.aO:=by subst zi;simp[bL]
 have MA:w8 28=ct (vs 4):=by subst zi;simp[bL]
 have MB:w8 30 = .int .i64 x.U:=by subst zi;simp[bL]
 have dZ:∀i,vs i=dJ (dJ vs 3 (vs 3)) 4 (vs 4) i:=fun i=>by
  unfold dJ;by_cases a:i=4
  .subst a;simp
  .by_cases b:i=3
   .subst b;simp
   .simp[a,b]
 have eK:∀i,s.rows i=dJ (dJ s.rows 3 (if false=true then s.L++[x.aO] else s.L)) 4 (if false=true then s.H++[x.U] else s.H) i:=fun i=>by
  unfold dJ;by_cases a:i=4
  .subst a;simp[o.ha.rows]
  .by_cases b:i=3
   .subst b;simp[o.ha.rows]
   .simp[a,b]
 have t0:nM w1 s x w8 w vs (Addr.add ⟨bJ,0,none⟩ 4) false false false false false w8 w :=
  ⟨fun _ _=>rfl,Mod.refl _ _,⟨vs 3,vs 4,g2.congr (fun i U=>dZ i) (fun i U=>eK i),
   fun _=>rfl,fun _=>rfl,fun e=>(by cases e),fun e=>(by cases e)⟩,fun e=>(by cases e),fun e=>(by cases e),fun e=>(by cases e)⟩
 have ch:∀i k,i<5->(ct (vs i)).ownBlock=some k->k<w.heap.size:=fun i k U he=>(g2.lt i k U he).2;have fin:∀S aH,nM w1 s x w8 w vs (Addr.add ⟨bJ,0,none⟩ 4) true true true true true S aH->eg Tryz.prog (Mod (fun k=>(ct (vs 3)).ownBlock=some k\/(ct (vs 4)).ownBlock=some k) w) (.bk (ys 33 26) (.take (bl 34 5 3) (.bk (ys 34 32) .done .nil)) .nil) S aH cW:=by
  intro S aH t;obtain⟨v3,v4,cV,_,_,hy,r6⟩:=t.rows;have ag:=rx aH t.mod;refine eg.za ?_;show u7 (S 33) (S 26) aH _;rw[t.Fv rfl,hy rfl];refine QW fun mi=>_F ag (by simp) rfl fun aP gd bu=>?_;show eg _ _ _ S _ _;refine eg.jh (a:=⟨bJ,0,none⟩) (by rw[t.hC 3 (by decide),ba]) ?_;refine eg.za ?_;show u7 (bW S 34 _ 34) (bW S 34 _ 32) aP _;rw[show bW S 34 (.pointer (some (Addr.add ⟨bJ,0,none⟩ 5))) 34 = .pointer (some (Addr.add ⟨bJ,0,none⟩ 5)) from by simp[bL],mg (r6 rfl) (by decide)];refine QW fun mi=>_F bu (by simp) rfl fun aR du bH=>?_;have hw:=gd.trans du;have ku:=cV.not ag (by decide);obtain⟨us,as2⟩:∃us,us=ct u:=⟨_,rfl⟩;refine hk _ _ ⟨?_,dJ (dJ vs 3 v3) 4 v4,u,?_,(cV.mod (hw.mod (A:=fun k=>k=bJ) rfl) fun i k U hk e=>ku i U (by rw[<-e];exact hk)).congr (fun _ _=>rfl) (fun i U=>?_),?_,?_⟩ ?_ ?_
  .refine(an.mod.comp t.mod (B:=fun k=>k=bJ\/k=bs) (fun _ _ a=>a) fun i U a=>?_).trans (hw.mod (A:=fun k=>k=bJ\/k=bs) (.inl rfl));rcases a with a | a
   .have:=(g2.lt 3 i (by decide) a).1;omega
   .have:=(g2.lt 4 i (by decide) a).1;omega
  .exact bH
  .have:i=0\/i=1\/i=2\/i=3\/i=4:=by omega
   rcases this with rfl | rfl | rfl | rfl | rfl<;>simp[dJ,o.ha.rows]
  .exact hw.obj (t.mod.obj (fun h=>h.elim (g2.not g3 (by decide) 3 (by decide)) (g2.not g3 (by decide) 4 (by decide))) g3) (Ne.symm cw)
  .refine(g4.mod t.mod fun k hk h=>?_).mod (hw.mod (A:=fun k=>k=bJ) rfl) fun k hk e=>?_
   .obtain⟨cur,hD⟩:=g4.cu k hk;exact h.elim (g2.not hD (by decide) 3 (by decide)) (g2.not hD (by decide) 4 (by decide))
   .obtain⟨cur,hD⟩:=g4.cu k hk;subst e;rw[g1] at hD;injection hD with hD;injection hD with _ e;exact absurd e (by decide)
  .refine(eB.mod t.mod fun k c ig ah a=>?_).trans (eB.wr hw ag (by decide));rcases a with a | a
   .obtain⟨cur,hD⟩:=(g2.own 3 (by decide)).cu k a;rw[ah] at hD;injection hD with hD;injection hD with _ e;rw[e];decide
   .obtain⟨cur,hD⟩:=(g2.own 4 (by decide)).cu k a;rw[ah] at hD;injection hD with hD;injection hD with _ e;rw[e];decide
  .exact kz.of g1 bH
 clear hk;refine⟨lZ.e (t0.Z3 Hq fun v2 aH t2=>⟨t2.mod,?_,?_,trivial⟩),lZ.e (t0.PT MB fun v2 aH t2=>⟨t2.mod,?_⟩),trivial⟩
 .refine lZ.e (t2.LP Mz ch dy hm fun v3 aP t3=>⟨t3.mod,?_⟩);refine eg.jh (a:=⟨bJ,0,none⟩) (by rw[t3.hC 3 (by decide),ba]) ?_;refine eg.AS (lZ.e (t3.Q0.PT MB fun v4 aR t4=>⟨t4.mod,?_⟩));exact eg.za (pb.e (t4.LQ MA dy Og fun v5 bq t5=>fin _ _ t5))
 .refine lZ.e (t2.PT MB fun v3 aP t3=>⟨t3.mod,?_⟩);refine eg.AS (lZ.e (t3.LP Mz ch dy hm fun v4 aR t4=>⟨t4.mod,?_⟩));refine eg.jh (a:=⟨bJ,0,none⟩) (by rw[t4.hC 3 (by decide),ba]) ?_;exact eg.za (pb.e (t4.Q0.LQ MA dy Og fun v5 bq t5=>fin _ _ t5))
 .refine eg.AS (lZ.e (t2.Z3 Hq fun v3 aP t3=>⟨t3.mod,?_⟩));refine eg.AS (lZ.e (t3.LP Mz ch dy hm fun v4 aR t4=>⟨t4.mod,?_⟩));refine eg.jh (a:=⟨bJ,0,none⟩) (by rw[t4.hC 3 (by decide),ba]) ?_;exact eg.za (pb.e (t4.Q0.LQ MA dy Og fun v5 bq t5=>fin _ _ t5))
end Go.Proofs.R
end
section
namespace Go.Proofs.R
open Go Go.RowKit bb
section
variable{w1:World}{bJ bs:Nat}{s:o.ha}{W b6:World}
theorem apC{vs:Nat->hc}{u:hc}{pL k2 rq:A_}{y:o.Cell}{b9:B_}(cw:bJ≠bs)(hm:Mod (fun k=>k=bJ\/k=bs) w1 W)(g1:W.heap[bJ]? = some (.cells #[ct (vs 0),ct (vs 1),ct (vs 2),.int .i64 s.n,ct (vs 3),ct (vs 4)] T.h))(g2:ix cR T.a 1 w1.heap.size W 5 vs s.rows)
  (g3:W.heap[bs]? = some (.cells #[ct u] T.o1))(g4:aW o.Cell.slot T.r 4 w1.heap.size W (ct u) s.Z)(he:Ext W pL)(aK:pL.grownBy k2 (ct u).ownBlock)(aM:aW o.Cell.slot T.r 4 w1.heap.size k2 b9 (s.Z++[y]))
  (hw:dn bs k2 rq)(ah:rq.heap[bs]? = some (.cells #[b9] T.o1)):kA w1 bJ bs ⟨s.V,s.C,s.c5,s.n,s.L,s.H,s.Z++[y]⟩ rq/\eB s9 W rq/\kz bJ W rq:=by
 obtain⟨aQ,cap,rfl,_⟩:=aM.form;have ya:Mod (fun k=>(ct u).ownBlock=some k) pL k2:=Mod.grown aK fun k hk=>hk;have lO:∀{k:Nat} {c:Array B_} {t:F_},W.heap[k]? = some (.cells c t)->t≠T.r->¬(ct u).ownBlock=some k:=fun {k c t} hk aB e=>by
  obtain⟨cur,h⟩:=g4.cu k e;rw[hk] at h;injection h with h;injection h with _ h;exact aB h
 have m6:∀{k:Nat} {c:Array B_} {t:F_},W.heap[k]? = some (.cells c t)->t≠T.r->k2.heap[k]? = some (.cells c t):=fun hk aB=>ya.obj (lO hk aB) (he.obj hk);have te:Mod (fun k=>k=bs) k2 rq:=hw.mod rfl;refine⟨⟨?_,vs,(aQ,_,cap),te.obj cw (m6 g1 (by decide)),?_,ah,aM.mod te fun k hk e=>?_⟩,?_,kz.of g1 (te.obj cw (m6 g1 (by decide)))⟩
 .have h1:Mod (fun k=>k=bJ\/k=bs) w1 pL:=hm.comp (A':=fun _=>False) he.mod (fun _ _ a=>a) fun _ _ a=>a.elim;have I:Mod (fun k=>k=bJ\/k=bs) w1 k2:=h1.comp ya (fun _ _ a=>a) fun i U a=>by have:=(g4.lt i a).1;omega
  exact I.trans (hw.mod (.inr rfl))
 .refine((g2.ext he).mod ya fun i k U hk e=>?_).mod te fun i k U hk e=>?_
  .obtain⟨cur,h⟩:=(g2.own i U).cu k hk;exact lO h (by decide) e
  .subst e;obtain⟨cur,h⟩:=(g2.own i U).cu k hk;rw[g3] at h;injection h with h;injection h with _ h;exact absurd h (by decide)
 .subst e;obtain⟨cur,h⟩:=aM.cu k hk;rw[m6 g3 (by decide)] at h;injection h with h;injection h with _ h;exact absurd h (by decide)
 .refine((eB.ext he).trans (eB.mod ya fun k c t ah a=>?_)).trans (eB.wr hw (m6 g3 (by decide)) (by decide));obtain⟨cur,h⟩:=(g4.ext he).cu k a;rw[ah] at h;injection h with h;injection h with _ h;rw[h];decide
theorem aeU{vs:Nat->hc}{u:hc}{n:Int}(cw:bJ≠bs)(hm:Mod (fun k=>k=bJ\/k=bs) w1 W)(g1:W.heap[bJ]? = some (.cells #[ct (vs 0),ct (vs 1),ct (vs 2),.int .i64 s.n,ct (vs 3),ct (vs 4)] T.h))(g2:ix cR T.a 1 w1.heap.size W 5 vs s.rows)
  (g3:W.heap[bs]? = some (.cells #[ct u] T.o1))(g4:aW o.Cell.slot T.r 4 w1.heap.size W (ct u) s.Z)(hw:dn bJ W b6)(ay:n=((s.n+1:Nat):Int))
  (ah:b6.heap[bJ]? = some (.cells #[ct (vs 0),ct (vs 1),ct (vs 2),.int .i64 n,ct (vs 3),ct (vs 4)] T.h)):kA w1 bJ bs ⟨s.V,s.C,s.c5,s.n+1,s.L,s.H,s.Z⟩ b6/\eB s9 W b6/\kz bJ W b6:=by
 subst ay;have te:Mod (fun k=>k=bJ) W b6:=hw.mod rfl;refine⟨⟨hm.trans (hw.mod (.inl rfl)),vs,u,ah,g2.mod te fun i k U hk e=>?_,te.obj (Ne.symm cw) g3,g4.mod te fun k hk e=>?_⟩,eB.wr hw g1 (by decide),kz.of g1 ah⟩
 .subst e;exact g2.not g1 (by decide) i U hk
 .subst e;obtain⟨cur,h⟩:=g4.cu k hk;rw[g1] at h;injection h with h;injection h with _ h;exact absurd h (by decide)
end
theorem als(so iL:Int)(v:B_)(l:C_ o.dN)(pK pD pG:C_ Int)(cs:C_ o.Cell)(base:Nat)(w1:A_)(bJ bs:Nat)(w:A_)(cw:bJ≠bs)(jl:bJ<w1.heap.size/\bs<w1.heap.size)(an:kA w1 bJ bs (o.ha.of pK pD pG cs) w)(aG:aW o.dN.enc T.j 3 base w v l)
  (hm:cs.length+l.length<=100000) :
  a7 Tryz.prog F.o1 #[.int .i64 so,.int .i64 iL,v,.pointer (some ⟨bJ,0,none⟩),.pointer (some ⟨bs,0,none⟩)] w fun v w'=>v = .int .i64 cs.length/\kA w1 bJ bs (o.ha.of pK pD pG (cs++o.ft so iL l 0)) w'/\eB s9 w w'/\kz bJ w w':=by
 obtain⟨aQ,cap,rfl,_⟩:=aG.form;obtain⟨aqS,ab0,g1,g2,g3,g4⟩:=an.ex;refine bn E.o1 ?_;refine J ?_;refine L_ 16 l.length [0,1,2,3,4,9,14,15] (fun _:Unit=>[]) () (fun k _ w'=>kA w1 bJ bs (o.ha.of pK pD pG (cs++o.ft so iL (l.take k) 0)) w'/\eB s9 w w'/\kz bJ w w') bc bc ⟨by simpa[o.ft] using an,eB.refl,kz.refl⟩ ?_;clear g1 g2 g3 g4 an;rintro k _ S aH hk ⟨an,n2,il⟩;have kQ:bh 3 (Flat o.dN.enc) aH (.slice aQ l.length cap) l:=aW.iv (enc:=o.dN.enc) (fun _=>rfl) (aG.ib n2 (by decide));refine J ?_;apply I_<;>intro g1
 .have aZ:k<l.length:=by omega
  obtain⟨a,rfl⟩:=kQ.addr;have Nl:(o.ft so iL (l.take k) 0).length=k:=by rw[o.uw,List.length_take];omega
  have vQ:=o.xf l[k];refine eh ?_;simp -dsimp only[cB];refine eh ?_;simp -dsimp only[cB];refine eh ?_;intro wn b0 fW fm eQ;refine eh ?_;intro aP gd bu;have aj:=gd.ext fm fW;have gE:=an.ext aj;clear gd fm eQ;refine eh ?_;refine S_ [0,1,2,3,4,9,10,11,14,15,16] (fun _:Unit=>[]) (fun _ w'=>kA w1 bJ bs ⟨pK,pD,pG,(cs++o.ft so iL (l.take k) 0).length,(cs++o.ft so iL (l.take k) 0).map (·.aO)++[l[k].aO],(cs++o.ft so iL (l.take k) 0).map (·.U)++[l[k].U],cs++o.ft so iL (l.take k) 0⟩ w'/\eB s9 aP w'/\kz bJ aP w') ?_ ?_
  .refine J ?_;intro aR aA;refine _t (adb cw jl (gE.ext aA) (by simp[bL]) (by simp[bL]) (aA.obj bu) (by simp[o.ha.of,Nl];omega) (by simp[o.ha.of,Nl];omega) fun aX w' h k a6=>?_);refine J ?_;exact⟨(),trivial,h,(eB.ext aA).trans k,(kz.ext aA (by have:=gE.mod.size;omega)).trans a6⟩
  have aiC:kz bJ aH aP:=kz.ext aj (by have:=an.mod.size;omega);clear gE;rintro _ S aR ⟨lL,Zp,NO⟩;obtain⟨vs,⟨ab0,Rc,yu⟩,g1,g2,g3,g4⟩:=lL.ex;have bH:=Zp.cu _ _ _ bu (by decide);refine J ?_;intro bq dx k9 aJ cc;replace cc:bq.heap[dx]? = some (.cells (o.Cell.slot ⟨so,iL,k,l[k].aO,l[k].U,l[k].kind⟩).toArray T.r):=cc;have dL:=g4.ext aJ;have gj:=lL.mod.size;have z2:=aJ.size;have aF:(cs++o.ft so iL (l.take k) 0).length=cs.length+k:=by rw[List.length_append,Nl]
  refine V_ (y:=⟨so,iL,k,l[k].aO,l[k].U,l[k].kind⟩) dL cc rfl (fun _=>rfl) o.apD (by simp only[aF];omega) (by unfold maxLen;simp only[aF];omega) (by omega) fun aQ n c bB dB jA=>?_;have fX:=dL.box jA (aJ.obj g3) (by decide);refine J ?_;intro bQ dT c9;obtain⟨jW,uv,aiE⟩:=apC cw lL.mod g1 g2 g3 g4 aJ jA dB dT c9;dsimp only at jW;obtain⟨tA,kb,cV,dq,dU,hy⟩:=jW.ex;clear g1 g2 g3 g4 lL dL dB jA fX c9 cc;have an2:=cV;dsimp only[ct] at cV;refine J ?_;intro de iH c4;obtain⟨BT,alg,aiF⟩:=aeU cw jW.mod an2 dq dU hy iH (by dsimp only;omega) c4;refine J ?_;refine⟨aZ,aU,(),trivial,?_,((((n2.trans (eB.ext aj)).trans Zp).trans uv).trans alg),((((il.trans aiC).trans NO).trans aiE).trans aiF)⟩;rw[o.alu aZ,<-List.append_assoc];have e:o.ha.of pK pD pG ((cs++o.ft so iL (l.take k) 0)++[⟨so,iL,k,l[k].aO,l[k].U,l[k].kind⟩])=⟨pK,pD,pG,(cs++o.ft so iL (l.take k) 0).length+1,(cs++o.ft so iL (l.take k) 0).map (·.aO)++[l[k].aO],(cs++o.ft so iL (l.take k) 0).map (·.U)++[l[k].U],cs++o.ft so iL (l.take k) 0++[⟨so,iL,k,l[k].aO,l[k].U,l[k].kind⟩]⟩:=by
   simp[o.ha.of,List.map_append,Nat.add_assoc]
  rw[e];exact BT
 .refine J ?_;rw[List.take_of_length_le (by omega)] at an;exact⟨aU,an,n2,il⟩
end Go.Proofs.R
end
section
namespace bb
open Go Go.RowKit
section
variable{P:Program}{C:World->Prop}{S:Fr}{w:World}{K:Fr->World->Prop}
theorem eg.mM{d m:Nat}{r:eJ}{v:B_}(ag:S m=v)(h:eg P C r (bW S d v) w K):eg P C (.take ⟨some d,none,.p (.mM (.tmp m))⟩ r) S w K:=by subst ag;exact h
theorem lZ.c{i:qi}{d:Nat}{k:Fr->A_->Prop}(h:rj P i S w fun v w'=>C w'/\k (put S (some d) v) w'):lZ P C ⟨some d,none,.c i⟩ S w k:=h
end
end bb
namespace o
def ha.add(s:ha)(off:Nat)(y:Int):ha:=if off=0 then { s with V:=s.V++[y] } else if off=1 then { s with C:=s.C++[y] } else { s with c5:=s.c5++[y] }
end o
namespace Go.Proofs.R
open Go Go.RowKit bb
def U3(n x y off:Nat)(so:Int):eJ :=
 (.take (bl n off 4) (.take (bp (n+1) n) (.take (aq (n+2) 6) (.take (aq (n+3) x) (.take (aq (n+4) y)
 (.alt (cb (n+5) (.val (ae (n+2)) [(cf so),(ae (n+3)),(ae (n+4))]))
 (.alt (bN (n+6) (.fZ T.a 1 1 [(.int .i64 0)] [(0,(ae (n+5)))]))
 (.bk (bN (n+7) (.app T.b T.a 1 8 (ae (n+1)) (ae (n+6))))
 (.take (bl (n+8) off 4) (.bk (ys (n+8) (n+7)) .done .nil)) .nil) .nil) .nil))))))
theorem L6{w1 w:A_}{bJ bs n x y off base:Nat}{so iL:Int}{pA:B_}{l:C_ o.dN}{pK pD pG:C_ Int}{cs:C_ o.Cell}{S:Fr}{cW:Fr->A_->Prop}(Ov:off<3)(ay:20<=n)(ag:x<20)(bS:y<20)
  (cw:bJ≠bs)(jl:bJ<w1.heap.size/\bs<w1.heap.size)(aD:S 4 = .pointer (some ⟨bJ,0,none⟩))(bx:S 6 = .func (.func F.o1) #[] #[.pointer (some ⟨bJ,0,none⟩),.pointer (some ⟨bs,0,none⟩)])(uk:S x = .int .i64 iL)(Pc:S y=pA)
  (an:kA w1 bJ bs (o.ha.of pK pD pG cs) w)(aG:aW o.dN.enc T.j 3 base w pA l)(hm:cs.length+l.length<=100000)(aL:pK.length<=100000/\pD.length<=100000/\pG.length<=100000)
  (hk:∀aX w',(∀t,t<n\/n+8<t->aX t=S t)->kA w1 bJ bs ((o.ha.of pK pD pG (cs++o.ft so iL l 0)).add off cs.length) w'->eB s9 w w'->cW aX w'):∃C:A_->Prop,C w/\eg Tryz.prog C (U3 n x y off so) S w cW:=by
 obtain⟨vs,u,g1,g2,g3,g4⟩:=an.ex;have bw:w.cell? (Addr.add ⟨bJ,0,none⟩ off)=some (ct (vs off)):=by
  have:off=0\/off=1\/off=2:=by omega
  rcases this with rfl | rfl | rfl<;>exact fQ g1 rfl
 refine⟨fun w'=>w'.cell? (Addr.add ⟨bJ,0,none⟩ off)=some (ct (vs off)),bw,?_⟩;unfold U3;refine eg.jh aD ?_;refine eg.ld (v:=ct (vs off)) (by simp[bL]) (fun w' m=>m) ?_;refine eg.mM (mg (mg bx (by omega)) (by omega)) ?_;refine eg.mM (mg (mg (mg uk (by omega)) (by omega)) (by omega)) ?_;refine eg.mM (mg (mg (mg (mg Pc (by omega)) (by omega)) (by omega)) (by omega)) ?_;generalize pd:bW _ (n+4) _=rp;have agt:∀t,t<n\/n+8<t->rp t=S t:=by
  subst pd;intro t aB;simp only[bL];rw[if_neg (by omega),if_neg (by omega),if_neg (by omega),if_neg (by omega),if_neg (by omega)]
 have bG:rp 4 = .pointer (some ⟨bJ,0,none⟩):=by subst pd;exact mg (mg (mg (mg (mg aD (by omega)) (by omega)) (by omega)) (by omega)) (by omega)
 have f1:rp (n+1)=ct (vs off):=by subst pd;simp[bL]
 have f2:rp (n+2) = .func (.func F.o1) #[] #[.pointer (some ⟨bJ,0,none⟩),.pointer (some ⟨bs,0,none⟩)]:=by subst pd;simp[bL]
 have f3:rp (n+3) = .int .i64 iL:=by subst pd;simp[bL]
 have f4:rp (n+4)=pA:=by subst pd;simp[bL]
 refine eg.AS (lZ.c ?_);show Ar _ (rp (n+2)) [.int .i64 so,rp (n+3),rp (n+4)] w _;rw[f2,f3,f4];refine L5 (first:=[]) (cap:=[.pointer (some ⟨bJ,0,none⟩),.pointer (some ⟨bs,0,none⟩)]) (by kernel_rfl) (als so iL pA l pK pD pG cs base w1 bJ bs w cw jl an aG hm) ?_;rintro _ aH ⟨rfl,eE,n2,il⟩;refine⟨(il off Ov).trans bw,?_⟩;refine eg.AS (lZ.e ?_);have he:Ext aH (aH.alloc (.cells #[.int .i64 cs.length] T.a)):=(Ext.refl aH).alloc _;rw[afp];refine Dj (cs:=[.int .i64 cs.length]) (MM (by simp[iI,bL])) ?_;refine⟨he.cell ((il off Ov).trans bw),?_⟩;have bu:=heap_alloc_new aH (.cells #[.int .i64 cs.length] T.a);have br:=he.cell ((il off Ov).trans bw);have gE:=eE.ext he;have Zo:eB s9 w (aH.alloc (.cells #[.int .i64 cs.length] T.a)):=n2.trans (eB.ext he);show eg _ _ _ _ (aH.alloc (.cells #[.int .i64 cs.length] T.a)) _;generalize aH.alloc (.cells #[.int .i64 cs.length] T.a)=aP at bu br gE Zo;clear he g1 g2 g3 g4;obtain⟨tA,kb,g1,g2,g3,g4⟩:=gE.ex;have afN:ct (vs off)=ct (tA off):=by
  have:off=0\/off=1\/off=2:=by omega
  rcases this with rfl | rfl | rfl
  .rw[fQ g1 (v:=ct (tA 0)) rfl] at br;exact(Option.some.inj br).symm
  .rw[fQ g1 (v:=ct (tA 1)) rfl] at br;exact(Option.some.inj br).symm
  .rw[fQ g1 (v:=ct (tA 2)) rfl] at br;exact(Option.some.inj br).symm
 refine eg.za (pb.e ?_);rw[afo];unfold ae;rw[dp,dp];rw[show ∀a b,put (put rp (some (n+5)) a) (some (n+6)) b (n+1)=ct (tA off) from fun a b=>by rw[iI,iI,<-afN];exact mg (mg f1 (by omega)) (by omega),
  show ∀a b,put (put rp (some (n+5)) a) (some (n+6)) b (n+6)=b from fun a b=>by rw[iI,iI,bL,if_pos rfl]]
 have gj:=gE.mod.size;have hlen:((o.ha.of pK pD pG (cs++o.ft so iL l 0)).rows off).length<=100000:=by
  have:off=0\/off=1\/off=2:=by omega
  rcases this with rfl | rfl | rfl
  .exact aL.1
  .exact aL.2.1
  .exact aL.2.2
 refine ix.app (y:=(cs.length:Int)) off (by omega) g2 (fun _=>rfl) (hA bu) rC (by omega) (by unfold maxLen;omega) (by omega) fun b9 aR eR BF _=>?_;have m4:Mod (fun k=>(ct (tA off)).ownBlock=some k) aP aR:=Mod.grown BF fun k hk=>hk;have lO:∀{k:Nat} {c:Array B_} {t:F_},aP.heap[k]? = some (.cells c t)->t≠T.a->aR.heap[k]? = some (.cells c t):=fun hk aB=>m4.obj (g2.not hk aB off (by omega)) hk;refine eg.jh (a:=⟨bJ,0,none⟩) (by rw[iI,iI,iI];exact mg (mg (mg bG (by omega)) (by omega)) (by omega)) ?_;refine eg.za ?_;show u7 (bW _ (n+8) _ (n+8)) (bW (put _ (some (n+7)) _) (n+8) _ (n+7)) aR _;rw[show ∀(S:Fr) v,bW S (n+8) v (n+8)=v from fun S v=>by rw[bL,if_pos rfl],show ∀(S:Fr) a b,bW (put S (some (n+7)) a) (n+8) b (n+7)=a from fun S a b=>by rw[iI,bL,if_neg (by omega),bL,if_pos rfl]];have cF:=lO g1 (by decide);refine QW fun mi=>_F cF (by simp;omega) rfl fun bq fb cc=>?_;have te:Mod (fun k=>k=bJ) aR bq:=fb.mod rfl;refine hk _ _ (fun t aB=>?_) ⟨?_,dJ tA off b9,kb,?_,(eR.mod te fun i k U au e=>?_).congr (fun _ _=>rfl) (fun i U=>?_),?_,?_⟩ ?_
 .simp only[iI,aaA,bL];rw[if_neg (by omega),if_neg (by omega),if_neg (by omega),if_neg (by omega)];exact agt t aB
 .refine(gE.mod.comp m4 (B:=fun k=>k=bJ\/k=bs) (fun _ _ a=>a) fun i U a=>?_).trans (fb.mod (A:=fun k=>k=bJ\/k=bs) (.inl rfl))
  have:=(g2.lt off i (by omega) a).1;omega
 .rw[cc]
  have:off=0\/off=1\/off=2:=by omega
  rcases this with rfl | rfl | rfl<;>rfl
 .subst e;exact eR.not cF (by decide) i U au
 .have a:off=0\/off=1\/off=2:=by omega
  have b:i=0\/i=1\/i=2\/i=3\/i=4:=by omega
  rcases a with rfl | rfl | rfl<;>rcases b with rfl | rfl | rfl | rfl | rfl<;>rfl
 .exact fb.obj (lO g3 (by decide)) (Ne.symm cw)
 .have HG:((o.ha.of pK pD pG (cs++o.ft so iL l 0)).add off cs.length).Z=(o.ha.of pK pD pG (cs++o.ft so iL l 0)).Z:=by unfold o.ha.add; (repeat' split)<;>rfl
  rw[HG];refine(g4.mod m4 fun k hk h=>?_).mod te fun k hk e=>?_
  .obtain⟨cur,hD⟩:=g4.cu k hk;exact g2.not hD (by decide) off (by omega) h
  .obtain⟨cur,hD⟩:=g4.cu k hk;subst e;rw[g1] at hD;injection hD with hD;injection hD with _ e;exact absurd e (by decide)
 .refine(Zo.trans (eB.mod m4 fun k c ig ah a=>?_)).trans (eB.wr fb cF (by decide));obtain⟨cur,hD⟩:=(g2.own off (by omega)).cu k a;rw[ah] at hD;injection hD with hD;injection hD with _ e;rw[e];decide
end Go.Proofs.R
end
section
namespace bb
open Go Go.RowKit
theorem aW.AZ{α:Type}{enc:α->C_ B_}{e:F_}{sz base b n:Nat}{w:A_}{cs:C_ B_}(xs:C_ α)(h:w.heap[b]? = some (.cells cs.toArray e))(ak:base<=b)(gx:cs=xs.flatMap enc)(dy:∀x,(enc x).length=sz)(ay:n=xs.length)(hm:xs.length<=maxLen):aW enc e sz base w (.slice (some ⟨b,0,none⟩) n n) xs:=by
 subst ay;have aF:cs.length=xs.length*sz:=by rw[gx,xy dy]
 exact⟨by rw[xy dy],.inr ⟨b,xs.length,cs.toArray,rfl,ak,h,Nat.le_refl _,hm,by simpa using aF,by simp only;rw[<-aF,List.take_length,gx]⟩⟩
theorem AC6{P:D_}{cW:B_->A_->Prop}{α:Type}{enc:α->C_ B_}{e:F_}{sz base:Nat}{w:A_}{v:B_}{xs:C_ α}{ty:F_}{gM b:Nat}{y:α}{cs:C_ B_}{t}(an:aW enc e sz base w v xs)(ah:w.heap[b]? = some (.cells cs.toArray e))(gx:cs=enc y)(dy:∀x,(enc x).length=sz)(h1:∀y,∀u∈enc y,u.oneCell'=true)
  (ak:(xs.length+1)*gM<=140737488355328)(my:xs.length+1<=maxLen)(lG:base<=w.heap.size)
  (hk:∀aQ n c w',aW enc e sz base w' (.slice aQ n c) (xs++[y])->w.grownBy w' v.ownBlock->((Value.slice aQ n c).ownBlock=v.ownBlock\/(Value.slice aQ n c).ownBlock=some w.heap.size)->cW (.slice aQ n c) w'):mR P ty e sz gM v (.slice (some ⟨b,0,none⟩) 1 1) w cW t:=by
 refine _X (ys:=[y]) an dy (by subst gx;simpa using hA ah) rfl h1 ak my lG fun b9 w' aM aK kJ=>?_;obtain⟨aQ,cap,rfl,_⟩:=aM.form;exact hk _ _ _ _ aM aK kJ
end bb
namespace o
open Go Go.RowKit bb
structure jN(w:World)(cs:List Value)(x:wZ):Prop where
 ex:∃v0 v1 v2 v3 v4,cs=[v0,v1,v2,.int .i64 x.cells,v3,v4]/\bh 1 (Flat cR) w v0 x.vars/\bh 1 (Flat cR) w v1 x.aw/\bh 1 (Flat cR) w v2 x.insts/\bh 1 (Flat cR) w v3 x.aO/\bh 1 (Flat cR) w v4 x.U
theorem jN.ext{w w':A_}{cs:C_ B_}{x:wZ}(he:Ext w w')(h:jN w cs x):jN w' cs x :=
 let ⟨v0,v1,v2,v3,v4,e,af,h1,I,ab,aD⟩:=h.ex
 ⟨v0,v1,v2,v3,v4,e,af.ext Flat.ext he,h1.ext Flat.ext he,I.ext Flat.ext he,ab.ext Flat.ext he,aD.ext Flat.ext he⟩
theorem jN.form{w:A_}{cs:C_ B_}{x:wZ}(h:jN w cs x):∃cd bw bO c1 bV c2 b2 br cj bF,cs=[.slice cd x.vars.length bw,.slice bO x.aw.length c1,.slice bV x.insts.length c2,.int .i64 x.cells,.slice b2 x.aO.length br,.slice cj x.U.length bF] /\
  bh 1 (Flat cR) w (.slice cd x.vars.length bw) x.vars/\bh 1 (Flat cR) w (.slice bO x.aw.length c1) x.aw/\bh 1 (Flat cR) w (.slice bV x.insts.length c2) x.insts/\bh 1 (Flat cR) w (.slice b2 x.aO.length br) x.aO/\bh 1 (Flat cR) w (.slice cj x.U.length bF) x.U:=by
 obtain⟨v0,v1,v2,v3,v4,rfl,af,h1,I,ab,aD⟩:=h.ex;obtain⟨cd,bw,rfl,_⟩:=af.form;obtain⟨bO,c1,rfl,_⟩:=h1.form;obtain⟨bV,c2,rfl,_⟩:=I.form;obtain⟨b2,br,rfl,_⟩:=ab.form;obtain⟨cj,bF,rfl,_⟩:=aD.form;exact⟨cd,bw,bO,c1,bV,c2,b2,br,cj,bF,rfl,af,h1,I,ab,aD⟩
theorem K0{v:Var}{s:C_ Scalar}(h:C5 v s)(an:s.length<=2):0<=v.scalar/\v.scalar<=2:=by
 rcases h.sc with e | e
 .omega
 .unfold size at e;split at e
  .rename_i x ag
   have:=(List.getElem?_eq_some_iff.1 ag).1
   split at e<;>omega
  .exact absurd rfl e
theorem Va{v:dv}{s:C_ Scalar}(h:CK v s)(an:s.length<=2):0<=v.scalar/\v.scalar<=2:=by
 rcases h.sc with e | e
 .omega
 .unfold size at e;split at e
  .rename_i x ag
   have:=(List.getElem?_eq_some_iff.1 ag).1
   split at e<;>omega
  .exact absurd rfl e
theorem KV(m:Model)(h:eL m)(k:Nat):total ((cO m).take k)<=64:=by
 have h1:=Jk h;have I:=h.cells;have ab:=EW m;have e:total (cO m)=total ((cO m).take k)+total ((cO m).drop k):=by rw[<-FN,List.take_append_drop]
 omega
theorem Ra(m:Model)(h:eL m)(k:Nat):total (cO m)+total ((dr m).take k)<=64:=by
 have h1:=Jk h;have I:=h.cells;have ab:=EW m;have e:total (dr m)=total ((dr m).take k)+total ((dr m).drop k):=by rw[<-FN,List.take_append_drop]
 omega
theorem abT(m:Model)(h:eL m)(k:Nat):total (cO m)+total (dr m)+total ((fq m).take k)<=64:=by
 have h1:=Jk h;have I:=h.cells;have ab:=EW m;have e:total (fq m)=total ((fq m).take k)+total ((fq m).drop k):=by rw[<-FN,List.take_append_drop]
 omega
end o
namespace Go.Proofs.R
open Go Go.RowKit bb
theorem alB(cs:C_ B_)(m:o.Model)(w:A_)(h:o.dV w cs m)(aK:m.cN)(a1:o.eL m) :
  a7 Tryz.prog F.A9 #[.agg cs.toArray] w fun v w'=>(∃xs u,v = .tuple #[.agg xs.toArray,u]/\eD w (fun w=>o.jN w xs (o.layout m)) w'/\eD w (fun w=>bh 4 (Flat o.Cell.slot) w u (o.bX m)) w')/\Ext w w':=by
 obtain⟨cd,bw,bO,c1,bV,c2,b2,br,cj,bF,rfl,af,h1,I,ab,aD,eU,ek,ev,ef,ew⟩:=h.form;have gU:=a1.gU;refine bn E.A9 ?_;refine J ?_;intro K5 bo cT qM ai;have cV:=cy ai;refine J ?_;intro K8 bR dt pX av;have dq:=cy av;replace ai:=pX.obj ai;refine J ?_;intro yv bJ nV nm kM;have atV:=cy kM;replace ai:=nm.obj ai;replace av:=nm.obj av;refine J ?_;intro w1 bs D5 pY gx;have atU:=cy gx;replace ai:=pY.obj ai;replace av:=pY.obj av;replace kM:=pY.obj kM;have j1:=qM.size;have jK:=pX.size;have re:=nm.size;have CD:=pY.size;have bt:=((qM.trans pX).trans nm).trans pY;clear qM pX nm pY;have cw:bJ≠bs:=by omega
 have jl:bJ<w1.heap.size/\bs<w1.heap.size:=⟨by omega,by omega⟩;have jZ:kA w1 bJ bs (o.ha.of [] [] [] []) w1:=⟨Mod.refl _ _,fun _=>(none,0,0),(none,0,0),kM,⟨fun i U=>by
   have e:(o.ha.of [] [] [] []).rows i=[]:=by unfold o.ha.rows; (repeat' split)<;>rfl
   rw[e];exact aW.nil _ _ _ _ _,fun i j k _ _ _ e=>by cases e⟩,gx,aW.nil _ _ _ _ _⟩
 have mG:∀{s W},kA w1 bJ bs s W->W.heap[bo]? = w1.heap[bo]? := fun h=>h.mod.block _ (by omega) (by omega);have gp:∀{s W},kA w1 bJ bs s W->W.heap[bR]? = w1.heap[bR]? := fun h=>h.mod.block _ (by omega) (by omega);have dK:∀{s W},kA w1 bJ bs s W->Ext w W:=fun h=>h.mod.ext bt fun i U e=>by omega
 rw[ai] at mG;rw[av] at gp;refine J ?_;refine L_ 24 m.vars.length [1,2,4,5,6,22,23] (fun _:Unit=>[]) () (fun k _ W=>kA w1 bJ bs (o.ha.of (o.hW 0 ((o.cO m).take k)) [] [] (o.cellsOf 1 ((o.cO m).take k) 0)) W) bc bc (by simpa[o.hW,o.cellsOf] using jZ) ?_;clear jZ kM gx ai av;rintro k _ S aH hk an;have ai:=mG an;have c7:=dK an;refine J ?_;apply I_<;>intro g1
 .have aZ:k<m.vars.length:=by omega
  obtain⟨a,rfl⟩:=h1.addr;have eo:=((h1.at k aZ).cells).ext c7;have di:=a1.var _ (List.getElem_mem aZ);have ma:=o.K0 di gU.1;refine J ?_;intro wn iR oC fm eQ;refine J ?_;intro aP gd bu;have aj:Ext aH aP:=gd.ext fm oC;replace bu:aP.heap[iR]? = some (.cells m.vars[k].enc.toArray T.m):=bu;replace ai:=aj.obj ai;clear gd fm eQ eo;have fv:=c7.trans aj;refine J ?_;refine J_ (A7 m.vars[k] _ m.scalars aP (af.ext fv)) ?_;rintro _ aR ⟨rfl,aA⟩;have dR:=o.sH m.vars[k] m.scalars;have eA:=fv.trans aA;have rJ:=aA.obj ai;have aie:=aA.obj bu;refine J ?_;refine L_ 33 (o.cells m.vars[k] m.scalars).toNat [1,2,4,5,6,7,8,22,23,24,32] (fun v:hc=>[(9,.slice v.1 v.2.1 v.2.2)]) (none,0,0) (fun j v W=>Ext aR W/\aW o.dN.enc T.j 3 aR.heap.size W (.slice v.1 v.2.1 v.2.2) (List.replicate j (o.e7 m.vars[k].scalar m.vars[k].aO m.vars[k].U m.scalars))) bc bc ⟨Ext.refl _,aW.nil _ _ _ _ _⟩ ?_;clear ai bu;rintro j v S bq aE ⟨aJ,dL⟩;have ai:=aJ.obj rJ;have bu:=aJ.obj aie;refine J ?_;apply I_<;>intro g2
  .have et:j<(o.cells m.vars[k] m.scalars).toNat:=by omega
   refine J ?_;refine J_ (PH m.vars[k] _ m.scalars bq (af.ext (eA.trans aJ)) (by unfold o.dH;omega)) ?_;rintro _ bB ⟨rfl,aT⟩;have vQ:=o.xf (o.e7 m.vars[k].scalar m.vars[k].aO m.vars[k].U m.scalars);refine J ?_;intro bQ adz asj bz c9;replace c9:bQ.heap[adz]? = some (.cells (o.e7 m.vars[k].scalar m.vars[k].aO m.vars[k].U m.scalars).enc.toArray T.j):=c9;have dS:=dL.ext (aT.trans bz);have Iz:=(aJ.trans aT).trans bz;have aF:(List.replicate j (o.e7 m.vars[k].scalar m.vars[k].aO m.vars[k].U m.scalars)).length=j:=List.length_replicate;refine V_ (y:=o.e7 m.vars[k].scalar m.vars[k].aO m.vars[k].U m.scalars) dS c9 rfl (fun _=>rfl) o.xf (by rw[aF];omega) (by rw[aF];unfold maxLen;omega) Iz.size fun aQ n c de hr zt=>?_;refine J ?_;exact⟨et,aU,(aQ,n,c),bc,dS.mw Iz zt (Nat.le_refl _),by rw[List.replicate_succ'];exact hr⟩
  .have nZ:j=(o.cells m.vars[k] m.scalars).toNat:=by omega
   have sZ:=an.ext ((aj.trans aA).trans aJ);replace dL:aW o.dN.enc T.j 3 aR.heap.size bq (.slice v.1 v.2.1 v.2.2) (o.Aj m.scalars m.vars[k]):=by rw[nZ] at dL;exact dL
   have eQ:=o.kF 1 ((o.cO m).take k) 0;have s4:=o.KV m a1 k;refine J ?_;intro bB aT;refine _t (L6 (n:=43) (x:=7) (y:=9) (off:=0) (so:=1) (by decide) (by decide) (by decide) (by decide) cw jl (by simp[bL]) (by simp[bL]) (by simp[bL];rfl) (by simp[bL]) (sZ.ext aT) (dL.ext aT) (by rw[eQ,o.Cy];omega) ⟨by rw[o.tw,List.length_take];omega,by simp,by simp⟩ fun aX bQ ax b1 wa=>?_);have vw:aX 24 = .int .i64 k:=by rw[ax 24 (by decide)];simp[bL]
   refine J ?_;rw[vw];refine J ?_;refine⟨aZ,aU,(),trivial,?_⟩;have aG:k<(o.cO m).length:=by simpa[o.cO] using aZ
   have e:(o.cO m)[k]=o.Aj m.scalars m.vars[k]:=by simp[o.cO]
   rw[List.take_succ_eq_append_getElem aG,e,o.KR,o.yY];have aI:(0+((o.cO m).take k).length:Nat)=k:=by rw[List.length_take];omega
   rw[aI,Nat.zero_add,<-eQ];exact b1
 have lK:m.vars.length<=k:=by omega
 rw[List.take_of_length_le (by simpa[o.cO] using lK)] at an;have Rb:=o.KV m a1 m.vars.length;rw[List.take_of_length_le (by simp[o.cO])] at Rb;refine J ?_;refine L_ 56 m.aw.length [1,2,4,5,6,54,55] (fun _:Unit=>[]) () (fun k _ W=>kA w1 bJ bs (o.ha.of (o.hW 0 (o.cO m)) (o.hW (o.total (o.cO m)) ((o.dr m).take k)) [] (o.cellsOf 1 (o.cO m) 0++o.cellsOf 2 ((o.dr m).take k) 0)) W) bc bc (by simpa[o.hW,o.cellsOf] using an) ?_;clear an ai c7;rintro k _ S aH hk an;have ai:=mG an;have c7:=dK an;refine J ?_;apply I_<;>intro g2
 .have aZ:k<m.aw.length:=by omega
  obtain⟨a,rfl⟩:=I.addr;have eo:=((I.at k aZ).cells).ext c7;have di:=a1.chan _ (List.getElem_mem aZ);have ma:=o.Va di gU.1;have h7:=di.cap;refine J ?_;intro wn o2 Bw fm eQ;refine J ?_;intro aP gd bu;have aj:Ext aH aP:=gd.ext fm Bw;replace bu:aP.heap[o2]? = some (.cells m.aw[k].enc.toArray T.t):=bu;replace ai:=aj.obj ai;clear gd fm eQ eo;have Ns:=ai;have aif:=bu;have fv:=c7.trans aj;refine J ?_;intro aR GM ah2 aA Ea;replace Ea:aR.heap[GM]? = some (.cells ([(⟨0,m.aw[k].cap,0⟩:o.dN)].flatMap o.dN.enc).toArray T.j):=Ea;have eR:aW o.dN.enc T.j 3 aP.heap.size aR (.slice (some ⟨GM,0,none⟩) 1 1) [(⟨0,m.aw[k].cap,0⟩:o.dN)]:=aW.AZ _ Ea ah2 rfl (fun _=>rfl) rfl (by simp[maxLen]);replace ai:=aA.obj ai;replace bu:=aA.obj bu;have eA:=fv.trans aA;have Xf:=Ea;clear Ea;refine J ?_;refine J_ (PH ⟨⟨#[]⟩,m.aw[k].scalar,0,min m.aw[k].aO 0,max m.aw[k].U 0,0⟩ _ m.scalars aR (af.ext eA) (by unfold o.dH;simp only;omega)) ?_;rintro _ bq ⟨rfl,aJ⟩;have vQ:=o.xf (o.e7 m.aw[k].scalar (min m.aw[k].aO 0) (max m.aw[k].U 0) m.scalars);refine J ?_;intro bB vd Np aT kL;replace kL:bB.heap[vd]? = some (.cells (o.kG m.scalars m.aw[k]).enc.toArray T.j):=kL;replace ai:=(aJ.trans aT).obj ai;replace bu:=(aJ.trans aT).obj bu;have dB:=eR.ext (aJ.trans aT);have aiK:=(aA.trans aJ).trans aT;clear eR;refine J ?_;have asd:GM<vd:=by have:=cy Xf;have:=aJ.size;omega
  refine L_ 79 m.aw[k].cap.toNat [1,2,4,5,6,10,11,13,54,55,56,78] (fun v:hc=>[(12,.slice v.1 v.2.1 v.2.2)]) (some ⟨GM,0,none⟩,1,1) (fun j v W=>Ext aP W/\W.heap[vd]? = bB.heap[vd]? /\ aW o.dN.enc T.j 3 aP.heap.size W (.slice v.1 v.2.1 v.2.2) (⟨0,m.aw[k].cap,0⟩ :: List.replicate j (o.kG m.scalars m.aw[k]))/\(Value.slice v.1 v.2.1 v.2.2).ownBlock≠some vd) bc bc ⟨aiK,rfl,dB,by simp[Value.ownBlock];omega⟩ ?_;rw[kL];have aup:=cy kL;clear ai bu kL dB Xf;rintro j v S bQ aE ⟨IC,kL,dS,hg⟩;have ai:=IC.obj Ns;have bu:=IC.obj aif;refine J ?_;apply I_<;>intro g3
  .have et:j<m.aw[k].cap.toNat:=by omega
   have vQ:=o.xf (o.kG m.scalars m.aw[k]);refine J ?_;intro de adA asm bP Nw;replace Nw:de.heap[adA]? = some (.cells (o.kG m.scalars m.aw[k]).enc.toArray T.j):=Nw;have hr:=dS.ext bP;have aF:((⟨0,m.aw[k].cap,0⟩:o.dN) :: List.replicate j (o.kG m.scalars m.aw[k])).length=j+1:=by simp
   have XC:=IC.trans bP;have z138:=cy (bP.obj kL);refine AC6 (y:=o.kG m.scalars m.aw[k]) hr Nw rfl (fun _=>rfl) o.xf (by rw[aF];omega) (by rw[aF];unfold maxLen;omega) XC.size fun aQ n c dc hs XM kJ=>?_;have mB:dc.heap[vd]? = _:=(Mod.grown (A:=fun i=>(Value.slice v.1 v.2.1 v.2.2).ownBlock=some i) XM fun k hk=>hk).obj hg (bP.obj kL);refine J ?_;refine⟨et,aU,(aQ,n,c),bc,hr.mw XC XM (Nat.le_refl _),mB,by rw[List.replicate_succ'];exact hs,fun e=>?_⟩;rcases kJ with a | a
   .exact hg (a.symm.trans e)
   .rw[a] at e;injection e with e;omega
  .have nZ:j=m.aw[k].cap.toNat:=by omega
   have jW:=an.ext (aj.trans IC);replace dS:aW o.dN.enc T.j 3 aP.heap.size bQ (.slice v.1 v.2.1 v.2.2) (o.na m.scalars m.aw[k]):=by rw[nZ] at dS;exact dS
   have eQ:=o.kF 1 (o.cO m) 0;have NI:=o.kF 2 ((o.dr m).take k) 0;have hlen:(o.cellsOf 1 (o.cO m) 0++o.cellsOf 2 ((o.dr m).take k) 0).length=o.total (o.cO m)+o.total ((o.dr m).take k):=by rw[List.length_append,eQ,NI]
   have s4:=o.Ra m a1 k;refine J ?_;intro de bP;refine _t (L6 (n:=86) (x:=10) (y:=12) (off:=1) (so:=2) (by decide) (by decide) (by decide) (by decide) cw jl (by simp[bL]) (by simp[bL]) (by simp[bL];rfl) (by simp[bL]) (jW.ext bP) (dS.ext bP) (by rw[hlen,o.vj];omega) ⟨by rw[o.tw];simp[o.cO];omega,by rw[o.tw,List.length_take];omega,by simp⟩ fun aX bQ ax b1 wa=>?_);have vw:aX 56 = .int .i64 k:=by rw[ax 56 (by decide)];simp[bL]
   refine J ?_;rw[vw];refine J ?_;refine⟨aZ,aU,(),trivial,?_⟩;have aG:k<(o.dr m).length:=by simpa[o.dr] using aZ
   have e:(o.dr m)[k]=o.na m.scalars m.aw[k]:=by simp[o.dr]
   rw[List.take_succ_eq_append_getElem aG,e,o.KR,o.yY];have aI:(0+((o.dr m).take k).length:Nat)=k:=by rw[List.length_take];omega
   rw[aI,<-List.append_assoc,<-hlen];exact b1
 have qO:m.aw.length<=k:=by omega
 rw[List.take_of_length_le (by simpa[o.dr] using qO)] at an;have aqb:=o.Ra m a1 m.aw.length;rw[List.take_of_length_le (by simp[o.dr])] at aqb;refine J ?_;refine J_ (v7 _ m aH (h.ext c7) aK) ?_;rintro bM qf ⟨fp,ud⟩;obtain⟨cx,ci,rfl,_⟩:=fp.form;have EG:=an.ext ud;have lJ:(o.insts m).length<=30:=by have:=o.uo m;have:=a1.procs;omega
 refine J ?_;refine L_ 99 (o.insts m).length [1,2,4,5,6,97,98] (fun _:Unit=>[]) () (fun k _ W=>kA w1 bJ bs (o.ha.of (o.hW 0 (o.cO m)) (o.hW (o.total (o.cO m)) (o.dr m)) (o.hW (o.total (o.cO m)+o.total (o.dr m)) ((o.fq m).take k)) (o.cellsOf 1 (o.cO m) 0++o.cellsOf 2 (o.dr m) 0++o.cellsOf 3 ((o.fq m).take k) 0)) W/\eB s9 qf W) bc bc ⟨by simpa[o.hW,o.cellsOf] using EG,eB.refl⟩ ?_;clear an EG ai c7;rintro k _ S aH hk ⟨an,n2⟩;have ai:=mG an;have c7:=dK an;have e9:ke aH (.slice cx (o.insts m).length ci) (o.insts m):=aW.iv (enc:=o.cZ.enc) (fun _=>rfl) (fp.ib n2 (by decide));refine J ?_;apply I_<;>intro g3
 .have aZ:k<(o.insts m).length:=by omega
  obtain⟨iP,rfl⟩:=e9.addr;have pn:=o.rW _ (List.getElem_mem aZ);obtain⟨p,ar,hh,pR⟩:=o.zE pn;have di:=a1.proc _ (List.getElem_mem ar);have X5:=di.b8;have sU:=di.gU.1;refine J ?_;intro wn yS D3 fm eQ;refine J ?_;intro aP gd bu;have aj:Ext aH aP:=gd.ext fm D3;replace bu:aP.heap[yS]? = some (.cells #[.int .i64 p,.int .i64 (o.insts m)[k].elem] T.e):=by rw[<-hh];exact bu
  replace ai:=aj.obj ai;clear gd fm eQ e9;have fv:=c7.trans aj;obtain⟨a,rfl⟩:=ab.addr;obtain⟨lM,b7,ec,dD,e2,fO⟩:=ab.at p ar;obtain⟨e4,fL,rfl,fH⟩:=e2.form;obtain⟨ob,k5,rfl,lc⟩:=fO.form;replace dD:=dD.ext fv;refine J ?_;intro aR LV W9 aA oD;replace oD:aR.heap[LV]? = some (.cells (m.procs[p].enc (.slice e4 m.procs[p].vars.length fL) (.slice ob m.procs[p].cL.length k5)).toArray T.l):=oD;unfold o.dz.enc at oD;have eA:=fv.trans aA;replace ai:=aA.obj ai;clear dD;refine J ?_;intro bq LU ah0 aJ Io;replace Io:bq.heap[LU]? = some (.cells ([(⟨0,m.procs[p].b8 - 1,0⟩:o.dN)].flatMap o.dN.enc).toArray T.j):=Io;have dL:aW o.dN.enc T.j 3 aR.heap.size bq (.slice (some ⟨LU,0,none⟩) 1 1) [(⟨0,m.procs[p].b8 - 1,0⟩:o.dN)]:=aW.AZ _ Io ah0 rfl (fun _=>rfl) rfl (by simp[maxLen]);have Ns:=ai;have aib:=oD;replace oD:=aJ.obj oD;clear Io ai;refine J ?_;refine L_ 118 m.procs[p].vars.length [1,2,4,5,6,14,16,97,98,99,116,117] (fun v:hc=>[(17,.slice v.1 v.2.1 v.2.2)]) (some ⟨LU,0,none⟩,1,1) (fun j v W=>Ext aR W/\aW o.dN.enc T.j 3 aR.heap.size W (.slice v.1 v.2.1 v.2.2) (⟨0,m.procs[p].b8 - 1,0⟩ :: (m.procs[p].vars.take j).map fun v=>o.e7 v.scalar v.aO v.U m.scalars)) bc bc ⟨aJ,by simpa using dL⟩ ?_;clear oD dL;rintro j v S bB aE ⟨BD,dB⟩;have ai:=BD.obj Ns;have oD:=BD.obj aib;have iM:=eA.trans BD;refine J ?_;apply I_<;>intro g4
  .have et:j<m.procs[p].vars.length:=by omega
   obtain⟨qx,rfl⟩:=e2.addr;have eo:=((e2.at j et).cells).ext iM;have OZ:=di.var _ (List.getElem_mem et);have ma:=o.K0 OZ gU.1;refine J ?_;intro bQ ady ase bz D7;replace D7:bQ.heap[ady]? = some (.cells m.procs[p].vars[j].enc.toArray T.m):=D7;replace ai:=bz.obj ai;have gK:=iM.trans bz;clear eo;refine J ?_;refine J_ (PH m.procs[p].vars[j] _ m.scalars bQ (af.ext gK) (by unfold o.dH;omega)) ?_;rintro _ de ⟨rfl,bP⟩;have vQ:=o.xf (o.e7 m.procs[p].vars[j].scalar m.procs[p].vars[j].aO m.procs[p].vars[j].U m.scalars);refine J ?_;intro dc adx asc ck Nt;replace Nt:dc.heap[adx]? = some (.cells (o.e7 m.procs[p].vars[j].scalar m.procs[p].vars[j].aO m.procs[p].vars[j].U m.scalars).enc.toArray T.j):=Nt;have hs:=dB.ext ((bz.trans bP).trans ck);have XD:=((BD.trans bz).trans bP).trans ck;have aF:((⟨0,m.procs[p].b8 - 1,0⟩:o.dN) :: (m.procs[p].vars.take j).map fun v=>o.e7 v.scalar v.aO v.U m.scalars).length=j+1:=by simp;omega
   refine V_ (y:=o.e7 m.procs[p].vars[j].scalar m.procs[p].vars[j].aO m.procs[p].vars[j].U m.scalars) hs Nt rfl (fun _=>rfl) o.xf (by rw[aF];omega) (by rw[aF];unfold maxLen;omega) XD.size fun aQ n c eY pk oF=>?_;refine J ?_;exact⟨et,aU,(aQ,n,c),bc,hs.mw XD oF (Nat.le_refl _),by rw[List.take_succ_eq_append_getElem et,List.map_append];exact pk⟩
  .have BS:=an.ext ((aj.trans aA).trans BD);have Pr:eB s9 aH bB:=eB.ext ((aj.trans aA).trans BD);replace dB:aW o.dN.enc T.j 3 aR.heap.size bB (.slice v.1 v.2.1 v.2.2) (o.lN m (o.insts m)[k]):=by rw[List.take_of_length_le (by omega)] at dB;rw[pR];exact dB
   have eQ:=o.kF 1 (o.cO m) 0;have NI:=o.kF 2 (o.dr m) 0;have aiy:=o.kF 3 ((o.fq m).take k) 0;have hlen:(o.cellsOf 1 (o.cO m) 0++o.cellsOf 2 (o.dr m) 0++o.cellsOf 3 ((o.fq m).take k) 0).length=o.total (o.cO m)+o.total (o.dr m)+o.total ((o.fq m).take k):=by rw[List.length_append,List.length_append,eQ,NI,aiy]
   have s4:=o.abT m a1 k;have Im:(o.lN m (o.insts m)[k]).length<=10:=by rw[pR,o.zX];omega
   refine J ?_;intro de bP;refine _t (L6 (n:=130) (x:=14) (y:=17) (off:=2) (so:=3) (by decide) (by decide) (by decide) (by decide) cw jl (by simp[bL]) (by simp[bL]) (by simp[bL];rfl) (by simp[bL]) (BS.ext bP) (dB.ext bP) (by rw[hlen];omega) ⟨by rw[o.tw];simp[o.cO];omega,by rw[o.tw];simp[o.dr];omega,by rw[o.tw,List.length_take];omega⟩ fun aX bQ ax b1 wa=>?_);have vw:aX 99 = .int .i64 k:=by rw[ax 99 (by decide)];simp[bL]
   refine J ?_;rw[vw];refine J ?_;refine⟨aZ,aU,(),trivial,?_,((n2.trans Pr).trans (eB.ext bP)).trans wa⟩;have aG:k<(o.fq m).length:=by simpa[o.fq] using aZ
   have e:(o.fq m)[k]=o.lN m (o.insts m)[k]:=by simp[o.fq]
   rw[List.take_succ_eq_append_getElem aG,e,o.KR,o.yY];have aI:(0+((o.fq m).take k).length:Nat)=k:=by rw[List.length_take];omega
   rw[aI,<-List.append_assoc,<-hlen];exact b1
 have lf:(o.insts m).length<=k:=by omega
 rw[List.take_of_length_le (by simpa[o.fq] using lf)] at an;have av:=gp an;obtain⟨vs,u,g1,g2,g3,g4⟩:=an.ex;have fin:∀{aP W},Ext aH aP->dn bR aP W->(∃xs kb,Value.tuple #[.agg #[ct (vs 0),ct (vs 1),ct (vs 2),.int .i64 (o.bX m).length,ct (vs 3),ct (vs 4)],ct u] = .tuple #[.agg xs.toArray,kb]/\eD w (fun w=>o.jN w xs (o.layout m)) W/\eD w (fun w=>bh 4 (Flat o.Cell.slot) w kb (o.bX m)) W)/\Ext w W:=by
  intro aP W he hw;have dt:=he.obj av;have agV:=(g2.ext he).mod (hw.mod (A:=fun i=>i=bR) rfl) fun i k U hk e=>by subst e;exact(g2.ext he).not dt (by decide) i U hk
  have agW:=(g4.ext he).mod (hw.mod (A:=fun i=>i=bR) rfl) fun k hk e=>by
   subst e;obtain⟨cur,hD⟩:=(g4.ext he).cu k hk;rw[dt] at hD;injection hD with hD;injection hD with _ e;exact absurd e (by decide)
  have bA:w.heap.size<=w1.heap.size:=by omega
  have tg:=fun(i:Nat) (U:i<5)=>aW.new (e:=T.a) (enc:=cR) (fun _=>rfl) (aW.low bA (agV.own i U));refine⟨⟨[_,_,_,_,_,_],_,rfl,fun eP tc=>⟨⟨_,_,_,_,_,rfl,tg 0 (by decide) eP tc,tg 1 (by decide) eP tc,tg 2 (by decide) eP tc,tg 3 (by decide) eP tc,tg 4 (by decide) eP tc⟩⟩,aW.new (e:=T.r) (enc:=o.Cell.slot) (fun _=>rfl) (aW.low bA agW)⟩,hw.ext (c7.trans he) (by omega)⟩
 replace g1:aH.heap[bJ]? = some (.cells #[ct (vs 0),ct (vs 1),ct (vs 2),.int .i64 (o.bX m).length,ct (vs 3),ct (vs 4)] T.h):=g1;refine J ?_;intro aP aj;replace g1:=aj.obj g1;replace g3:=aj.obj g3;replace av:=aj.obj av;dsimp only[ct] at g1 g3;refine J ?_;refine⟨?_,?_⟩
 .refine J ?_;refine⟨?_,?_⟩
  .refine J ?_;intro aR du bH;refine J ?_;exact fin aj du
  .refine J ?_;intro aR du bH;replace g3:=du.obj g3 (by omega);refine J ?_;exact fin aj du
 .refine J ?_;intro aR du bH;refine J ?_;exact fin aj du
end Go.Proofs.R
end
section
namespace o
theorem x7{m:Model}(h:(check m).cA=0):lay m=layout m:=by unfold lay;rw[if_pos h]
theorem ZA{m:Model}(h:¬(check m).cA=0):lay m=PU:=by unfold lay;rw[if_neg h]
theorem kt{m:Model}(h:eL m):(bX m).length<=64:=by
 have:=Jk h
 have:=h.cells
 omega
open Go Go.RowKit bb in
theorem jN.zero(w:A_):jN w [.slice none 0 0,.slice none 0 0,.slice none 0 0,.int .i64 0,.slice none 0 0,.slice none 0 0] PU:=⟨_,_,_,_,_,rfl,bh.nil,bh.nil,bh.nil,bh.nil,bh.nil⟩
end o
namespace Go.Proofs.R
open Go Go.RowKit bb
theorem EX(cs:C_ B_)(m:o.Model)(w:A_)(h:o.dV w cs m)(aK:m.cN)(aM:gB w) :
  a7 Tryz.prog F.a #[.agg cs.toArray] w fun v w'=>(∃xs,v = .agg xs.toArray/\eD w (fun w=>o.jN w xs (o.lay m)) w')/\Ext w w':=by
 have a1:=h;obtain⟨cd,bw,bO,c1,bV,c2,b2,br,cj,bF,rfl,_⟩:=h.form;refine bn E.a ?_;refine J ?_;intro w1 bo cT al ai;refine J ?_;intro aH bR dt ao av;have gj:=cy ai;replace ai:=ao.obj ai;have z2:=cy av;have z3:=al.size;have aI:=al.trans ao;refine J ?_;refine J_ (al5 _ m aH (a1.ext aI) aK (aM.ext aI)) ?_;rintro _ aP ⟨rfl,aj⟩;replace ai:=aj.obj ai;replace av:=aj.obj av;have ba:=aI.trans aj;by_cases hk:(o.check m).cA=0
 .rw[decide_eq_true hk];refine J ?_;refine J_ (alB _ m aP (a1.ext ba) aK (o.ir hk)) ?_;rintro _ aR ⟨⟨xs,u,rfl,cI,an⟩,aA⟩;obtain⟨ml,d0,j0,d1,kX,d2,pB,d3,oP,d4,rfl,_⟩:=cI.here.form;obtain⟨Ca,rz,rfl,_⟩:=an.here.form;replace av:=aA.obj av;have bG:=ba.trans aA;have z4:=aj.size;refine J ?_;intro bq b0 fW aJ bu;replace av:=aJ.obj av;refine J ?_;intro bB gn b4;have ay:=(cI.ext aJ aA.size).wr gn (by omega);refine J ?_;exact⟨⟨_,rfl,by rw[o.x7 hk];exact ay.low ba.size⟩,gn.ext (bG.trans aJ) (by omega)⟩
 .rw[decide_eq_false hk];refine J ?_;intro aR du bH;refine J ?_;exact⟨⟨[_,_,_,_,_,_],rfl,by rw[o.ZA hk];exact gT.of fun _=>o.jN.zero _⟩,du.ext ba (by omega)⟩
end Go.Proofs.R
end