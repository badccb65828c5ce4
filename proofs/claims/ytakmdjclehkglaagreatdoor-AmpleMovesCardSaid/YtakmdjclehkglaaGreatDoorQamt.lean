/- Parts. -/
import Derived.Test.YtakmdjclehkglaaGreatDoorQams
import Derived.Test.YtakmdjclehkglaaGreatDoorRows
import Derived.JoinedCond
set_option linter.all false
set_option maxRecDepth 8000
set_option maxHeartbeats 32000000
namespace ba
open Go Go.RowKit Go.ChangeShapes Go.WideShapes Go.Deep
section
variable{H:Type}{enc:TypeId×Value->H}{P:Program}{w:World}{base:Nat}{spare:Nat->Bool}{held:Bool}
theorem afV{e:F_}:∀{ds:C_ (DataW H)} {d:DataW H},d∈ds->∀n∈d.weights P e,n∈DataW.weightsAll P e ds
 | [],_,h=>by cases h
 | x :: r,d,h=>λn aw=>by
  simp only[DataW.weightsAll];rcases List.mem_cons.1 h with rfl | h
  .exact AH2 _ aw
  .exact AI6 _ (afV h n aw)
def yC{α:Type}{R:A_->Addr->α->Prop}{G:α->Prop}{t e:F_}{v:B_}{n:Nat}{z:DataW H×C_ MemPlace}(sz B:Nat)(aB:P.underlying t=some (.slice e))(br:P.cellsOf e=sz)(gP:P.bytesOf e=B)
  (bA:∀(a:Addr) (cs:C_ B_) (n:Nat) (y:DataW H×C_ MemPlace),ff w a cs->cs.length=sz->DataW.trod enc P w 0 (λ_=>true) true n e cs=some y->∃x,R w a x/\(Small P e y.1->G x))
  (h:DataW.trod enc P w 0 (λ_=>true) true n t [v]=some z):∃xs,bm sz R w v xs/\(Small P t z.1->o.ev xs.length B/\∀x∈xs,G x):=by
 rcases open_slice aB h with ⟨gx,_⟩ | ⟨a,len,cap,m,n,D,agz,gx,ak,aE,hm,GI,ah,U⟩
 .simp at gx;subst gx;exact⟨[],bm.nil,λ_=>⟨by simp[o.ev],λx ah=>by cases ah⟩⟩
 .simp at gx;subst gx;simp only[if_true] at GI;subst GI;obtain⟨xs,xx,uq⟩:=S8 len (λi x=>R w (a.add (i*sz)) x/\(Small P e (D i)->G x)) λi cw=>by
   obtain⟨js,an,zl⟩:=U i Aw;rw[br] at an;obtain⟨_,dN,jP⟩:=World.cells?_some an;refine bA _ js n _ (λj u ay=>?_) dN zl;have RB:j<sz:=dN ▸ (List.getElem?_eq_some_iff.1 ay).1;rw[<-ay];exact jP j RB
  refine⟨xs,⟨some a,_,by rw[xx],Aw,hm,λ_=>rfl,λcx aY i U=>by injection aY with aY;subst aY;exact(uq i U).1⟩,λaj=>⟨?_,λx vG=>?_⟩⟩
  .have h1:=aj ((len+(m - len))*P.bytesOf e) (by rw[ah];simp[DataW.weights,aB]);have J:len*B<=(len+(m - len))*P.bytesOf e:=by rw[gP];exact AI9 _ Aw
   have ab:reachBytes=140737488351232:=rfl;unfold o.ev;rw[xx];omega
  .obtain⟨i,cw,rfl⟩:=List.mem_iff_getElem.1 vG;refine(uq i cw).2 λq av=>aj q ?_;rw[ah];simp only[DataW.weights,aB];refine AH7 _ (AH2 _ (afV ?_ q av));exact List.mem_map.2 ⟨i,by simp;omega,rfl⟩
def aqR{r:Reach}{qP:Nat}{t:F_}{gH:Array Field}{v:B_}{d:DataW H}{p:C_ MemPlace}(aB:P.underlying t=some (.struct gH))
  (xv:Value.okWide P w r qP t v)(h:DataW.Trod enc P w base spare held t v d p):∃cs n,v = .agg cs/\DataW.trod enc P w base spare held n t cs.toList=some (d,p):=by
 obtain⟨cs,rfl,dt⟩:=okWide_struct aB xv;obtain⟨fuel,ax⟩:=h;exact⟨cs,fuel,rfl,ax⟩
end
end ba
namespace Go.Proofs.R
open Go Go.RowKit ba Go.ChangeShapes o
variable{H:Type}{enc:TypeId×Value->H}{w:World}{cs:List Value}{n:Nat}{y:DataW H×List MemPlace}{v:Value}
theorem ak2(h:DataW.trod enc Tryz.prog w 0 (λ_=>true) true n T.wA cs=some y):∃x:o.Scalar,cs=x.enc/\jV x.name/\x.cr:=by
 obtain⟨aE,iO,ds,_,ax⟩:=wZ (t:=T.wA) rfl Cx Cx h
 match cs,aE with
 | [bz,c1],_ =>
  obtain⟨_,_,ej,ad,_⟩:=ax 0 _ rfl;cases ej;obtain⟨s,ej,_,aj⟩:=DataW.trod_string Cx ad;obtain⟨z,bG,cM⟩:=nD ax 1 rfl;cases ej;cases bG;exact⟨⟨s,z⟩,rfl,aj,⟨ns cM⟩⟩
theorem ak4(h:DataW.trod enc Tryz.prog w 0 (λ_=>true) true n T.m cs=some y):∃x:o.Var,cs=x.enc/\jV x.name/\x.cr:=by
 obtain⟨aE,iO,ds,_,ax⟩:=wZ (t:=T.m) rfl Cx Cx h
 match cs,aE with
 | [bz,c1,c2,bw,bD,Aq],_ =>
  obtain⟨_,_,ej,ad,_⟩:=ax 0 _ rfl;cases ej;obtain⟨s,ej,_,aj⟩:=DataW.trod_string Cx ad;obtain⟨fT,bG,cM⟩:=nD ax 1 rfl;obtain⟨z2,aD,cW⟩:=nD ax 2 rfl;obtain⟨z3,aO,fr⟩:=nD ax 3 rfl;obtain⟨z4,bo,hN⟩:=nD ax 4 rfl;obtain⟨z5,bC,vL⟩:=nD ax 5 rfl;cases ej;cases bG;cases aD;cases aO;cases bo;cases bC;exact⟨⟨s,fT,z2,z3,z4,z5⟩,rfl,aj,⟨ns cM,ns cW,ns fr,ns hN,ns vL⟩⟩
theorem akS(h:DataW.trod enc Tryz.prog w 0 (λ_=>true) true n T.u cs=some y):∃x:ea,cs=x.enc/\jV x.name/\x.cr:=by
 obtain⟨aE,iO,ds,_,ax⟩:=wZ (t:=T.u) rfl Cx Cx h
 match cs,aE with
 | [bz,c1,c2,bw,bD,Aq],_ =>
  obtain⟨_,_,ej,ad,_⟩:=ax 0 _ rfl;obtain⟨_,_,bC,a7,_⟩:=ax 5 _ rfl;cases ej;cases bC;obtain⟨s,ej,_,aj⟩:=DataW.trod_string Cx ad;obtain⟨fT,bG,cM⟩:=nD ax 1 rfl;obtain⟨z2,aD,cW⟩:=nD ax 2 rfl;obtain⟨z3,aO,fr⟩:=nD ax 3 rfl;obtain⟨z4,bo,hN⟩:=nD ax 4 rfl;obtain⟨z5,bC,_⟩:=DataW.trod_bool Cx a7;cases ej;cases bG;cases aD;cases aO;cases bo;cases bC;exact⟨⟨s,fT,z2,z3,z4,z5⟩,rfl,aj,⟨ns cM,ns cW,ns fr,ns hN⟩⟩
def JT(h:DataW.trod enc Tryz.prog w 0 (λ_=>true) true n T.t [v]=some y):∃l,eW w v l/\(Small Tryz.prog T.t y.1->ev l.length 16/\∀x∈l,True) :=
 yC (G:=λ_=>True) (e:=T.e) 2 16 Cx Cx Cx (λa cs n y an aE aB=>by obtain⟨x,rfl,ah⟩:=aqk aB;exact⟨x,⟨an,ah⟩,λ_=>trivial⟩) h
def ak3(h:DataW.trod enc Tryz.prog w 0 (λ_=>true) true n T.rP [v]=some y):∃l,iz w v l/\(Small Tryz.prog T.rP y.1->ev l.length 24/\∀x∈l,x.cr) :=
 yC (e:=T.wA) 2 24 Cx Cx Cx (λa cs n y an aE aB=>by obtain⟨x,rfl,ah,aG⟩:=ak2 aB;exact⟨x,⟨an,ah⟩,λ_=>aG⟩) h
def ZV(h:DataW.trod enc Tryz.prog w 0 (λ_=>true) true n T.tB [v]=some y):∃l,h8 w v l/\(Small Tryz.prog T.tB y.1->ev l.length 56/\∀x∈l,x.cr) :=
 yC (e:=T.m) 6 56 Cx Cx Cx (λa cs n y an aE aB=>by obtain⟨x,rfl,ah,aG⟩:=ak4 aB;exact⟨x,⟨an,ah⟩,λ_=>aG⟩) h
def akT(h:DataW.trod enc Tryz.prog w 0 (λ_=>true) true n T.tC [v]=some y):∃l,nv w v l/\(Small Tryz.prog T.tC y.1->ev l.length 56/\∀x∈l,x.cr) :=
 yC (e:=T.u) 6 56 Cx Cx Cx (λa cs n y an aE aB=>by obtain⟨x,rfl,ah,aG⟩:=akS aB;exact⟨x,⟨an,ah⟩,λ_=>aG⟩) h
theorem akQ{a:Addr}(an:ff w a cs)(h:DataW.trod enc Tryz.prog w 0 (λ_=>true) true n T.y cs=some y):∃x:o.Act,z8 w a x/\(Small Tryz.prog T.y y.1->x.cr):=by
 obtain⟨aE,iO,ds,he,ax⟩:=wZ (t:=T.y) rfl Cx Cx h
 match cs,aE with
 | [bz,c1,c2,bw,bD],_ =>
  obtain⟨_,_,aO,ab,d3⟩:=ax 3 _ rfl;obtain⟨_,_,bo,aF,d4⟩:=ax 4 _ rfl;cases aO;cases bo;obtain⟨z0,ej,fj⟩:=nD ax 0 rfl;obtain⟨fT,bG,cM⟩:=nD ax 1 rfl;obtain⟨z2,aD,cW⟩:=nD ax 2 rfl;cases ej;cases bG;cases aD;obtain⟨dU,ab,g3⟩:=JT ab;obtain⟨eg,aF,g4⟩:=JT aF;exact⟨⟨z0,fT,z2,dU,eg⟩,⟨bw,bD,an,ab,aF⟩,λaj=>by
   rw[he] at aj;exact⟨ns fj,ns cM,ns cW,(g3 (aj.field rfl rfl rfl d3)).1,(g4 (aj.field rfl rfl rfl d4)).1⟩⟩
def akR(h:DataW.trod enc Tryz.prog w 0 (λ_=>true) true n T.u2 [v]=some y):∃l,lP w v l/\(Small Tryz.prog T.u2 y.1->ev l.length 72/\∀x∈l,x.cr) :=
 yC (e:=T.y) 5 72 Cx Cx Cx (λa cs n y an aE aB=>akQ an aB) h
theorem akU(h:DataW.trod enc Tryz.prog w 0 (λ_=>true) true n T.q cs=some y):∃x:dG,B9 w cs x/\(Small Tryz.prog T.q y.1->x.cr):=by
 obtain⟨aE,iO,ds,he,ax⟩:=wZ (t:=T.q) rfl Cx Cx h
 match cs,aE with
 | [bz,c1,c2,bw,bD,Aq],_ =>
  obtain⟨_,_,ej,ad,_⟩:=ax 0 _ rfl;obtain⟨_,_,aO,ab,d3⟩:=ax 3 _ rfl;obtain⟨_,_,bo,aF,d4⟩:=ax 4 _ rfl;obtain⟨_,_,bC,a7,_⟩:=ax 5 _ rfl;cases ej;cases aO;cases bo;cases bC;obtain⟨s,ej,_,aj⟩:=DataW.trod_string Cx ad;obtain⟨fT,bG,cM⟩:=nD ax 1 rfl;obtain⟨z2,aD,cW⟩:=nD ax 2 rfl;obtain⟨z5,bC,_⟩:=DataW.trod_bool Cx a7;cases ej;cases bG;cases aD;cases bC;obtain⟨dU,ab,g3⟩:=JT ab;obtain⟨eg,aF,g4⟩:=akR aF;exact⟨⟨s,fT,z2,dU,eg,z5⟩,⟨aj,bw,bD,rfl,ab,aF⟩,λaj=>by
   rw[he] at aj;exact⟨ns cM,ns cW,(g3 (aj.field rfl rfl rfl d3)).1,(g4 (aj.field rfl rfl rfl d4)).1,(g4 (aj.field rfl rfl rfl d4)).2⟩⟩
def akV(h:DataW.trod enc Tryz.prog w 0 (λ_=>true) true n T.X3 [v]=some y):∃l,su w v l/\(Small Tryz.prog T.X3 y.1->ev l.length 88/\∀x∈l,x.cr) :=
 yC (e:=T.q) 6 88 Cx Cx Cx (λa cs n y an aE aB=>by
  obtain⟨x,⟨ad,eY,va,rfl,h1,J⟩,aG⟩:=akU aB;exact⟨x,⟨ad,eY,va,an,h1,J⟩,aG⟩) h
theorem akZ(h:DataW.trod enc Tryz.prog w 0 (λ_=>true) true n T.l cs=some y):∃x:dv,yq w cs x/\(Small Tryz.prog T.l y.1->x.cr):=by
 obtain⟨aE,iO,ds,he,ax⟩:=wZ (t:=T.l) rfl Cx Cx h
 match cs,aE with
 | [bz,c1,c2,bw,bD],_ =>
  obtain⟨_,_,ej,ad,_⟩:=ax 0 _ rfl;obtain⟨_,_,aO,ab,d3⟩:=ax 3 _ rfl;obtain⟨_,_,bo,aF,d4⟩:=ax 4 _ rfl;cases ej;cases aO;cases bo;obtain⟨s,ej,_,aj⟩:=DataW.trod_string Cx ad;obtain⟨fT,bG,cM⟩:=nD ax 1 rfl;obtain⟨z2,aD,cW⟩:=nD ax 2 rfl;cases ej;cases bG;cases aD;obtain⟨dU,ab,g3⟩:=ZV ab;obtain⟨eg,aF,g4⟩:=akV aF;exact⟨⟨s,fT,z2,dU,eg⟩,⟨aj,bw,bD,rfl,ab,aF⟩,λaj=>by
   rw[he] at aj;exact⟨ns cM,ns cW,(g3 (aj.field rfl rfl rfl d3)).1,(g4 (aj.field rfl rfl rfl d4)).1,(g3 (aj.field rfl rfl rfl d3)).2,(g4 (aj.field rfl rfl rfl d4)).2⟩⟩
def ak0(h:DataW.trod enc Tryz.prog w 0 (λ_=>true) true n T.wD [v]=some y):∃l,rJ w v l/\(Small Tryz.prog T.wD y.1->ev l.length 80/\∀x∈l,x.cr) :=
 yC (e:=T.l) 5 80 Cx Cx Cx (λa cs n y an aE aB=>by
  obtain⟨x,⟨ad,eY,va,rfl,h1,J⟩,aG⟩:=akZ aB;exact⟨x,⟨ad,eY,va,an,h1,J⟩,aG⟩) h
def ak1(h:DataW.trod enc Tryz.prog w 0 (λ_=>true) true n T.am [v]=some y):∃l,Ck w v l/\(Small Tryz.prog T.am y.1->ev l.length 40/\∀x∈l,x.cr) :=
 yC (e:=T.X6) 2 40 Cx Cx Cx (λa cs n y an aE aB=>by
  obtain⟨aE,iO,ds,he,ax⟩:=wZ (t:=T.X6) rfl Cx Cx aB
  match cs,aE with
  | [bz,c1],_ =>
   obtain⟨_,_,ej,ad,_⟩:=ax 0 _ rfl;obtain⟨_,_,bG,h1,d1⟩:=ax 1 _ rfl;cases ej;cases bG;obtain⟨s,ej,_,aj⟩:=DataW.trod_string Cx ad;cases ej;obtain⟨dD,h1,g1⟩:=JT h1;exact⟨⟨s,dD⟩,⟨aj,c1,an,h1⟩,λaj=>by rw[he] at aj;exact⟨(g1 (aj.field rfl rfl rfl d1)).1⟩⟩) h
theorem aqO{r:Reach}{qP:Nat}{v:B_}{d:DataW H}{p:C_ MemPlace}(xv:Value.okWide Tryz.prog w r qP T.f v)(h:DataW.Trod enc Tryz.prog w 0 (λ_=>true) true T.f v d p)(aj:Small Tryz.prog T.f d) :
  ∃cs m,v = .agg cs.toArray/\dh w cs m/\m.cr:=by
 obtain⟨cs,n,rfl,aB⟩:=aqR (t:=T.f) rfl xv h;obtain⟨aE,iO,ds,rfl,ax⟩:=wZ (t:=T.f) rfl Cx Cx aB;obtain⟨cs⟩:=cs
 match cs,aE with
 | [bz,c1,c2,bw,bD],_ =>
  obtain⟨_,_,ej,ad,d0⟩:=ax 0 _ rfl;obtain⟨_,_,bG,h1,d1⟩:=ax 1 _ rfl;obtain⟨_,_,aD,J,d2⟩:=ax 2 _ rfl;obtain⟨_,_,aO,ab,d3⟩:=ax 3 _ rfl;obtain⟨_,_,bo,aF,d4⟩:=ax 4 _ rfl;cases ej;cases bG;cases aD;cases aO;cases bo;obtain⟨eB,dF,qP⟩:=ak3 ad;obtain⟨dD,cR,bx⟩:=ZV h1;obtain⟨dO,cA,bP⟩:=akT J;obtain⟨dU,eN,bV⟩:=ak0 ab;obtain⟨eg,fs,cQ⟩:=ak1 aF;have fj:=qP (aj.field rfl rfl rfl d0);have cM:=bx (aj.field rfl rfl rfl d1);have cW:=bP (aj.field rfl rfl rfl d2);have fr:=bV (aj.field rfl rfl rfl d3);have hN:=cQ (aj.field rfl rfl rfl d4);exact⟨[bz,c1,c2,bw,bD],⟨eB,dD,dO,dU,eg⟩,rfl,⟨⟨bz,c1,c2,bw,bD,rfl,dF,cR,cA,eN,fs⟩⟩,⟨fj.1,cM.1,cW.1,fr.1,hN.1,fj.2,cM.2,cW.2,fr.2,hN.2⟩⟩
end Go.Proofs.R
namespace Go.Proofs.R
open Go Go.RowKit ba Go.ChangeShapes
variable{H:Type}{enc:TypeId×Value->H}{w:World}{r:Reach}{qP:Nat}{v:Value}{d:DataW H}{p:List MemPlace}
def aoT{n:Nat}{y:DataW H×C_ MemPlace}(h:DataW.trod enc Tryz.prog w 0 (λ_=>true) true n T.b [v]=some y):∃l,py w v l/\(Small Tryz.prog T.b y.1->l.length<=140737488355328) :=
 ah7 (e:=T.a) 1 Cx Cx (by decide +kernel) (λa cs n y an aE aB=>by
  obtain⟨z,e,_,api⟩:=DataW.trod_int (k:=.i64) Cx aB;cases e;exact⟨z,an,ns api⟩) h
def open_ints(xv:Value.okWide Tryz.prog w r qP T.b v)(h:DataW.Trod enc Tryz.prog w 0 (λ_=>true) true T.b v d p):∃l,py w v l:=by
 obtain⟨n,aw⟩:=ahd (e:=T.a) Cx xv h;obtain⟨l,aE,_⟩:=aoT aw;exact⟨l,aE⟩
end Go.Proofs.R
namespace Go.Proofs.R
open Go Go.RowKit ba Go.ChangeShapes
variable{H:Type}{enc:TypeId×Value->H}{w:World}{r:Reach}{qP:Nat}{v:Value}{d:DataW H}{p:List MemPlace}
def aqP(xv:Value.okWide Tryz.prog w r qP T.b v)(h:DataW.Trod enc Tryz.prog w 0 (λ_=>true) true T.b v d p):∃l,bm 1 (Flat bX) w v l:=by
 obtain⟨l,aE⟩:=open_ints xv h;obtain⟨aN,cap,e,h1,J,ab,aF⟩:=aE.ex;exact⟨l,aN,cap,e,h1,J,ab,λa aY i U=>(aF a aY i U).1⟩
end Go.Proofs.R
namespace Go.Proofs.R
open Go Go.RowKit ba Go.ChangeShapes Go.WideShapes Go.Deep
def ayz{H:Type}{enc:F_×B_->H}{r:Reach}{qP:Nat}{d0 d1:DataW H}{eD dI:C_ MemPlace}(v0 v1:B_)(W:A_)(aS:gQ W)
  (fj:Value.okWide Tryz.prog W r qP T.f v0)(ad:DataW.Trod enc Tryz.prog W 0 (λ_=>true) true T.f v0 d0 eD)(kH:Small Tryz.prog T.f d0)
  (cM:Value.okWide Tryz.prog W r qP T.b v1)(h1:DataW.Trod enc Tryz.prog W 0 (λ_=>true) true T.b v1 d1 dI)(_s1:Small Tryz.prog T.b d1) :
  Ei F.Hm #[v0,v1] W λv w'=>v = .bool true/\Ext W w':=by
 obtain⟨cs,m,rfl,hm,aG⟩:=aqO fj ad kH;obtain⟨s,aj⟩:=aqP cM h1;exact apo cs v1 m s W hm aG aS aj
end Go.Proofs.R
namespace ba
open Go Go.RowKit Go.ChangeShapes
def axL{P:D_}{f:E_}{fn:Func}{s:ChangeSpec}{c:OpenClaim}(h1:(c.wf (OpenSpec.ofChange s)&&laidOutB P&&mapsRowed P)=true)
  (J:(fn.params.all (P.readableRec ·)&&namedTie P c.named s.vars)=true)(ab:((c.stops == [])&&(P.stops == [])&&(c.knobs == [])&&(P.stopKnobs == []))=true)
  (aF:(c.inPlace == P.inPlace f)=true)(a7:(c.unfollowed == P.unfollowed f)=true)(bJ:(c.recurses == P.recurses f)=true)(ct:(c.named == P.varsNamed f)=true)
  (dr:((c.maps == (fn.params.toList++s.plain.varTypes P).any (P.mapsRec ·))&&(c.ifaces == (fn.params.toList++s.plain.varTypes P).any (P.ifacesRec ·))&&(c.mapsOut == P.mapsAmong fn.resultTypes.toList))=true)
  (iA:((c.loops == (fn.params.toList++s.plain.varTypes P).any (P.loopsFrom ·))&&(c.wideKeys == (fn.params.toList++s.plain.varTypes P++fn.resultTypes.toList).any (P.wideKeysFrom ·)))=true)
  (la:(s.vars.all (P.varReadable ·)&&fn.resultTypes.all (λt=>P.readableRec t&&decide (t<P.types.size))&&(c.ifacesOut == fn.resultTypes.toList.any (P.ifacesRec ·))&&(c.loopsOut == fn.resultTypes.toList.any (P.loopsFrom ·)))=true)
  (C1:(c.plainKeys == P.plainKeys)=true)(sN:(c.shortTexts.isNone&&P.stopsHeard)=true)(AJ:P.mayEnter=true)
  (C2:((c.lifted == P.liftsFinal)&&(P.make == some c.make))=true)
  (oh:((c.kinds == (if c.domain.isEmpty then [] else fn.params.toList.map λt=>match P.underlying t with | some (.int k)=>some k | _=>none))&&(c.pinned == c.pinnedBy))=true)
  (oZ:((c.veiled == (fn.params.toList++s.plain.varTypes P++fn.resultTypes.toList).any (P.veiledRec ·))&&c.veiledFits P fn.params.toList (fn.params.toList++s.plain.varTypes P++fn.resultTypes.toList))=true) :
  joinedFacts P f fn s c=true:=by
 simp only[Bool.and_eq_true] at h1 J ab dr iA la sN C2 oh oZ;unfold joinedFacts;simp only[Bool.and_eq_true];obtain⟨⟨db,a2⟩,a3⟩:=h1;obtain⟨bx,bP⟩:=J;obtain⟨⟨⟨d1,d2⟩,d3⟩,d4⟩:=ab;obtain⟨⟨bG,aD⟩,aO⟩:=dr;obtain⟨f1,f2⟩:=iA;obtain⟨⟨⟨g1,g2⟩,g3⟩,g4⟩:=la;obtain⟨i1,i2⟩:=sN;obtain⟨kh,h2⟩:=C2;obtain⟨cM,cW⟩:=oh;obtain⟨dD,dO⟩:=oZ;exact⟨⟨⟨⟨⟨⟨⟨⟨⟨⟨⟨⟨⟨⟨⟨⟨⟨⟨⟨⟨⟨⟨⟨⟨⟨⟨⟨⟨⟨⟨⟨db,a2⟩,a3⟩,bx⟩,bP⟩,d1⟩,d2⟩,d3⟩,d4⟩,aF⟩,a7⟩,bJ⟩,ct⟩,bG⟩,aD⟩,aO⟩,f1⟩,f2⟩,g1⟩,g2⟩,g3⟩,g4⟩,C1⟩,i1⟩,i2⟩,AJ⟩,kh⟩,h2⟩,cM⟩,cW⟩,dD⟩,dO⟩
end ba