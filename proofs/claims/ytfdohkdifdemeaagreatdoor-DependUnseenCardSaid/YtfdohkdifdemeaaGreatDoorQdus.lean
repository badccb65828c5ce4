/- Parts. -/
import Derived.Test.YtfdohkdifdemeaaGreatDoorQdur
import Derived.SizedLaws
import Derived.JoinedCond
set_option linter.all false
set_option maxRecDepth 8000
set_option maxHeartbeats 64000000
section
namespace Go.Proofs.R
open Go Go.RowKit bt
theorem ahq(cs:List Value)(v1:Value)(m:o.Model)(s:List Int)(a:Nat)(w:World)(h:o.ec w cs m)(aZ:m.cQ)(bc:hv w)(ay:eT w v1 s)(bo:a<256) :
  bu Tryz.prog F.EM #[.agg cs.toArray,v1,.int .u8 a] w fun u w'=>u = .bool true/\Ext w w':=by
 have bq:=h;have dP:=h;obtain⟨cz,bS,b9,c1,cn,c2,cp,bP,cA,bX,rfl,ak,h1,U,ag,aJ,eI,ej,eo,dX,ep⟩:=h.form;obtain⟨os,Cg,rfl,Ig⟩:=ay.form;have l7:∀{W},Ext w W->bu Tryz.prog F.uR #[] W fun v w'=>v = .bool true/\Ext W w':=fun e=>aag _ (bc.ext e);refine bL E.EM ?_;refine bG ?_;refine ae ?_;intro av bC cR aB ao;refine ae ?_;refine K.call (ahH _ m av (bq.ext aB)) ?_;rintro _ aU ⟨⟨t,rfl,_⟩,aA⟩;replace ao:=aA.obj ao;have a6:=aB.trans aA;cases t with
 | false =>
  refine ae ?_;refine K.call (l7 a6) ?_;rintro _ bb ⟨rfl,ax⟩;refine ae ?_;exact⟨bk,a6.trans ax⟩
 | true =>
  refine ae ?_;apply K.cond<;>intro g1
  .refine ae ?_;refine K.call (l7 a6) ?_;rintro _ bb ⟨rfl,ax⟩;refine ae ?_;exact⟨bk,a6.trans ax⟩
  refine ae ?_;refine K.call (ajC _ m _ s aU (bq.ext a6) aZ (ay.ext Flat.ext a6)) ?_;rintro _ bb ⟨⟨tb,rfl,agj⟩,ax⟩;replace ao:=ax.obj ao;have bK:=a6.trans ax;cases tb with
  | false =>
   refine ae ?_;refine K.call (l7 bK) ?_;rintro _ bp ⟨rfl,aN⟩;refine ae ?_;exact⟨bk,bK.trans aN⟩
  | true =>
   have dr:=agj.1 rfl;have kc:=o.lZ dr.1;have kk:=o.wQ kc.lim;refine ae ?_;refine K.call (XB _ m bb (bq.ext bK) aZ kc.lim) ?_;rintro j0 bp ⟨jk,aN⟩;obtain⟨iI,pM,rfl,_⟩:=jk.form;replace ao:=aN.obj ao;have b0:=bK.trans aN;have KV:bF 2 (Flat o.Ref.enc) bp _ _:=bs.iW (enc:=o.Ref.enc) (fun _=>rfl) jk;clear jk;refine ae ?_;apply K.cond<;>intro g2
   .refine ae ?_;refine K.call (l7 b0) ?_;rintro _ bR ⟨rfl,aW⟩;refine ae ?_;exact⟨bk,b0.trans aW⟩
   have aD:0<(o.refs m).length:=by omega
   refine ae ?_;refine K.aj6 a (o.refs m).length rfl rfl (by omega) ?_;have ba:a % (o.refs m).length<(o.refs m).length:=Nat.mod_lt _ aD;generalize a % (o.refs m).length=r at ba;refine ae ?_;refine K.call (Sq _ m r bp (bq.ext b0) aZ (bc.ext b0)) ?_;rintro _ cd ⟨⟨cJ,rfl,cg⟩,bJ⟩;replace ao:=bJ.obj ao;have dw:=b0.trans bJ;cases cJ with
   | true =>
    refine ae ?_;refine K.call (l7 dw) ?_;rintro _ dg ⟨rfl,bV⟩;refine ae ?_;exact⟨bk,dw.trans bV⟩
   | false =>
   have sK:=KV.ext Flat.ext bJ;clear KV;obtain⟨q,p,k,cf⟩:=o.tM (m:=m) (ref:=(r:Int)) ⟨dr.1,by omega,by omega⟩;have jB:(o.refs m)[r].inst=(q:Int):=cf.at_.u0;have oy:(o.refs m)[r].cmd=(k:Int):=cf.at_.wR;obtain⟨lg,rfl⟩:=sK.addr (by omega);have aG:=cf.at_.ad;have aO:=cf.at_.aO;have nM:=cf.at_.hk;have ov:=cf.at_.ip;obtain⟨a3,rfl⟩:=ag.addr (by omega);obtain⟨mr,cE,dT,dL,eR,gn⟩:=ag.at p aO;obtain⟨Ip,Gq,rfl,Ib⟩:=gn.form;obtain⟨ac,rfl⟩:=gn.addr (by omega);obtain⟨fG,fB,ee,gu,kz,iE⟩:=gn.at k nM;obtain⟨hM,gF,rfl,_⟩:=kz.form;obtain⟨wM,vD,rfl,_⟩:=iE.form;have pV:=o.xG aO nM;rw[<-pV] at gu;unfold o.dz.enc at dL;unfold o.dI.enc at gu;have L5:=dL.ext dw;have Lg:=gu.ext dw;refine ef ?_;refine K.gU [1,3,8] (fun ek:Nat=>[(9,.pointer (some ⟨ek,0,none⟩))]) (fun ek W=>(∃hM gF bl gO,W.heap[ek]? = some (.cells #[.string (o.cL m p k).name,.int .i64 (o.cL m p k).from_,.int .i64 (o.cL m p k).to,.slice hM (o.cL m p k).guard.length gF,.slice bl (o.cL m p k).cb.length gO,.bool (o.cL m p k).fair] T.h))/\Ext cd W) ?_ ?_
   .have qN:∀{W},Ext cd W->bu Tryz.prog F.q2 #[.agg #[.slice cz m.scalars.length bS,.slice b9 m.vars.length c1,.slice cn m.aM.length c2,.slice (some a3) m.procs.length bP,.slice cA m.props.length bX]] W fun v w'=>(∃jc ci,v = .slice (some jc) (o.insts m).length ci/\kK w' v (o.insts m))/\Ext W w':=fun {W} he=>(Bc _ m W (dP.ext (dw.trans he)) aZ).mono fun v w' ⟨aT,gP⟩=>by
     have bB:kK w' v (o.insts m):=bs.iW (enc:=o.c8.enc) (fun _=>rfl) aT;obtain⟨cU,ci,rfl,_⟩:=bB.form;obtain⟨jc,rfl⟩:=bB.addr (by omega);exact⟨⟨jc,ci,rfl,bB⟩,gP⟩
    refine ae ?_;intro dg bV;replace ao:=bV.obj ao;have anG:=sK.ext Flat.ext bV;have dW:=dw.trans bV;refine ae ?_;refine⟨?_,?_⟩
    .refine K.call (qN bV) ?_;rintro _ ea ⟨⟨jc,ci,rfl,bB⟩,b1⟩;have xN:=bV.trans b1;have iz:=dw.trans xN;refine⟨b1,?_⟩;refine ae ?_;refine K.dp q (by rw[jB]) aG ?_;have U9:=L5.ext xN;have Li:=Lg.ext xN;refine ae ?_;refine⟨?_,?_⟩
     .refine ae ?_;refine⟨b1,?_⟩;refine ae ?_;refine K.dp p (by rw[ov]) aO ?_;refine ae ?_;refine⟨?_,?_⟩
      .refine ae ?_;refine⟨b1,?_⟩;refine ae ?_;refine K.dp k (by rw[oy]) nM ?_;refine ae ?_;refine⟨?_,?_⟩
       .refine ae ?_;refine⟨b1,?_⟩;refine ae ?_;intro e3 ek e6 cv hJ;refine⟨b1.trans cv,?_⟩;refine K.h6 hJ rfl rfl vI fun gg gZ mj=>?_;have sC:=gZ.ext cv e6;refine ae ?_;exact⟨ek,⟨bk,trivial⟩,⟨_,_,_,_,mj⟩,xN.trans sC⟩
       .refine K.new ?_;intro e3 ek e6 cv hJ;refine⟨b1.trans cv,?_⟩;have Le:=Li.ext cv;refine ae ?_;refine⟨b1.trans cv,?_⟩;refine K.h6 hJ rfl rfl vI fun nn hK gV=>?_;have xL:=hK.ext cv e6;refine ae ?_;exact⟨ek,⟨bk,trivial⟩,⟨_,_,_,_,gV⟩,xN.trans xL⟩
      .refine K.new ?_;intro e3 ek e6 cv hJ;refine⟨b1.trans cv,?_⟩;have U6:=U9.ext cv;have Le:=Li.ext cv;refine ae ?_;refine⟨b1.trans cv,?_⟩;refine ae ?_;refine K.dp k (by rw[oy]) nM ?_;refine ae ?_;refine⟨b1.trans cv,?_⟩;refine K.h6 hJ rfl rfl vI fun nn hK gV=>?_;have xL:=hK.ext cv e6;refine ae ?_;exact⟨ek,⟨bk,trivial⟩,⟨_,_,_,_,gV⟩,xN.trans xL⟩
     .refine K.new ?_;intro e3 ek e6 cv hJ;refine⟨b1.trans cv,?_⟩;have U6:=U9.ext cv;have Le:=Li.ext cv;have anE:=bB.ext Flat.ext cv;refine ae ?_;refine⟨b1.trans cv,?_⟩;refine ae ?_;refine K.dp p (by rw[ov]) aO ?_;refine ae ?_;refine⟨b1.trans cv,?_⟩;refine ae ?_;refine K.dp k (by rw[oy]) nM ?_;refine ae ?_;refine⟨b1.trans cv,?_⟩;refine K.h6 hJ rfl rfl vI fun nn hK gV=>?_;have xL:=hK.ext cv e6;refine ae ?_;exact⟨ek,⟨bk,trivial⟩,⟨_,_,_,_,gV⟩,xN.trans xL⟩
    .refine K.new ?_;intro ea ek e6 b1 hJ;refine⟨b1,?_⟩;refine ae ?_;refine K.call (qN (bV.trans b1)) ?_;rintro _ e3 ⟨⟨jc,ci,rfl,bB⟩,cv⟩;have Sz:=(bV.trans b1).trans cv;refine⟨b1.trans cv,?_⟩;refine ae ?_;refine K.dp q (by rw[jB]) aG ?_;have U6:=L5.ext Sz;have Le:=Lg.ext Sz;refine ae ?_;refine⟨b1.trans cv,?_⟩;refine ae ?_;refine K.dp p (by rw[ov]) aO ?_;refine ae ?_;refine⟨b1.trans cv,?_⟩;refine ae ?_;refine K.dp k (by rw[oy]) nM ?_;refine ae ?_;refine⟨b1.trans cv,?_⟩;refine K.h6 (cv.obj hJ) rfl rfl vI fun nn hK gV=>?_;have xL:=hK.ext (b1.trans cv) e6;refine ae ?_;exact⟨ek,⟨bk,trivial⟩,⟨_,_,_,_,gV⟩,bV.trans xL⟩
   rintro hi S dg ⟨⟨apm,ank,jH,ane,dJ⟩,bV⟩;replace ao:=bV.obj ao;have dW:=dw.trans bV;clear dL gu L5 Lg sK;obtain⟨NC,E1,G2⟩:=o.NG m (r:Int);have aoh:=o.aio cf cg ⟨NC,E1,G2⟩;refine ae ?_;refine K.call (Xr _ m _ s dg (bq.ext dW) aZ (ay.ext Flat.ext dW)) ?_;rintro _ ea ⟨rfl,b1⟩;replace ao:=b1.obj ao;replace dJ:=b1.obj dJ;have iz:=dW.trans b1;refine ae ?_;refine K.dj 12 2 [1,3,8,9,10,11] (fun _:Unit=>[]) () (fun _ _ W=>Ext ea W) bx bx (Ext.refl _) ?_;rintro j _ kt e3 aR cv;have jv:=iz.trans cv;have TV:=cv.obj ao;have an3:=cv.obj dJ;refine ae ?_;apply K.cond<;>intro g3;rotate_left
   .refine ae ?_;refine K.call (l7 jv) ?_;rintro _ gg ⟨rfl,fH⟩;refine ae ?_;exact⟨bk,jv.trans fH⟩
   have pc:j<2:=by omega
   refine ae ?_;refine K.call (ajA _ _ m s r j e3 (bq.ext jv) aZ (ay.ext Flat.ext jv)) ?_;rintro _ gg ⟨⟨nW,alU,zS,rfl,wk,bw⟩,fH⟩;obtain⟨aps,anq,rfl,_⟩:=wk.form;replace TV:=fH.obj TV;have sC:=jv.trans fH;refine ae ?_;apply K.cond<;>intro g4;rotate_left
   .refine ae ?_;exact⟨pc,bk,(),trivial,cv.trans fH⟩
   subst g4;obtain⟨dH,dM⟩:=o.al5 cg G2 bw;refine ae ?_;refine K.call (Xr _ m _ alU gg (bq.ext sC) aZ wk) ?_;rintro _ lI ⟨rfl,fx⟩;rw[<-dH] at dM ⊢;rw[dM];refine ae ?_;exact⟨pc,bk,(),trivial,(cv.trans fH).trans fx⟩
end Go.Proofs.R
end
section
namespace bt
open Go Go.RowKit Go.ChangeShapes Go.WideShapes Go.Deep
section
variable{H:Type}{enc:TypeId×Value->H}{P:Program}{w:World}{base:Nat}{spare:Nat->Bool}{held:Bool}
theorem tX{t:TypeId}{fT:Array Field}{n:Nat}{cs:List Value}{y:DataW H×List MemPlace}(aL:P.underlying t=some (.struct fT))(uw:oneCellFields P fT=true)(cf:P.cellsOf t=fT.size)
  (h:DataW.trod enc P w base spare held n t cs=some y):cs.length=fT.size/\∃jG ds,y.1 = .agg ds/\∀(j:Nat) (f:Field),fT[j]? = some f->∃v z,cs[j]? = some v/\DataW.trod enc P w base spare held jG f.type [v]=some z/\ds[j]? = some z.1:=by
 obtain⟨ys,jG,HG,b8,hlen,aoE,aK⟩:=DataW.trod_struct aL h;refine⟨by omega,jG,_,by rw[b8],fun j f aR=>?_⟩;obtain⟨bc,hk⟩:=hone_of uw j f aR;have p0:j<fT.size:=(Array.getElem?_eq_some_iff.1 aR).1;have aT:cs[j]? = some (cs[j]'(by omega)):=List.getElem?_eq_getElem (by omega);have h1:=aK j f aR;rw[bc,hk] at h1;have afD:(cs.drop j).take 1=[cs[j]'(by omega)]:=by
  rw[List.drop_eq_getElem_cons (by omega)];rfl
 rw[afD,List.getElem?_eq_getElem (l:=ys) (by omega)] at h1;exact⟨_,_,aT,h1,by rw[List.getElem?_map,List.getElem?_eq_getElem (by omega)];rfl⟩
def Small(P:Program)(t:TypeId)(d:DataW H):Prop := ∀q∈d.weights P t,q<=reachBytes
theorem Small.field{t u:TypeId}{fT:Array Field}{ds:List (DataW H)}{j:Nat}{d:DataW H}{f:Field}(h:Small P t (.agg ds))(aL:P.underlying t=some (.struct fT))(aK:fT[j]? = some f)(hu:f.type=u)(bw:ds[j]? = some d):Small P u d:=by
 subst hu;intro q aG;refine h q ?_;simp only[DataW.weights,aL];exact DataW.weights_mem_each (j:=j) (by simp[aK]) bw q aG
theorem aaX{α:Type}{R:World->Addr->α->Prop}{t e:TypeId}{v:Value}{n:Nat}{z:DataW H×List MemPlace}(sz:Nat)(aL:P.underlying t=some (.slice e))(cf:P.cellsOf e=sz)(jh:0<P.bytesOf e)
  (dr:∀(a:Addr) (cs:List Value) (n:Nat) (y:DataW H×List MemPlace),fg w a cs->cs.length=sz->DataW.trod enc P w 0 (fun _=>true) true n e cs=some y->∃x,R w a x)
  (h:DataW.trod enc P w 0 (fun _=>true) true n t [v]=some z):∃xs,bF sz R w v xs/\(Small P t z.1->xs.length<=140737488355328):=by
 rcases open_slice aL h with ⟨gy,_⟩ | ⟨a,len,cap,m,n,D,Zx,gy,aC,aS,hm,DA,au,ad⟩
 .simp at gy;subst gy;exact⟨[],bF.nil,fun _=>by simp⟩
 .simp at gy;subst gy;simp only[if_true] at DA;subst DA;obtain⟨xs,uC,qY⟩:=MS len (fun i x=>R w (a.add (i*sz)) x) fun i cO=>by
   obtain⟨iy,aw,wv⟩:=ad i (by omega);rw[cf] at aw;obtain⟨_,eM,kd⟩:=World.cells?_some aw;refine dr _ iy n _ (fun j u aR=>?_) eM wv;have LR:j<sz:=eM ▸ (List.getElem?_eq_some_iff.1 aR).1;rw[<-aR];exact kd j LR
  refine⟨xs,⟨some a,_,by rw[uC],by omega,hm,fun _=>rfl,fun di bo=>by injection bo with bo;subst bo;exact qY⟩,fun ay=>?_⟩;have h1:=ay ((len+(m - len))*P.bytesOf e) (by rw[au];simp[DataW.weights,aL]);have U:=reachBytes_lt;have ag:len<=(len+(m - len))*P.bytesOf e:=Nat.le_trans (Nat.le_add_right len _) (Nat.le_mul_of_pos_right _ jh);rw[uC];omega
theorem Z6{r:Reach}{jO:Nat}{t e:TypeId}{v:Value}{d:DataW H}{p:List MemPlace}(aL:P.underlying t=some (.slice e))(rS:Value.okWide P w r jO t v)(h:DataW.Trod enc P w 0 (fun _=>true) true t v d p) :
  ∃n,DataW.trod enc P w 0 (fun _=>true) true n t [v]=some (d,p):=by
 obtain⟨a0,apc,anf,rfl⟩:=okWide_slice aL rS;obtain⟨n,aD⟩:=h;exact⟨n,aD⟩
end
end bt
namespace Go.Proofs.R
open Go Go.RowKit bt Go.ChangeShapes
variable{H:Type}{enc:TypeId×Value->H}{w:World}{cs:List Value}{n:Nat}{y:DataW H×List MemPlace}{v:Value}
theorem lJ{z:Int}(h:(Lit.int .i64 z).wf=true):o.ez z:=by
 simp only[Lit.wf,Bool.and_eq_true,decide_eq_true_eq] at h;exact⟨h.1,h.2⟩
theorem aik(h:DataW.trod enc Tryz.prog w 0 (fun _=>true) true n T.f cs=some y):∃x:o.Node,cs=x.enc/\x.ok:=by
 obtain⟨aS,jG,ds,_,aK⟩:=tX (t:=T.f) rfl (by kernel_rfl) (by kernel_rfl) h
 match cs,aS with
 | [bS,c1],_ =>
  obtain⟨_,_,dS,ak,_⟩:=aK 0 _ rfl;obtain⟨_,_,bU,h1,_⟩:=aK 1 _ rfl;cases dS;cases bU;obtain⟨z0,dS,_,gk⟩:=DataW.trod_int (k:=.i64) (by kernel_rfl) ak;obtain⟨gh,bU,_,dc⟩:=DataW.trod_int (k:=.i64) (by kernel_rfl) h1;cases dS;cases bU;exact⟨⟨z0,gh⟩,rfl,lJ gk,lJ dc⟩
end Go.Proofs.R
end
section
namespace Go.Proofs.R
open Go Go.RowKit bt Go.ChangeShapes
variable{H:Type}{enc:TypeId×Value->H}{w:World}{r:Reach}{jO:Nat}{v:Value}{d:DataW H}{p:List MemPlace}
theorem agS{n:Nat}{y:DataW H×List MemPlace}(h:DataW.trod enc Tryz.prog w 0 (fun _=>true) true n T.c [v]=some y):∃l,px w v l/\(Small Tryz.prog T.c y.1->l.length<=140737488355328) :=
 aaX (e:=T.a) 1 (by kernel_rfl) (by kernel_rfl) (by decide +kernel) (fun a cs n y aw aS aL=>by
  obtain⟨z,e,_,ahi⟩:=DataW.trod_int (k:=.i64) (by kernel_rfl) aL;cases e;exact⟨z,aw,lJ ahi⟩) h
theorem open_ints(rS:Value.okWide Tryz.prog w r jO T.c v)(h:DataW.Trod enc Tryz.prog w 0 (fun _=>true) true T.c v d p):∃l,px w v l:=by
 obtain⟨n,aD⟩:=Z6 (e:=T.a) (by kernel_rfl) rS h;obtain⟨l,aS,_⟩:=agS aD;exact⟨l,aS⟩
end Go.Proofs.R
end
section
namespace Go.Proofs.R
open Go Go.RowKit bt Go.ChangeShapes
variable{H:Type}{enc:TypeId×Value->H}{w:World}{r:Reach}{jO:Nat}{v:Value}{d:DataW H}{p:List MemPlace}
theorem aiE(rS:Value.okWide Tryz.prog w r jO T.c v)(h:DataW.Trod enc Tryz.prog w 0 (fun _=>true) true T.c v d p):∃l,bF 1 (Flat eB) w v l:=by
 obtain⟨l,aS⟩:=open_ints rS h;obtain⟨bl,cap,e,h1,U,ag,aJ⟩:=aS.ex;exact⟨l,bl,cap,e,h1,U,ag,fun a bo i ad=>(aJ a bo i ad).1⟩
end Go.Proofs.R
end
section
namespace bt
open Go Go.RowKit Go.ChangeShapes Go.WideShapes Go.Deep
section
variable{H:Type}{enc:TypeId×Value->H}{P:Program}{w:World}{base:Nat}{spare:Nat->Bool}{held:Bool}
theorem YV{e:TypeId}:∀{ds:List (DataW H)} {d:DataW H},d∈ds->∀n∈d.weights P e,n∈DataW.weightsAll P e ds
 | [],_,h=>by cases h
 | x :: r,d,h=>fun n aD=>by
  simp only[DataW.weightsAll];rcases List.mem_cons.1 h with rfl | h
  .exact List.mem_append_left _ aD
  .exact List.mem_append_right _ (YV h n aD)
theorem vE{α:Type}{R:World->Addr->α->Prop}{G:α->Prop}{t e:TypeId}{v:Value}{n:Nat}{z:DataW H×List MemPlace}(sz B:Nat)(aL:P.underlying t=some (.slice e))(cf:P.cellsOf e=sz)(jh:P.bytesOf e=B)
  (dr:∀(a:Addr) (cs:List Value) (n:Nat) (y:DataW H×List MemPlace),fg w a cs->cs.length=sz->DataW.trod enc P w 0 (fun _=>true) true n e cs=some y->∃x,R w a x/\(Small P e y.1->G x))
  (h:DataW.trod enc P w 0 (fun _=>true) true n t [v]=some z):∃xs,bF sz R w v xs/\(Small P t z.1->o.dN xs.length B/\∀x∈xs,G x):=by
 rcases open_slice aL h with ⟨gy,_⟩ | ⟨a,len,cap,m,n,D,Zx,gy,aC,aS,hm,DA,au,ad⟩
 .simp at gy;subst gy;exact⟨[],bF.nil,fun _=>⟨by simp[o.dN],fun x au=>by cases au⟩⟩
 .simp at gy;subst gy;simp only[if_true] at DA;subst DA;obtain⟨xs,uC,qY⟩:=MS len (fun i x=>R w (a.add (i*sz)) x/\(Small P e (D i)->G x)) fun i cO=>by
   obtain⟨iy,aw,wv⟩:=ad i (by omega);rw[cf] at aw;obtain⟨_,eM,kd⟩:=World.cells?_some aw;refine dr _ iy n _ (fun j u aR=>?_) eM wv;have LR:j<sz:=eM ▸ (List.getElem?_eq_some_iff.1 aR).1;rw[<-aR];exact kd j LR
  refine⟨xs,⟨some a,_,by rw[uC],by omega,hm,fun _=>rfl,fun di bo i ad=>by injection bo with bo;subst bo;exact(qY i ad).1⟩,fun ay=>⟨?_,fun x s3=>?_⟩⟩
  .have h1:=ay ((len+(m - len))*P.bytesOf e) (by rw[au];simp[DataW.weights,aL]);have U:len*B<=(len+(m - len))*P.bytesOf e:=by rw[jh];exact Nat.mul_le_mul_right _ (by omega)
   have ag:reachBytes=140737488351232:=rfl;unfold o.dN;rw[uC];omega
  .obtain⟨i,cO,rfl⟩:=List.mem_iff_getElem.1 s3;refine(qY i cO).2 fun q aG=>ay q ?_;rw[au];simp only[DataW.weights,aL];refine List.mem_cons_of_mem _ (List.mem_append_left _ (YV ?_ q aG));exact List.mem_map.2 ⟨i,by simp;omega,rfl⟩
theorem aiG{r:Reach}{jO:Nat}{t:TypeId}{fT:Array Field}{v:Value}{d:DataW H}{p:List MemPlace}(aL:P.underlying t=some (.struct fT))
  (rS:Value.okWide P w r jO t v)(h:DataW.Trod enc P w base spare held t v d p):∃cs n,v = .agg cs/\DataW.trod enc P w base spare held n t cs.toList=some (d,p):=by
 obtain⟨cs,rfl,dn⟩:=okWide_struct aL rS;obtain⟨fuel,aK⟩:=h;exact⟨cs,fuel,rfl,aK⟩
end
end bt
namespace Go.Proofs.R
open Go Go.RowKit bt Go.ChangeShapes
variable{H:Type}{enc:TypeId×Value->H}{w:World}{cs:List Value}{n:Nat}{y:DataW H×List MemPlace}{v:Value}
theorem adt(h:DataW.trod enc Tryz.prog w 0 (fun _=>true) true n T.xr cs=some y):∃x:o.Scalar,cs=x.enc/\o.hR x.name/\x.cQ:=by
 obtain⟨aS,jG,ds,_,aK⟩:=tX (t:=T.xr) rfl (by kernel_rfl) (by kernel_rfl) h
 match cs,aS with
 | [bS,c1],_ =>
  obtain⟨_,_,dS,ak,_⟩:=aK 0 _ rfl;obtain⟨_,_,bU,h1,_⟩:=aK 1 _ rfl;cases dS;cases bU;obtain⟨s,dS,_,ay⟩:=DataW.trod_string (by kernel_rfl) ak;obtain⟨z,bU,_,dc⟩:=DataW.trod_int (k:=.i64) (by kernel_rfl) h1;cases dS;cases bU;exact⟨⟨s,z⟩,rfl,ay,⟨lJ dc⟩⟩
theorem adw(h:DataW.trod enc Tryz.prog w 0 (fun _=>true) true n T.j cs=some y):∃x:o.Var,cs=x.enc/\o.hR x.name/\x.cQ:=by
 obtain⟨aS,jG,ds,_,aK⟩:=tX (t:=T.j) rfl (by kernel_rfl) (by kernel_rfl) h
 match cs,aS with
 | [bS,c1,c2,bP,bX,xC],_ =>
  obtain⟨_,_,dS,ak,_⟩:=aK 0 _ rfl;obtain⟨_,_,bU,h1,_⟩:=aK 1 _ rfl;obtain⟨_,_,a6,U,_⟩:=aK 2 _ rfl;obtain⟨_,_,bK,ag,_⟩:=aK 3 _ rfl;obtain⟨_,_,b0,aJ,_⟩:=aK 4 _ rfl;obtain⟨_,_,b3,bg,_⟩:=aK 5 _ rfl;cases dS;cases bU;cases a6;cases bK;cases b0;cases b3;obtain⟨s,dS,_,ay⟩:=DataW.trod_string (by kernel_rfl) ak;obtain⟨gh,bU,_,dc⟩:=DataW.trod_int (k:=.i64) (by kernel_rfl) h1;obtain⟨z2,a6,_,dd⟩:=DataW.trod_int (k:=.i64) (by kernel_rfl) U;obtain⟨z3,bK,_,gv⟩:=DataW.trod_int (k:=.i64) (by kernel_rfl) ag;obtain⟨z4,b0,_,iH⟩:=DataW.trod_int (k:=.i64) (by kernel_rfl) aJ;obtain⟨z5,b3,_,uG⟩:=DataW.trod_int (k:=.i64) (by kernel_rfl) bg;cases dS;cases bU;cases a6;cases bK;cases b0;cases b3;exact⟨⟨s,gh,z2,z3,z4,z5⟩,rfl,ay,⟨lJ dc,lJ dd,lJ gv,lJ iH,lJ uG⟩⟩
theorem adj(h:DataW.trod enc Tryz.prog w 0 (fun _=>true) true n T.r cs=some y):∃x:o.dv,cs=x.enc/\o.hR x.name/\x.cQ:=by
 obtain⟨aS,jG,ds,_,aK⟩:=tX (t:=T.r) rfl (by kernel_rfl) (by kernel_rfl) h
 match cs,aS with
 | [bS,c1,c2,bP,bX,xC],_ =>
  obtain⟨_,_,dS,ak,_⟩:=aK 0 _ rfl;obtain⟨_,_,bU,h1,_⟩:=aK 1 _ rfl;obtain⟨_,_,a6,U,_⟩:=aK 2 _ rfl;obtain⟨_,_,bK,ag,_⟩:=aK 3 _ rfl;obtain⟨_,_,b0,aJ,_⟩:=aK 4 _ rfl;obtain⟨_,_,b3,bg,_⟩:=aK 5 _ rfl;cases dS;cases bU;cases a6;cases bK;cases b0;cases b3;obtain⟨s,dS,_,ay⟩:=DataW.trod_string (by kernel_rfl) ak;obtain⟨gh,bU,_,dc⟩:=DataW.trod_int (k:=.i64) (by kernel_rfl) h1;obtain⟨z2,a6,_,dd⟩:=DataW.trod_int (k:=.i64) (by kernel_rfl) U;obtain⟨z3,bK,_,gv⟩:=DataW.trod_int (k:=.i64) (by kernel_rfl) ag;obtain⟨z4,b0,_,iH⟩:=DataW.trod_int (k:=.i64) (by kernel_rfl) aJ;obtain⟨z5,b3,_⟩:=DataW.trod_bool (by kernel_rfl) bg;cases dS;cases bU;cases a6;cases bK;cases b0;cases b3;exact⟨⟨s,gh,z2,z3,z4,z5⟩,rfl,ay,⟨lJ dc,lJ dd,lJ gv,lJ iH⟩⟩
theorem GS(h:DataW.trod enc Tryz.prog w 0 (fun _=>true) true n T.kM [v]=some y):∃l,o.fW w v l/\(Small Tryz.prog T.kM y.1->o.dN l.length 16/\∀x∈l,True) :=
 vE (G:=fun _=>True) (e:=T.f) 2 16 (by kernel_rfl) (by kernel_rfl) (by kernel_rfl) (fun a cs n y aw aS aL=>by obtain⟨x,rfl,au⟩:=aik aL;exact⟨x,⟨aw,au⟩,fun _=>trivial⟩) h
theorem adu(h:DataW.trod enc Tryz.prog w 0 (fun _=>true) true n T.ac [v]=some y):∃l,o.hI w v l/\(Small Tryz.prog T.ac y.1->o.dN l.length 24/\∀x∈l,x.cQ) :=
 vE (e:=T.xr) 2 24 (by kernel_rfl) (by kernel_rfl) (by kernel_rfl) (fun a cs n y aw aS aL=>by obtain⟨x,rfl,au,aZ⟩:=adt aL;exact⟨x,⟨aw,au⟩,fun _=>aZ⟩) h
theorem Tn(h:DataW.trod enc Tryz.prog w 0 (fun _=>true) true n T.xt [v]=some y):∃l,o.hh w v l/\(Small Tryz.prog T.xt y.1->o.dN l.length 56/\∀x∈l,x.cQ) :=
 vE (e:=T.j) 6 56 (by kernel_rfl) (by kernel_rfl) (by kernel_rfl) (fun a cs n y aw aS aL=>by obtain⟨x,rfl,au,aZ⟩:=adw aL;exact⟨x,⟨aw,au⟩,fun _=>aZ⟩) h
theorem adk(h:DataW.trod enc Tryz.prog w 0 (fun _=>true) true n T.jc [v]=some y):∃l,o.mC w v l/\(Small Tryz.prog T.jc y.1->o.dN l.length 56/\∀x∈l,x.cQ) :=
 vE (e:=T.r) 6 56 (by kernel_rfl) (by kernel_rfl) (by kernel_rfl) (fun a cs n y aw aS aL=>by obtain⟨x,rfl,au,aZ⟩:=adj aL;exact⟨x,⟨aw,au⟩,fun _=>aZ⟩) h
theorem adh{a:Addr}(aw:fg w a cs)(h:DataW.trod enc Tryz.prog w 0 (fun _=>true) true n T.q cs=some y):∃x:o.Act,o.xj w a x/\(Small Tryz.prog T.q y.1->x.cQ):=by
 obtain⟨aS,jG,ds,he,aK⟩:=tX (t:=T.q) rfl (by kernel_rfl) (by kernel_rfl) h
 match cs,aS with
 | [bS,c1,c2,bP,bX],_ =>
  obtain⟨_,_,dS,ak,_⟩:=aK 0 _ rfl;obtain⟨_,_,bU,h1,_⟩:=aK 1 _ rfl;obtain⟨_,_,a6,U,_⟩:=aK 2 _ rfl;obtain⟨_,_,bK,ag,d3⟩:=aK 3 _ rfl;obtain⟨_,_,b0,aJ,d4⟩:=aK 4 _ rfl;cases dS;cases bU;cases a6;cases bK;cases b0;obtain⟨z0,dS,_,gk⟩:=DataW.trod_int (k:=.i64) (by kernel_rfl) ak;obtain⟨gh,bU,_,dc⟩:=DataW.trod_int (k:=.i64) (by kernel_rfl) h1;obtain⟨z2,a6,_,dd⟩:=DataW.trod_int (k:=.i64) (by kernel_rfl) U;cases dS;cases bU;cases a6;obtain⟨dX,ag,g3⟩:=GS ag;obtain⟨ep,aJ,g4⟩:=GS aJ;exact⟨⟨z0,gh,z2,dX,ep⟩,⟨bP,bX,aw,ag,aJ⟩,fun ay=>by
   rw[he] at ay;exact⟨lJ gk,lJ dc,lJ dd,(g3 (ay.field rfl rfl rfl d3)).1,(g4 (ay.field rfl rfl rfl d4)).1⟩⟩
theorem adi(h:DataW.trod enc Tryz.prog w 0 (fun _=>true) true n T.as [v]=some y):∃l,o.nt w v l/\(Small Tryz.prog T.as y.1->o.dN l.length 72/\∀x∈l,x.cQ) :=
 vE (e:=T.q) 5 72 (by kernel_rfl) (by kernel_rfl) (by kernel_rfl) (fun a cs n y aw aS aL=>adh aw aL) h
theorem adl(h:DataW.trod enc Tryz.prog w 0 (fun _=>true) true n T.h cs=some y):∃x:o.dI,o.w8 w cs x/\(Small Tryz.prog T.h y.1->x.cQ):=by
 obtain⟨aS,jG,ds,he,aK⟩:=tX (t:=T.h) rfl (by kernel_rfl) (by kernel_rfl) h
 match cs,aS with
 | [bS,c1,c2,bP,bX,xC],_ =>
  obtain⟨_,_,dS,ak,_⟩:=aK 0 _ rfl;obtain⟨_,_,bU,h1,_⟩:=aK 1 _ rfl;obtain⟨_,_,a6,U,_⟩:=aK 2 _ rfl;obtain⟨_,_,bK,ag,d3⟩:=aK 3 _ rfl;obtain⟨_,_,b0,aJ,d4⟩:=aK 4 _ rfl;obtain⟨_,_,b3,bg,_⟩:=aK 5 _ rfl;cases dS;cases bU;cases a6;cases bK;cases b0;cases b3;obtain⟨s,dS,_,ay⟩:=DataW.trod_string (by kernel_rfl) ak;obtain⟨gh,bU,_,dc⟩:=DataW.trod_int (k:=.i64) (by kernel_rfl) h1;obtain⟨z2,a6,_,dd⟩:=DataW.trod_int (k:=.i64) (by kernel_rfl) U;obtain⟨z5,b3,_⟩:=DataW.trod_bool (by kernel_rfl) bg;cases dS;cases bU;cases a6;cases b3;obtain⟨dX,ag,g3⟩:=GS ag;obtain⟨ep,aJ,g4⟩:=adi aJ;exact⟨⟨s,gh,z2,dX,ep,z5⟩,⟨ay,bP,bX,rfl,ag,aJ⟩,fun ay=>by
   rw[he] at ay;exact⟨lJ dc,lJ dd,(g3 (ay.field rfl rfl rfl d3)).1,(g4 (ay.field rfl rfl rfl d4)).1,(g4 (ay.field rfl rfl rfl d4)).2⟩⟩
theorem adm(h:DataW.trod enc Tryz.prog w 0 (fun _=>true) true n T.JK [v]=some y):∃l,o.oO w v l/\(Small Tryz.prog T.JK y.1->o.dN l.length 88/\∀x∈l,x.cQ) :=
 vE (e:=T.h) 6 88 (by kernel_rfl) (by kernel_rfl) (by kernel_rfl) (fun a cs n y aw aS aL=>by
  obtain⟨x,⟨ak,fB,ee,rfl,h1,U⟩,aZ⟩:=adl aL;exact⟨x,⟨ak,fB,ee,aw,h1,U⟩,aZ⟩) h
theorem adq(h:DataW.trod enc Tryz.prog w 0 (fun _=>true) true n T.i cs=some y):∃x:o.dz,o.vp w cs x/\(Small Tryz.prog T.i y.1->x.cQ):=by
 obtain⟨aS,jG,ds,he,aK⟩:=tX (t:=T.i) rfl (by kernel_rfl) (by kernel_rfl) h
 match cs,aS with
 | [bS,c1,c2,bP,bX],_ =>
  obtain⟨_,_,dS,ak,_⟩:=aK 0 _ rfl;obtain⟨_,_,bU,h1,_⟩:=aK 1 _ rfl;obtain⟨_,_,a6,U,_⟩:=aK 2 _ rfl;obtain⟨_,_,bK,ag,d3⟩:=aK 3 _ rfl;obtain⟨_,_,b0,aJ,d4⟩:=aK 4 _ rfl;cases dS;cases bU;cases a6;cases bK;cases b0;obtain⟨s,dS,_,ay⟩:=DataW.trod_string (by kernel_rfl) ak;obtain⟨gh,bU,_,dc⟩:=DataW.trod_int (k:=.i64) (by kernel_rfl) h1;obtain⟨z2,a6,_,dd⟩:=DataW.trod_int (k:=.i64) (by kernel_rfl) U;cases dS;cases bU;cases a6;obtain⟨dX,ag,g3⟩:=Tn ag;obtain⟨ep,aJ,g4⟩:=adm aJ;exact⟨⟨s,gh,z2,dX,ep⟩,⟨ay,bP,bX,rfl,ag,aJ⟩,fun ay=>by
   rw[he] at ay;exact⟨lJ dc,lJ dd,(g3 (ay.field rfl rfl rfl d3)).1,(g4 (ay.field rfl rfl rfl d4)).1,(g3 (ay.field rfl rfl rfl d3)).2,(g4 (ay.field rfl rfl rfl d4)).2⟩⟩
theorem adr(h:DataW.trod enc Tryz.prog w 0 (fun _=>true) true n T.lg [v]=some y):∃l,o.pB w v l/\(Small Tryz.prog T.lg y.1->o.dN l.length 80/\∀x∈l,x.cQ) :=
 vE (e:=T.i) 5 80 (by kernel_rfl) (by kernel_rfl) (by kernel_rfl) (fun a cs n y aw aS aL=>by
  obtain⟨x,⟨ak,fB,ee,rfl,h1,U⟩,aZ⟩:=adq aL;exact⟨x,⟨ak,fB,ee,aw,h1,U⟩,aZ⟩) h
theorem ads(h:DataW.trod enc Tryz.prog w 0 (fun _=>true) true n T.RQ [v]=some y):∃l,o.zf w v l/\(Small Tryz.prog T.RQ y.1->o.dN l.length 40/\∀x∈l,x.cQ) :=
 vE (e:=T.xu) 2 40 (by kernel_rfl) (by kernel_rfl) (by kernel_rfl) (fun a cs n y aw aS aL=>by
  obtain⟨aS,jG,ds,he,aK⟩:=tX (t:=T.xu) rfl (by kernel_rfl) (by kernel_rfl) aL
  match cs,aS with
  | [bS,c1],_ =>
   obtain⟨_,_,dS,ak,_⟩:=aK 0 _ rfl;obtain⟨_,_,bU,h1,d1⟩:=aK 1 _ rfl;cases dS;cases bU;obtain⟨s,dS,_,ay⟩:=DataW.trod_string (by kernel_rfl) ak;cases dS;obtain⟨ej,h1,g1⟩:=GS h1;exact⟨⟨s,ej⟩,⟨ay,c1,aw,h1⟩,fun ay=>by rw[he] at ay;exact⟨(g1 (ay.field rfl rfl rfl d1)).1⟩⟩) h
theorem aiD{r:Reach}{jO:Nat}{v:Value}{d:DataW H}{p:List MemPlace}(rS:Value.okWide Tryz.prog w r jO T.b v)(h:DataW.Trod enc Tryz.prog w 0 (fun _=>true) true T.b v d p)(ay:Small Tryz.prog T.b d) :
  ∃cs m,v = .agg cs.toArray/\o.ec w cs m/\m.cQ:=by
 obtain⟨cs,n,rfl,aL⟩:=aiG (t:=T.b) rfl rS h;obtain⟨aS,jG,ds,rfl,aK⟩:=tX (t:=T.b) rfl (by kernel_rfl) (by kernel_rfl) aL;obtain⟨cs⟩:=cs
 match cs,aS with
 | [bS,c1,c2,bP,bX],_ =>
  obtain⟨_,_,dS,ak,d0⟩:=aK 0 _ rfl;obtain⟨_,_,bU,h1,d1⟩:=aK 1 _ rfl;obtain⟨_,_,a6,U,d2⟩:=aK 2 _ rfl;obtain⟨_,_,bK,ag,d3⟩:=aK 3 _ rfl;obtain⟨_,_,b0,aJ,d4⟩:=aK 4 _ rfl;cases dS;cases bU;cases a6;cases bK;cases b0;obtain⟨eI,gx,jO⟩:=adu ak;obtain⟨ej,fA,bC⟩:=Tn h1;obtain⟨eo,gd,cr⟩:=adk U;obtain⟨dX,ir,b5⟩:=adr ag;obtain⟨ep,k0,cM⟩:=ads aJ;have gk:=jO (ay.field rfl rfl rfl d0);have dc:=bC (ay.field rfl rfl rfl d1);have dd:=cr (ay.field rfl rfl rfl d2);have gv:=b5 (ay.field rfl rfl rfl d3);have iH:=cM (ay.field rfl rfl rfl d4);exact⟨[bS,c1,c2,bP,bX],⟨eI,ej,eo,dX,ep⟩,rfl,⟨⟨bS,c1,c2,bP,bX,rfl,gx,fA,gd,ir,k0⟩⟩,⟨gk.1,dc.1,dd.1,gv.1,iH.1,gk.2,dc.2,dd.2,gv.2,iH.2⟩⟩
end Go.Proofs.R
end
section
namespace Go.Proofs.R
open Go Go.RowKit bt Go.ChangeShapes Go.WideShapes Go.Deep
theorem aiH{H:Type}{enc:TypeId×Value->H}{w:World}{r:Reach}{jO:Nat}{v:Value}{d:DataW H}{p:List MemPlace}(rS:Value.okWide Tryz.prog w r jO T.s v)(h:DataW.Trod enc Tryz.prog w 0 (fun _=>true) true T.s v d p):∃q:Nat,v = .int .u8 q/\q<256:=by
 obtain⟨n,rfl,_,_,aD⟩:=open_int (k:=.u8) (by kernel_rfl) rS h;have aD:0<=n/\n<256:=by simp[Lit.wf] at aD;have ak:IntKind.u8.min=0:=rfl;have h1:IntKind.u8.max=255:=rfl;omega
 obtain⟨q,rfl⟩:=Int.eq_ofNat_of_zero_le (show 0<=n by omega);exact⟨q,rfl,by omega⟩
theorem apX{H:Type}{enc:TypeId×Value->H}{r:Reach}{jO:Nat}{d0 d1 d2:DataW H}{gp eO fz:List MemPlace}(v0 v1 v2:Value)(W:World)(bc:hv W)
  (gk:Value.okWide Tryz.prog W r jO T.b v0)(ak:DataW.Trod enc Tryz.prog W 0 (fun _=>true) true T.b v0 d0 gp)(jl:Small Tryz.prog T.b d0)
  (dc:Value.okWide Tryz.prog W r jO T.c v1)(h1:DataW.Trod enc Tryz.prog W 0 (fun _=>true) true T.c v1 d1 eO)(_s1:Small Tryz.prog T.c d1)
  (dd:Value.okWide Tryz.prog W r jO T.s v2)(U:DataW.Trod enc Tryz.prog W 0 (fun _=>true) true T.s v2 d2 fz)(_s2:Small Tryz.prog T.s d2) :
  bu Tryz.prog F.EM #[v0,v1,v2] W fun v w'=>v = .bool true/\Ext W w':=by
 obtain⟨cs,m,rfl,hm,aZ⟩:=aiD gk ak jl;obtain⟨s,ay⟩:=aiE dc h1;obtain⟨a,rfl,bo⟩:=aiH dd U;exact ahq cs v1 m s a W hm aZ bc ay bo
end Go.Proofs.R
end
section
namespace bt
open Go Go.RowKit Go.ChangeShapes
theorem ao5{P:Program}{f:FuncId}{fn:Func}{s:ChangeSpec}{c:OpenClaim}(h1:(c.wf (OpenSpec.ofChange s)&&laidOutB P&&mapsRowed P)=true)
  (U:(fn.params.all (P.readableRec ·)&&namedTie P c.named s.vars)=true)(ag:((c.stops == [])&&(P.stops == [])&&(c.knobs == [])&&(P.stopKnobs == []))=true)
  (aJ:(c.inPlace == P.inPlace f)=true)(bg:(c.unfollowed == P.unfollowed f)=true)(bO:(c.recurses == P.recurses f)=true)(cj:(c.named == P.varsNamed f)=true)
  (dE:((c.maps == (fn.params.toList++s.plain.varTypes P).any (P.mapsRec ·))&&(c.ifaces == (fn.params.toList++s.plain.varTypes P).any (P.ifacesRec ·))&&(c.mapsOut == P.mapsAmong fn.resultTypes.toList))=true)
  (iC:((c.loops == (fn.params.toList++s.plain.varTypes P).any (P.loopsFrom ·))&&(c.wideKeys == (fn.params.toList++s.plain.varTypes P++fn.resultTypes.toList).any (P.wideKeysFrom ·)))=true)
  (jS:(s.vars.all (P.varReadable ·)&&fn.resultTypes.all (fun t=>P.readableRec t&&decide (t<P.types.size))&&(c.ifacesOut == fn.resultTypes.toList.any (P.ifacesRec ·))&&(c.loopsOut == fn.resultTypes.toList.any (P.loopsFrom ·)))=true)
  (GV:(c.plainKeys == P.plainKeys)=true)(qH:(c.shortTexts.isNone&&P.stopsHeard)=true)(CS:P.mayEnter=true)
  (Tq:((c.lifted == P.liftsFinal)&&(P.make == some c.make))=true)
  (mg:((c.kinds == (if c.domain.isEmpty then [] else fn.params.toList.map fun t=>match P.underlying t with | some (.int k)=>some k | _=>none))&&(c.pinned == c.pinnedBy))=true)
  (mU:((c.veiled == (fn.params.toList++s.plain.varTypes P++fn.resultTypes.toList).any (P.veiledRec ·))&&c.veiledFits P fn.params.toList (fn.params.toList++s.plain.varTypes P++fn.resultTypes.toList))=true) :
  joinedFacts P f fn s c=true:=by
 simp only[Bool.and_eq_true] at h1 U ag dE iC jS qH Tq mg mU;unfold joinedFacts;simp only[Bool.and_eq_true];obtain⟨⟨dD,a2⟩,a3⟩:=h1;obtain⟨bC,cr⟩:=U;obtain⟨⟨⟨d1,d2⟩,d3⟩,d4⟩:=ag;obtain⟨⟨bU,a6⟩,bK⟩:=dE;obtain⟨f1,f2⟩:=iC;obtain⟨⟨⟨g1,g2⟩,g3⟩,g4⟩:=jS;obtain⟨i1,i2⟩:=qH;obtain⟨nb,ph⟩:=Tq;obtain⟨dc,dd⟩:=mg;obtain⟨ej,eo⟩:=mU;exact⟨⟨⟨⟨⟨⟨⟨⟨⟨⟨⟨⟨⟨⟨⟨⟨⟨⟨⟨⟨⟨⟨⟨⟨⟨⟨⟨⟨⟨⟨⟨dD,a2⟩,a3⟩,bC⟩,cr⟩,d1⟩,d2⟩,d3⟩,d4⟩,aJ⟩,bg⟩,bO⟩,cj⟩,bU⟩,a6⟩,bK⟩,f1⟩,f2⟩,g1⟩,g2⟩,g3⟩,g4⟩,GV⟩,i1⟩,i2⟩,CS⟩,nb⟩,ph⟩,dc⟩,dd⟩,ej⟩,eo⟩
end bt
end