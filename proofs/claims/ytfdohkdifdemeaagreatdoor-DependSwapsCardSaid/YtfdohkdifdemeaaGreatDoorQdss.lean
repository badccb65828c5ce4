/- Parts. -/
import Derived.Test.YtfdohkdifdemeaaGreatDoorQdsr
import Derived.SizedLaws
import Derived.JoinedCond
set_option linter.all false
set_option maxRecDepth 8000
set_option maxHeartbeats 64000000
section
namespace Go.Proofs.R
open Go Go.RowKit bt
theorem aku(v1 v2:Value)(l:List Int)(w:World)(h1:eO w v1 l)(U:eO w v2 l) :
  bu Tryz.prog F.EV #[v1,v2] w fun v w'=>v = .bool true/\Ext w w':=by
 obtain⟨b9,c1,rfl,bC⟩:=h1.form;obtain⟨ck,c2,rfl,cp⟩:=U.form;refine bL E.EV ?_;refine bG ?_;refine af ?_;refine K.dk 5 l.length [0,1] (fun _=>[]) () (fun k _ w'=>Ext w w') bz bz (Ext.refl _) ?_;rintro k _ S aU hk aA;refine af ?_;apply K.cond<;>intro g1
 .have bp:k<l.length:=by omega
  obtain⟨dJ,rfl⟩:=h1.addr (by omega);obtain⟨a2,rfl⟩:=U.addr (by omega);refine af ?_;intro bb ax;refine af ?_;exact⟨bp,bk,(),trivial,aA.trans ax⟩
 .refine af ?_;exact⟨bk,aA⟩
theorem ahr(cs:List Value)(v1:Value)(m:o.Model)(s:List Int)(a b:Nat)(w:World)(h:o.dY w cs m)(a1:m.cQ)(ba:ht w)(ay:eO w v1 s)(bj:a<256)(aC:b<256) :
  bu Tryz.prog F.EU #[.agg cs.toArray,v1,.int .u8 a,.int .u8 b] w fun u w'=>u = .bool true/\Ext w w':=by
 have br:=h;obtain⟨cy,bP,b9,c1,ck,c2,cn,bQ,cB,bX,rfl,_⟩:=h.form;obtain⟨os,xQ,rfl,Il⟩:=ay.form;have lr:∀{W},Ext w W->bu Tryz.prog F.u0 #[] W fun v w'=>v = .bool true/\Ext W w':=fun e=>aaj _ (ba.ext e);refine bL E.EU ?_;refine bG ?_;refine af ?_;intro av bC cR aB aq;refine af ?_;refine K.call (ahI _ m av (br.ext aB)) ?_;rintro _ aU ⟨⟨t,rfl,_⟩,aA⟩;replace aq:=aA.obj aq;have aW:=aB.trans aA;cases t with
 | false =>
  refine af ?_;refine K.call (lr aW) ?_;rintro _ bb ⟨rfl,ax⟩;refine af ?_;exact⟨bk,aW.trans ax⟩
 | true =>
  refine af ?_;apply K.cond<;>intro g1
  .refine af ?_;refine K.call (lr aW) ?_;rintro _ bb ⟨rfl,ax⟩;refine af ?_;exact⟨bk,aW.trans ax⟩
  refine af ?_;refine K.call (ajv _ m _ s aU (br.ext aW) a1 (ay.ext Flat.ext aW)) ?_;rintro _ bb ⟨⟨tb,rfl,agm⟩,ax⟩;replace aq:=ax.obj aq;have bJ:=aW.trans ax;cases tb with
  | false =>
   refine af ?_;refine K.call (lr bJ) ?_;rintro _ bq ⟨rfl,aM⟩;refine af ?_;exact⟨bk,bJ.trans aM⟩
  | true =>
   have dE:=agm.1 rfl;have lA:=o.mF dE.1;have j1:=o.u9 lA.lim;refine af ?_;refine K.call (XF _ m bb (br.ext bJ) a1 lA.lim) ?_;rintro j7 bq ⟨jE,aM⟩;obtain⟨h5,pU,rfl,_⟩:=jE.form;replace aq:=aM.obj aq;have bZ:=bJ.trans aM;clear jE;refine af ?_;refine K.call (Sw _ m bq (br.ext bZ) a1 (ba.ext bZ)) ?_;rintro apA bT ⟨hO,aZ⟩;obtain⟨M,eQ,TR⟩:=abT hO;obtain⟨L,hK,TK⟩:=TR.ok dE.1;have C8:=hK.len;have anp:M.length=(o.refs m).length:=by rw[TK,o.tU,C8]
   obtain⟨bm,gf,rfl,aoU⟩:=eQ.form;replace aq:=aZ.obj aq;have b5:=bZ.trans aZ;clear hO;refine af ?_;apply K.cond<;>intro g2
   .refine af ?_;refine K.call (lr b5) ?_;rintro _ bV ⟨rfl,a8⟩;refine af ?_;exact⟨bk,b5.trans a8⟩
   have aE:0<(o.refs m).length:=by omega
   refine af ?_;refine K.XK a (o.refs m).length rfl rfl (by omega) ?_;refine af ?_;refine K.XK b (o.refs m).length rfl rfl (by omega) ?_;have ar:a % (o.refs m).length<(o.refs m).length:=Nat.mod_lt _ aE;have b2:b % (o.refs m).length<(o.refs m).length:=Nat.mod_lt _ aE;generalize a % (o.refs m).length=x at ar;generalize b % (o.refs m).length=y at b2;refine af ?_;intro bV a8;replace aq:=a8.obj aq;have cM:=b5.trans a8;have gT:x<M.length:=by omega
   have Vv:y<M.length:=by omega
   have te:=TR.alg gT;obtain⟨ky,rfl⟩:=eQ.addr (by omega);obtain⟨v2,fA,hM⟩:=eQ.at x gT;obtain⟨wT,qA,rfl,_⟩:=hM.form;obtain⟨l0,rfl⟩:=hM.addr (by omega);have Vq:=fA.ext a8;have eD:eS bV (l0.add (y*1)) [.bool ((M[x])[y]'(by omega))]:=eS.ext a8 (hM.at y (by omega));have MB:(M[x])[y]'(by omega)=o.wU (L[x]'(by omega)) (L[y]'(by omega)):=by
    subst TK;simp only[o.Sx];rw[o.abU]
   clear fA hM eQ;refine af ?_;refine K.ld (Nd Vq) ?_;refine af ?_;refine K.ld (Nd Vq) ?_;refine af ?_;refine K.ld (Nd eD) ?_;rw[MB];cases Va:o.wU (L[x]'(by omega)) (L[y]'(by omega)) with
   | true =>
    refine af ?_;refine K.call (lr cM) ?_;rintro _ cc ⟨rfl,bM⟩;refine af ?_;exact⟨bk,cM.trans bM⟩
   | false =>
    have gZ:¬o.oa (L[x]'(by omega)).1 (L[x]'(by omega)).2 (L[y]'(by omega)).1 (L[y]'(by omega)).2:=by unfold o.wU at Va;exact of_decide_eq_false Va
    have C6:=hK.is x (by omega);have G9:=hK.is y (by omega);refine af ?_;refine K.call (Xs _ _ m s x bV (br.ext cM) a1 (ay.ext Flat.ext cM)) ?_;rintro _ cc ⟨⟨t1,rfl,agl⟩,bM⟩;replace aq:=bM.obj aq;have dz:=cM.trans bM;cases t1 with
    | false =>
     refine af ?_;refine K.call (lr dz) ?_;rintro _ di ⟨rfl,bY⟩;refine af ?_;exact⟨bk,dz.trans bY⟩
    | true =>
     obtain⟨_,ad7,Bc⟩:=agl.1 rfl;refine af ?_;refine K.call (Xs _ _ m s y cc (br.ext dz) a1 (ay.ext Flat.ext dz)) ?_;rintro _ di ⟨⟨t2,rfl,Ml⟩,bY⟩;replace aq:=bY.obj aq;have eg:=dz.trans bY;cases t2 with
     | false =>
      refine af ?_;refine K.call (lr eg) ?_;rintro _ dX ⟨rfl,cr⟩;refine af ?_;exact⟨bk,eg.trans cr⟩
     | true =>
      obtain⟨_,ad8,Nh⟩:=Ml.1 rfl;refine af ?_;refine K.call (IB _ _ m s x 0 di (br.ext eg) a1 (ay.ext Flat.ext eg)) ?_;rintro _ dX ⟨⟨apE,one,f1,rfl,pk,sY⟩,cr⟩;obtain⟨apc,am7,rfl,_⟩:=pk.form;replace aq:=cr.obj aq;have ig:=eg.trans cr;refine af ?_;refine K.call (IB _ _ m s y 0 dX (br.ext ig) a1 (ay.ext Flat.ext ig)) ?_;rintro _ fw ⟨⟨apF,two,f2,rfl,ir,jY⟩,dc⟩;obtain⟨apd,am8,rfl,_⟩:=ir.form;replace aq:=dc.obj aq;have kA:=ig.trans dc;replace pk:=pk.ext Flat.ext dc;refine af ?_;refine K.call (IB _ _ m one y 0 fw (br.ext kA) a1 pk) ?_;rintro _ gw ⟨⟨apG,both,f3,rfl,ym,Hu⟩,fY⟩;obtain⟨ape,am9,rfl,_⟩:=ym.form;replace aq:=fY.obj aq;have tW:=kA.trans fY;replace ir:=ir.ext Flat.ext fY;refine af ?_;refine K.call (IB _ _ m two x 0 gw (br.ext tW) a1 ir) ?_;rintro _ la ⟨⟨apH,other,f4,rfl,mD,Af⟩,fv⟩;obtain⟨apf,ana,rfl,_⟩:=mD.form;have vX:=tW.trans fv;replace ym:=ym.ext Flat.ext fv;obtain⟨cI,rfl,rfl,rfl,rfl,rfl⟩:=o.als ad7 ad8 dE C6 G9 gZ Bc Nh sY jY Hu Af;clear aq sY jY Hu Af pk ir;refine af ?_;refine K.call (aku _ _ both la ym mD) ?_;rintro _ pz ⟨rfl,jA⟩;have SI:=vX.trans jA;refine af ?_;refine K.call (lr SI) ?_;rintro _ Oz ⟨rfl,qO⟩;refine af ?_;exact⟨bk,SI.trans qO⟩
end Go.Proofs.R
end
section
namespace bt
open Go Go.RowKit Go.ChangeShapes Go.WideShapes Go.Deep
section
variable{H:Type}{enc:TypeId×Value->H}{P:Program}{w:World}{base:Nat}{spare:Nat->Bool}{held:Bool}
theorem uc{t:TypeId}{fM:Array Field}{n:Nat}{cs:List Value}{y:DataW H×List MemPlace}(aO:P.underlying t=some (.struct fM))(uE:oneCellFields P fM=true)(ca:P.cellsOf t=fM.size)
  (h:DataW.trod enc P w base spare held n t cs=some y):cs.length=fM.size/\∃jH ds,y.1 = .agg ds/\∀(j:Nat) (f:Field),fM[j]? = some f->∃v z,cs[j]? = some v/\DataW.trod enc P w base spare held jH f.type [v]=some z/\ds[j]? = some z.1:=by
 obtain⟨ys,jH,HM,b2,hlen,aop,aK⟩:=DataW.trod_struct aO h;refine⟨by omega,jH,_,by rw[b2],fun j f aR=>?_⟩;obtain⟨ba,hk⟩:=hone_of uE j f aR;have DB:j<fM.size:=(Array.getElem?_eq_some_iff.1 aR).1;have aT:cs[j]? = some (cs[j]'(by omega)):=List.getElem?_eq_getElem (by omega);have h1:=aK j f aR;rw[ba,hk] at h1;have afH:(cs.drop j).take 1=[cs[j]'(by omega)]:=by
  rw[List.drop_eq_getElem_cons (by omega)];rfl
 rw[afH,List.getElem?_eq_getElem (l:=ys) (by omega)] at h1;exact⟨_,_,aT,h1,by rw[List.getElem?_map,List.getElem?_eq_getElem (by omega)];rfl⟩
def Small(P:Program)(t:TypeId)(d:DataW H):Prop := ∀q∈d.weights P t,q<=reachBytes
theorem Small.field{t u:TypeId}{fM:Array Field}{ds:List (DataW H)}{j:Nat}{d:DataW H}{f:Field}(h:Small P t (.agg ds))(aO:P.underlying t=some (.struct fM))(aK:fM[j]? = some f)(hu:f.type=u)(bx:ds[j]? = some d):Small P u d:=by
 subst hu;intro q aD;refine h q ?_;simp only[DataW.weights,aO];exact DataW.weights_mem_each (j:=j) (by simp[aK]) bx q aD
theorem aa2{α:Type}{R:World->Addr->α->Prop}{t e:TypeId}{v:Value}{n:Nat}{z:DataW H×List MemPlace}(sz:Nat)(aO:P.underlying t=some (.slice e))(ca:P.cellsOf e=sz)(ji:0<P.bytesOf e)
  (dE:∀(a:Addr) (cs:List Value) (n:Nat) (y:DataW H×List MemPlace),eS w a cs->cs.length=sz->DataW.trod enc P w 0 (fun _=>true) true n e cs=some y->∃x,R w a x)
  (h:DataW.trod enc P w 0 (fun _=>true) true n t [v]=some z):∃xs,bE sz R w v xs/\(Small P t z.1->xs.length<=140737488355328):=by
 rcases open_slice aO h with ⟨gA,_⟩ | ⟨a,len,cap,m,n,D,Zz,gA,aC,aS,hm,DK,ar,ad⟩
 .simp at gA;subst gA;exact⟨[],bE.nil,fun _=>by simp⟩
 .simp at gA;subst gA;simp only[if_true] at DK;subst DK;obtain⟨xs,te,uJ⟩:=MW len (fun i x=>R w (a.add (i*sz)) x) fun i cO=>by
   obtain⟨iD,aw,wB⟩:=ad i (by omega);rw[ca] at aw;obtain⟨_,eZ,kj⟩:=World.cells?_some aw;refine dE _ iD n _ (fun j u aR=>?_) eZ wB;have LU:j<sz:=eZ ▸ (List.getElem?_eq_some_iff.1 aR).1;rw[<-aR];exact kj j LU
  refine⟨xs,⟨some a,_,by rw[te],by omega,hm,fun _=>rfl,fun c5 bj=>by injection bj with bj;subst bj;exact uJ⟩,fun ay=>?_⟩;have h1:=ay ((len+(m - len))*P.bytesOf e) (by rw[ar];simp[DataW.weights,aO]);have U:=reachBytes_lt;have ag:len<=(len+(m - len))*P.bytesOf e:=Nat.le_trans (Nat.le_add_right len _) (Nat.le_mul_of_pos_right _ ji);rw[te];omega
theorem Z9{r:Reach}{mi:Nat}{t e:TypeId}{v:Value}{d:DataW H}{p:List MemPlace}(aO:P.underlying t=some (.slice e))(r1:Value.okWide P w r mi t v)(h:DataW.Trod enc P w 0 (fun _=>true) true t v d p) :
  ∃n,DataW.trod enc P w 0 (fun _=>true) true n t [v]=some (d,p):=by
 obtain⟨a0,aoY,amX,rfl⟩:=okWide_slice aO r1;obtain⟨n,aE⟩:=h;exact⟨n,aE⟩
end
end bt
namespace Go.Proofs.R
open Go Go.RowKit bt Go.ChangeShapes
variable{H:Type}{enc:TypeId×Value->H}{w:World}{cs:List Value}{n:Nat}{y:DataW H×List MemPlace}{v:Value}
theorem lS{z:Int}(h:(Lit.int .i64 z).wf=true):o.eG z:=by
 simp only[Lit.wf,Bool.and_eq_true,decide_eq_true_eq] at h;exact⟨h.1,h.2⟩
theorem aii(h:DataW.trod enc Tryz.prog w 0 (fun _=>true) true n T.f cs=some y):∃x:o.Node,cs=x.enc/\x.ok:=by
 obtain⟨aS,jH,ds,_,aK⟩:=uc (t:=T.f) rfl (by kernel_rfl) (by kernel_rfl) h
 match cs,aS with
 | [bP,c1],_ =>
  obtain⟨_,_,dQ,ak,_⟩:=aK 0 _ rfl;obtain⟨_,_,bR,h1,_⟩:=aK 1 _ rfl;cases dQ;cases bR;obtain⟨z0,dQ,_,gC⟩:=DataW.trod_int (k:=.i64) (by kernel_rfl) ak;obtain⟨gl,bR,_,cX⟩:=DataW.trod_int (k:=.i64) (by kernel_rfl) h1;cases dQ;cases bR;exact⟨⟨z0,gl⟩,rfl,lS gC,lS cX⟩
end Go.Proofs.R
end
section
namespace Go.Proofs.R
open Go Go.RowKit bt Go.ChangeShapes
variable{H:Type}{enc:TypeId×Value->H}{w:World}{r:Reach}{mi:Nat}{v:Value}{d:DataW H}{p:List MemPlace}
theorem agT{n:Nat}{y:DataW H×List MemPlace}(h:DataW.trod enc Tryz.prog w 0 (fun _=>true) true n T.c [v]=some y):∃l,pF w v l/\(Small Tryz.prog T.c y.1->l.length<=140737488355328) :=
 aa2 (e:=T.a) 1 (by kernel_rfl) (by kernel_rfl) (by decide +kernel) (fun a cs n y aw aS aO=>by
  obtain⟨z,e,_,ahl⟩:=DataW.trod_int (k:=.i64) (by kernel_rfl) aO;cases e;exact⟨z,aw,lS ahl⟩) h
theorem open_ints(r1:Value.okWide Tryz.prog w r mi T.c v)(h:DataW.Trod enc Tryz.prog w 0 (fun _=>true) true T.c v d p):∃l,pF w v l:=by
 obtain⟨n,aE⟩:=Z9 (e:=T.a) (by kernel_rfl) r1 h;obtain⟨l,aS,_⟩:=agT aE;exact⟨l,aS⟩
end Go.Proofs.R
end
section
namespace Go.Proofs.R
open Go Go.RowKit bt Go.ChangeShapes
variable{H:Type}{enc:TypeId×Value->H}{w:World}{r:Reach}{mi:Nat}{v:Value}{d:DataW H}{p:List MemPlace}
theorem aiA(r1:Value.okWide Tryz.prog w r mi T.c v)(h:DataW.Trod enc Tryz.prog w 0 (fun _=>true) true T.c v d p):∃l,bE 1 (Flat ey) w v l:=by
 obtain⟨l,aS⟩:=open_ints r1 h;obtain⟨bm,cap,e,h1,U,ag,aJ⟩:=aS.ex;exact⟨l,bm,cap,e,h1,U,ag,fun a bj i ad=>(aJ a bj i ad).1⟩
end Go.Proofs.R
end
section
namespace bt
open Go Go.RowKit Go.ChangeShapes Go.WideShapes Go.Deep
section
variable{H:Type}{enc:TypeId×Value->H}{P:Program}{w:World}{base:Nat}{spare:Nat->Bool}{held:Bool}
theorem YY{e:TypeId}:∀{ds:List (DataW H)} {d:DataW H},d∈ds->∀n∈d.weights P e,n∈DataW.weightsAll P e ds
 | [],_,h=>by cases h
 | x :: r,d,h=>fun n aE=>by
  simp only[DataW.weightsAll];rcases List.mem_cons.1 h with rfl | h
  .exact List.mem_append_left _ aE
  .exact List.mem_append_right _ (YY h n aE)
theorem vN{α:Type}{R:World->Addr->α->Prop}{G:α->Prop}{t e:TypeId}{v:Value}{n:Nat}{z:DataW H×List MemPlace}(sz B:Nat)(aO:P.underlying t=some (.slice e))(ca:P.cellsOf e=sz)(ji:P.bytesOf e=B)
  (dE:∀(a:Addr) (cs:List Value) (n:Nat) (y:DataW H×List MemPlace),eS w a cs->cs.length=sz->DataW.trod enc P w 0 (fun _=>true) true n e cs=some y->∃x,R w a x/\(Small P e y.1->G x))
  (h:DataW.trod enc P w 0 (fun _=>true) true n t [v]=some z):∃xs,bE sz R w v xs/\(Small P t z.1->o.dK xs.length B/\∀x∈xs,G x):=by
 rcases open_slice aO h with ⟨gA,_⟩ | ⟨a,len,cap,m,n,D,Zz,gA,aC,aS,hm,DK,ar,ad⟩
 .simp at gA;subst gA;exact⟨[],bE.nil,fun _=>⟨by simp[o.dK],fun x ar=>by cases ar⟩⟩
 .simp at gA;subst gA;simp only[if_true] at DK;subst DK;obtain⟨xs,te,uJ⟩:=MW len (fun i x=>R w (a.add (i*sz)) x/\(Small P e (D i)->G x)) fun i cO=>by
   obtain⟨iD,aw,wB⟩:=ad i (by omega);rw[ca] at aw;obtain⟨_,eZ,kj⟩:=World.cells?_some aw;refine dE _ iD n _ (fun j u aR=>?_) eZ wB;have LU:j<sz:=eZ ▸ (List.getElem?_eq_some_iff.1 aR).1;rw[<-aR];exact kj j LU
  refine⟨xs,⟨some a,_,by rw[te],by omega,hm,fun _=>rfl,fun c5 bj i ad=>by injection bj with bj;subst bj;exact(uJ i ad).1⟩,fun ay=>⟨?_,fun x ta=>?_⟩⟩
  .have h1:=ay ((len+(m - len))*P.bytesOf e) (by rw[ar];simp[DataW.weights,aO]);have U:len*B<=(len+(m - len))*P.bytesOf e:=by rw[ji];exact Nat.mul_le_mul_right _ (by omega)
   have ag:reachBytes=140737488351232:=rfl;unfold o.dK;rw[te];omega
  .obtain⟨i,cO,rfl⟩:=List.mem_iff_getElem.1 ta;refine(uJ i cO).2 fun q aD=>ay q ?_;rw[ar];simp only[DataW.weights,aO];refine List.mem_cons_of_mem _ (List.mem_append_left _ (YY ?_ q aD));exact List.mem_map.2 ⟨i,by simp;omega,rfl⟩
theorem aiC{r:Reach}{mi:Nat}{t:TypeId}{fM:Array Field}{v:Value}{d:DataW H}{p:List MemPlace}(aO:P.underlying t=some (.struct fM))
  (r1:Value.okWide P w r mi t v)(h:DataW.Trod enc P w base spare held t v d p):∃cs n,v = .agg cs/\DataW.trod enc P w base spare held n t cs.toList=some (d,p):=by
 obtain⟨cs,rfl,dm⟩:=okWide_struct aO r1;obtain⟨fuel,aK⟩:=h;exact⟨cs,fuel,rfl,aK⟩
end
end bt
namespace Go.Proofs.R
open Go Go.RowKit bt Go.ChangeShapes
variable{H:Type}{enc:TypeId×Value->H}{w:World}{cs:List Value}{n:Nat}{y:DataW H×List MemPlace}{v:Value}
theorem adz(h:DataW.trod enc Tryz.prog w 0 (fun _=>true) true n T.xy cs=some y):∃x:o.Scalar,cs=x.enc/\o.hR x.name/\x.cQ:=by
 obtain⟨aS,jH,ds,_,aK⟩:=uc (t:=T.xy) rfl (by kernel_rfl) (by kernel_rfl) h
 match cs,aS with
 | [bP,c1],_ =>
  obtain⟨_,_,dQ,ak,_⟩:=aK 0 _ rfl;obtain⟨_,_,bR,h1,_⟩:=aK 1 _ rfl;cases dQ;cases bR;obtain⟨s,dQ,_,ay⟩:=DataW.trod_string (by kernel_rfl) ak;obtain⟨z,bR,_,cX⟩:=DataW.trod_int (k:=.i64) (by kernel_rfl) h1;cases dQ;cases bR;exact⟨⟨s,z⟩,rfl,ay,⟨lS cX⟩⟩
theorem adC(h:DataW.trod enc Tryz.prog w 0 (fun _=>true) true n T.i cs=some y):∃x:o.Var,cs=x.enc/\o.hR x.name/\x.cQ:=by
 obtain⟨aS,jH,ds,_,aK⟩:=uc (t:=T.i) rfl (by kernel_rfl) (by kernel_rfl) h
 match cs,aS with
 | [bP,c1,c2,bQ,bX,xG],_ =>
  obtain⟨_,_,dQ,ak,_⟩:=aK 0 _ rfl;obtain⟨_,_,bR,h1,_⟩:=aK 1 _ rfl;obtain⟨_,_,aW,U,_⟩:=aK 2 _ rfl;obtain⟨_,_,bJ,ag,_⟩:=aK 3 _ rfl;obtain⟨_,_,bZ,aJ,_⟩:=aK 4 _ rfl;obtain⟨_,_,b5,bg,_⟩:=aK 5 _ rfl;cases dQ;cases bR;cases aW;cases bJ;cases bZ;cases b5;obtain⟨s,dQ,_,ay⟩:=DataW.trod_string (by kernel_rfl) ak;obtain⟨gl,bR,_,cX⟩:=DataW.trod_int (k:=.i64) (by kernel_rfl) h1;obtain⟨z2,aW,_,c0⟩:=DataW.trod_int (k:=.i64) (by kernel_rfl) U;obtain⟨z3,bJ,_,gD⟩:=DataW.trod_int (k:=.i64) (by kernel_rfl) ag;obtain⟨z4,bZ,_,iK⟩:=DataW.trod_int (k:=.i64) (by kernel_rfl) aJ;obtain⟨z5,b5,_,uO⟩:=DataW.trod_int (k:=.i64) (by kernel_rfl) bg;cases dQ;cases bR;cases aW;cases bJ;cases bZ;cases b5;exact⟨⟨s,gl,z2,z3,z4,z5⟩,rfl,ay,⟨lS cX,lS c0,lS gD,lS iK,lS uO⟩⟩
theorem adp(h:DataW.trod enc Tryz.prog w 0 (fun _=>true) true n T.r cs=some y):∃x:o.dr,cs=x.enc/\o.hR x.name/\x.cQ:=by
 obtain⟨aS,jH,ds,_,aK⟩:=uc (t:=T.r) rfl (by kernel_rfl) (by kernel_rfl) h
 match cs,aS with
 | [bP,c1,c2,bQ,bX,xG],_ =>
  obtain⟨_,_,dQ,ak,_⟩:=aK 0 _ rfl;obtain⟨_,_,bR,h1,_⟩:=aK 1 _ rfl;obtain⟨_,_,aW,U,_⟩:=aK 2 _ rfl;obtain⟨_,_,bJ,ag,_⟩:=aK 3 _ rfl;obtain⟨_,_,bZ,aJ,_⟩:=aK 4 _ rfl;obtain⟨_,_,b5,bg,_⟩:=aK 5 _ rfl;cases dQ;cases bR;cases aW;cases bJ;cases bZ;cases b5;obtain⟨s,dQ,_,ay⟩:=DataW.trod_string (by kernel_rfl) ak;obtain⟨gl,bR,_,cX⟩:=DataW.trod_int (k:=.i64) (by kernel_rfl) h1;obtain⟨z2,aW,_,c0⟩:=DataW.trod_int (k:=.i64) (by kernel_rfl) U;obtain⟨z3,bJ,_,gD⟩:=DataW.trod_int (k:=.i64) (by kernel_rfl) ag;obtain⟨z4,bZ,_,iK⟩:=DataW.trod_int (k:=.i64) (by kernel_rfl) aJ;obtain⟨z5,b5,_⟩:=DataW.trod_bool (by kernel_rfl) bg;cases dQ;cases bR;cases aW;cases bJ;cases bZ;cases b5;exact⟨⟨s,gl,z2,z3,z4,z5⟩,rfl,ay,⟨lS cX,lS c0,lS gD,lS iK⟩⟩
theorem G1(h:DataW.trod enc Tryz.prog w 0 (fun _=>true) true n T.ky [v]=some y):∃l,o.gd w v l/\(Small Tryz.prog T.ky y.1->o.dK l.length 16/\∀x∈l,True) :=
 vN (G:=fun _=>True) (e:=T.f) 2 16 (by kernel_rfl) (by kernel_rfl) (by kernel_rfl) (fun a cs n y aw aS aO=>by obtain⟨x,rfl,ar⟩:=aii aO;exact⟨x,⟨aw,ar⟩,fun _=>trivial⟩) h
theorem adA(h:DataW.trod enc Tryz.prog w 0 (fun _=>true) true n T.ac [v]=some y):∃l,o.hI w v l/\(Small Tryz.prog T.ac y.1->o.dK l.length 24/\∀x∈l,x.cQ) :=
 vN (e:=T.xy) 2 24 (by kernel_rfl) (by kernel_rfl) (by kernel_rfl) (fun a cs n y aw aS aO=>by obtain⟨x,rfl,ar,a1⟩:=adz aO;exact⟨x,⟨aw,ar⟩,fun _=>a1⟩) h
theorem Tv(h:DataW.trod enc Tryz.prog w 0 (fun _=>true) true n T.xz [v]=some y):∃l,o.hi w v l/\(Small Tryz.prog T.xz y.1->o.dK l.length 56/\∀x∈l,x.cQ) :=
 vN (e:=T.i) 6 56 (by kernel_rfl) (by kernel_rfl) (by kernel_rfl) (fun a cs n y aw aS aO=>by obtain⟨x,rfl,ar,a1⟩:=adC aO;exact⟨x,⟨aw,ar⟩,fun _=>a1⟩) h
theorem adq(h:DataW.trod enc Tryz.prog w 0 (fun _=>true) true n T.lp [v]=some y):∃l,o.mK w v l/\(Small Tryz.prog T.lp y.1->o.dK l.length 56/\∀x∈l,x.cQ) :=
 vN (e:=T.r) 6 56 (by kernel_rfl) (by kernel_rfl) (by kernel_rfl) (fun a cs n y aw aS aO=>by obtain⟨x,rfl,ar,a1⟩:=adp aO;exact⟨x,⟨aw,ar⟩,fun _=>a1⟩) h
theorem adn{a:Addr}(aw:eS w a cs)(h:DataW.trod enc Tryz.prog w 0 (fun _=>true) true n T.q cs=some y):∃x:o.Act,o.xp w a x/\(Small Tryz.prog T.q y.1->x.cQ):=by
 obtain⟨aS,jH,ds,he,aK⟩:=uc (t:=T.q) rfl (by kernel_rfl) (by kernel_rfl) h
 match cs,aS with
 | [bP,c1,c2,bQ,bX],_ =>
  obtain⟨_,_,dQ,ak,_⟩:=aK 0 _ rfl;obtain⟨_,_,bR,h1,_⟩:=aK 1 _ rfl;obtain⟨_,_,aW,U,_⟩:=aK 2 _ rfl;obtain⟨_,_,bJ,ag,d3⟩:=aK 3 _ rfl;obtain⟨_,_,bZ,aJ,d4⟩:=aK 4 _ rfl;cases dQ;cases bR;cases aW;cases bJ;cases bZ;obtain⟨z0,dQ,_,gC⟩:=DataW.trod_int (k:=.i64) (by kernel_rfl) ak;obtain⟨gl,bR,_,cX⟩:=DataW.trod_int (k:=.i64) (by kernel_rfl) h1;obtain⟨z2,aW,_,c0⟩:=DataW.trod_int (k:=.i64) (by kernel_rfl) U;cases dQ;cases bR;cases aW;obtain⟨ea,ag,g3⟩:=G1 ag;obtain⟨ew,aJ,g4⟩:=G1 aJ;exact⟨⟨z0,gl,z2,ea,ew⟩,⟨bQ,bX,aw,ag,aJ⟩,fun ay=>by
   rw[he] at ay;exact⟨lS gC,lS cX,lS c0,(g3 (ay.field rfl rfl rfl d3)).1,(g4 (ay.field rfl rfl rfl d4)).1⟩⟩
theorem ado(h:DataW.trod enc Tryz.prog w 0 (fun _=>true) true n T.as [v]=some y):∃l,o.nz w v l/\(Small Tryz.prog T.as y.1->o.dK l.length 72/\∀x∈l,x.cQ) :=
 vN (e:=T.q) 5 72 (by kernel_rfl) (by kernel_rfl) (by kernel_rfl) (fun a cs n y aw aS aO=>adn aw aO) h
theorem adr(h:DataW.trod enc Tryz.prog w 0 (fun _=>true) true n T.n cs=some y):∃x:o.dI,o.xe w cs x/\(Small Tryz.prog T.n y.1->x.cQ):=by
 obtain⟨aS,jH,ds,he,aK⟩:=uc (t:=T.n) rfl (by kernel_rfl) (by kernel_rfl) h
 match cs,aS with
 | [bP,c1,c2,bQ,bX,xG],_ =>
  obtain⟨_,_,dQ,ak,_⟩:=aK 0 _ rfl;obtain⟨_,_,bR,h1,_⟩:=aK 1 _ rfl;obtain⟨_,_,aW,U,_⟩:=aK 2 _ rfl;obtain⟨_,_,bJ,ag,d3⟩:=aK 3 _ rfl;obtain⟨_,_,bZ,aJ,d4⟩:=aK 4 _ rfl;obtain⟨_,_,b5,bg,_⟩:=aK 5 _ rfl;cases dQ;cases bR;cases aW;cases bJ;cases bZ;cases b5;obtain⟨s,dQ,_,ay⟩:=DataW.trod_string (by kernel_rfl) ak;obtain⟨gl,bR,_,cX⟩:=DataW.trod_int (k:=.i64) (by kernel_rfl) h1;obtain⟨z2,aW,_,c0⟩:=DataW.trod_int (k:=.i64) (by kernel_rfl) U;obtain⟨z5,b5,_⟩:=DataW.trod_bool (by kernel_rfl) bg;cases dQ;cases bR;cases aW;cases b5;obtain⟨ea,ag,g3⟩:=G1 ag;obtain⟨ew,aJ,g4⟩:=ado aJ;exact⟨⟨s,gl,z2,ea,ew,z5⟩,⟨ay,bQ,bX,rfl,ag,aJ⟩,fun ay=>by
   rw[he] at ay;exact⟨lS cX,lS c0,(g3 (ay.field rfl rfl rfl d3)).1,(g4 (ay.field rfl rfl rfl d4)).1,(g4 (ay.field rfl rfl rfl d4)).2⟩⟩
theorem ads(h:DataW.trod enc Tryz.prog w 0 (fun _=>true) true n T.rI [v]=some y):∃l,o.oP w v l/\(Small Tryz.prog T.rI y.1->o.dK l.length 88/\∀x∈l,x.cQ) :=
 vN (e:=T.n) 6 88 (by kernel_rfl) (by kernel_rfl) (by kernel_rfl) (fun a cs n y aw aS aO=>by
  obtain⟨x,⟨ak,fK,ed,rfl,h1,U⟩,a1⟩:=adr aO;exact⟨x,⟨ak,fK,ed,aw,h1,U⟩,a1⟩) h
theorem adw(h:DataW.trod enc Tryz.prog w 0 (fun _=>true) true n T.h cs=some y):∃x:o.dy,o.vC w cs x/\(Small Tryz.prog T.h y.1->x.cQ):=by
 obtain⟨aS,jH,ds,he,aK⟩:=uc (t:=T.h) rfl (by kernel_rfl) (by kernel_rfl) h
 match cs,aS with
 | [bP,c1,c2,bQ,bX],_ =>
  obtain⟨_,_,dQ,ak,_⟩:=aK 0 _ rfl;obtain⟨_,_,bR,h1,_⟩:=aK 1 _ rfl;obtain⟨_,_,aW,U,_⟩:=aK 2 _ rfl;obtain⟨_,_,bJ,ag,d3⟩:=aK 3 _ rfl;obtain⟨_,_,bZ,aJ,d4⟩:=aK 4 _ rfl;cases dQ;cases bR;cases aW;cases bJ;cases bZ;obtain⟨s,dQ,_,ay⟩:=DataW.trod_string (by kernel_rfl) ak;obtain⟨gl,bR,_,cX⟩:=DataW.trod_int (k:=.i64) (by kernel_rfl) h1;obtain⟨z2,aW,_,c0⟩:=DataW.trod_int (k:=.i64) (by kernel_rfl) U;cases dQ;cases bR;cases aW;obtain⟨ea,ag,g3⟩:=Tv ag;obtain⟨ew,aJ,g4⟩:=ads aJ;exact⟨⟨s,gl,z2,ea,ew⟩,⟨ay,bQ,bX,rfl,ag,aJ⟩,fun ay=>by
   rw[he] at ay;exact⟨lS cX,lS c0,(g3 (ay.field rfl rfl rfl d3)).1,(g4 (ay.field rfl rfl rfl d4)).1,(g3 (ay.field rfl rfl rfl d3)).2,(g4 (ay.field rfl rfl rfl d4)).2⟩⟩
theorem adx(h:DataW.trod enc Tryz.prog w 0 (fun _=>true) true n T.rH [v]=some y):∃l,o.pJ w v l/\(Small Tryz.prog T.rH y.1->o.dK l.length 80/\∀x∈l,x.cQ) :=
 vN (e:=T.h) 5 80 (by kernel_rfl) (by kernel_rfl) (by kernel_rfl) (fun a cs n y aw aS aO=>by
  obtain⟨x,⟨ak,fK,ed,rfl,h1,U⟩,a1⟩:=adw aO;exact⟨x,⟨ak,fK,ed,aw,h1,U⟩,a1⟩) h
theorem ady(h:DataW.trod enc Tryz.prog w 0 (fun _=>true) true n T.RW [v]=some y):∃l,o.zl w v l/\(Small Tryz.prog T.RW y.1->o.dK l.length 40/\∀x∈l,x.cQ) :=
 vN (e:=T.oi) 2 40 (by kernel_rfl) (by kernel_rfl) (by kernel_rfl) (fun a cs n y aw aS aO=>by
  obtain⟨aS,jH,ds,he,aK⟩:=uc (t:=T.oi) rfl (by kernel_rfl) (by kernel_rfl) aO
  match cs,aS with
  | [bP,c1],_ =>
   obtain⟨_,_,dQ,ak,_⟩:=aK 0 _ rfl;obtain⟨_,_,bR,h1,d1⟩:=aK 1 _ rfl;cases dQ;cases bR;obtain⟨s,dQ,_,ay⟩:=DataW.trod_string (by kernel_rfl) ak;cases dQ;obtain⟨ej,h1,g1⟩:=G1 h1;exact⟨⟨s,ej⟩,⟨ay,c1,aw,h1⟩,fun ay=>by rw[he] at ay;exact⟨(g1 (ay.field rfl rfl rfl d1)).1⟩⟩) h
theorem aiz{r:Reach}{mi:Nat}{v:Value}{d:DataW H}{p:List MemPlace}(r1:Value.okWide Tryz.prog w r mi T.b v)(h:DataW.Trod enc Tryz.prog w 0 (fun _=>true) true T.b v d p)(ay:Small Tryz.prog T.b d) :
  ∃cs m,v = .agg cs.toArray/\o.dY w cs m/\m.cQ:=by
 obtain⟨cs,n,rfl,aO⟩:=aiC (t:=T.b) rfl r1 h;obtain⟨aS,jH,ds,rfl,aK⟩:=uc (t:=T.b) rfl (by kernel_rfl) (by kernel_rfl) aO;obtain⟨cs⟩:=cs
 match cs,aS with
 | [bP,c1,c2,bQ,bX],_ =>
  obtain⟨_,_,dQ,ak,d0⟩:=aK 0 _ rfl;obtain⟨_,_,bR,h1,d1⟩:=aK 1 _ rfl;obtain⟨_,_,aW,U,d2⟩:=aK 2 _ rfl;obtain⟨_,_,bJ,ag,d3⟩:=aK 3 _ rfl;obtain⟨_,_,bZ,aJ,d4⟩:=aK 4 _ rfl;cases dQ;cases bR;cases aW;cases bJ;cases bZ;obtain⟨eM,gz,mi⟩:=adA ak;obtain⟨ej,fi,bC⟩:=Tv h1;obtain⟨ev,fR,cp⟩:=adq U;obtain⟨ea,ix,b4⟩:=adx ag;obtain⟨ew,k7,cN⟩:=ady aJ;have gC:=mi (ay.field rfl rfl rfl d0);have cX:=bC (ay.field rfl rfl rfl d1);have c0:=cp (ay.field rfl rfl rfl d2);have gD:=b4 (ay.field rfl rfl rfl d3);have iK:=cN (ay.field rfl rfl rfl d4);exact⟨[bP,c1,c2,bQ,bX],⟨eM,ej,ev,ea,ew⟩,rfl,⟨⟨bP,c1,c2,bQ,bX,rfl,gz,fi,fR,ix,k7⟩⟩,⟨gC.1,cX.1,c0.1,gD.1,iK.1,gC.2,cX.2,c0.2,gD.2,iK.2⟩⟩
end Go.Proofs.R
end
section
namespace Go.Proofs.R
open Go Go.RowKit bt Go.ChangeShapes Go.WideShapes Go.Deep
theorem W2{H:Type}{enc:TypeId×Value->H}{w:World}{r:Reach}{mi:Nat}{v:Value}{d:DataW H}{p:List MemPlace}(r1:Value.okWide Tryz.prog w r mi T.s v)(h:DataW.Trod enc Tryz.prog w 0 (fun _=>true) true T.s v d p):∃q:Nat,v = .int .u8 q/\q<256:=by
 obtain⟨n,rfl,_,_,aE⟩:=open_int (k:=.u8) (by kernel_rfl) r1 h;have aE:0<=n/\n<256:=by simp[Lit.wf] at aE;have ak:IntKind.u8.min=0:=rfl;have h1:IntKind.u8.max=255:=rfl;omega
 obtain⟨q,rfl⟩:=Int.eq_ofNat_of_zero_le (show 0<=n by omega);exact⟨q,rfl,by omega⟩
theorem apQ{H:Type}{enc:TypeId×Value->H}{r:Reach}{mi:Nat}{d0 d1 d2 d3:DataW H}{gv eD fC fU:List MemPlace}(v0 v1 v2 v3:Value)(W:World)(ba:ht W)
  (gC:Value.okWide Tryz.prog W r mi T.b v0)(ak:DataW.Trod enc Tryz.prog W 0 (fun _=>true) true T.b v0 d0 gv)(jn:Small Tryz.prog T.b d0)
  (cX:Value.okWide Tryz.prog W r mi T.c v1)(h1:DataW.Trod enc Tryz.prog W 0 (fun _=>true) true T.c v1 d1 eD)(_s1:Small Tryz.prog T.c d1)
  (c0:Value.okWide Tryz.prog W r mi T.s v2)(U:DataW.Trod enc Tryz.prog W 0 (fun _=>true) true T.s v2 d2 fC)(_s2:Small Tryz.prog T.s d2)
  (gD:Value.okWide Tryz.prog W r mi T.s v3)(ag:DataW.Trod enc Tryz.prog W 0 (fun _=>true) true T.s v3 d3 fU)(_s3:Small Tryz.prog T.s d3) :
  bu Tryz.prog F.EU #[v0,v1,v2,v3] W fun v w'=>v = .bool true/\Ext W w':=by
 obtain⟨cs,m,rfl,hm,a1⟩:=aiz gC ak jn;obtain⟨s,ay⟩:=aiA cX h1;obtain⟨a,rfl,bj⟩:=W2 c0 U;obtain⟨b,rfl,aC⟩:=W2 gD ag;exact ahr cs v1 m s a b W hm a1 ba ay bj aC
end Go.Proofs.R
end
section
namespace bt
open Go Go.RowKit Go.ChangeShapes
theorem aoQ{P:Program}{f:FuncId}{fn:Func}{s:ChangeSpec}{c:OpenClaim}(h1:(c.wf (OpenSpec.ofChange s)&&laidOutB P&&mapsRowed P)=true)
  (U:(fn.params.all (P.readableRec ·)&&namedTie P c.named s.vars)=true)(ag:((c.stops == [])&&(P.stops == [])&&(c.knobs == [])&&(P.stopKnobs == []))=true)
  (aJ:(c.inPlace == P.inPlace f)=true)(bg:(c.unfollowed == P.unfollowed f)=true)(bS:(c.recurses == P.recurses f)=true)(cj:(c.named == P.varsNamed f)=true)
  (dB:((c.maps == (fn.params.toList++s.plain.varTypes P).any (P.mapsRec ·))&&(c.ifaces == (fn.params.toList++s.plain.varTypes P).any (P.ifacesRec ·))&&(c.mapsOut == P.mapsAmong fn.resultTypes.toList))=true)
  (iG:((c.loops == (fn.params.toList++s.plain.varTypes P).any (P.loopsFrom ·))&&(c.wideKeys == (fn.params.toList++s.plain.varTypes P++fn.resultTypes.toList).any (P.wideKeysFrom ·)))=true)
  (jW:(s.vars.all (P.varReadable ·)&&fn.resultTypes.all (fun t=>P.readableRec t&&decide (t<P.types.size))&&(c.ifacesOut == fn.resultTypes.toList.any (P.ifacesRec ·))&&(c.loopsOut == fn.resultTypes.toList.any (P.loopsFrom ·)))=true)
  (G2:(c.plainKeys == P.plainKeys)=true)(qH:(c.shortTexts.isNone&&P.stopsHeard)=true)(C0:P.mayEnter=true)
  (Ty:((c.lifted == P.liftsFinal)&&(P.make == some c.make))=true)
  (mv:((c.kinds == (if c.domain.isEmpty then [] else fn.params.toList.map fun t=>match P.underlying t with | some (.int k)=>some k | _=>none))&&(c.pinned == c.pinnedBy))=true)
  (na:((c.veiled == (fn.params.toList++s.plain.varTypes P++fn.resultTypes.toList).any (P.veiledRec ·))&&c.veiledFits P fn.params.toList (fn.params.toList++s.plain.varTypes P++fn.resultTypes.toList))=true) :
  joinedFacts P f fn s c=true:=by
 simp only[Bool.and_eq_true] at h1 U ag dB iG jW qH Ty mv na;unfold joinedFacts;simp only[Bool.and_eq_true];obtain⟨⟨dJ,a2⟩,a3⟩:=h1;obtain⟨bC,cp⟩:=U;obtain⟨⟨⟨d1,d2⟩,d3⟩,d4⟩:=ag;obtain⟨⟨bR,aW⟩,bJ⟩:=dB;obtain⟨f1,f2⟩:=iG;obtain⟨⟨⟨g1,g2⟩,g3⟩,g4⟩:=jW;obtain⟨i1,i2⟩:=qH;obtain⟨ni,pr⟩:=Ty;obtain⟨cX,c0⟩:=mv;obtain⟨ej,ev⟩:=na;exact⟨⟨⟨⟨⟨⟨⟨⟨⟨⟨⟨⟨⟨⟨⟨⟨⟨⟨⟨⟨⟨⟨⟨⟨⟨⟨⟨⟨⟨⟨⟨dJ,a2⟩,a3⟩,bC⟩,cp⟩,d1⟩,d2⟩,d3⟩,d4⟩,aJ⟩,bg⟩,bS⟩,cj⟩,bR⟩,aW⟩,bJ⟩,f1⟩,f2⟩,g1⟩,g2⟩,g3⟩,g4⟩,G2⟩,i1⟩,i2⟩,C0⟩,ni⟩,pr⟩,cX⟩,c0⟩,ej⟩,ev⟩
end bt
end