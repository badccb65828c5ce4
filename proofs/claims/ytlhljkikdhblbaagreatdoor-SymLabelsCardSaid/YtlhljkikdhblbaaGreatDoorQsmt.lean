/- Parts. -/
import Derived.Test.YtlhljkikdhblbaaGreatDoorQsms
import Derived.SizedLaws
import Derived.JoinedCond
set_option linter.all false
set_option maxRecDepth 8000
set_option maxHeartbeats 32000000
namespace ba
open Go Go.RowKit Go.ChangeShapes Go.WideShapes Go.Deep
section
variable{H:Type}{enc:TypeId×Value->H}{P:Program}{w:World}{base:Nat}{spare:Nat->Bool}{held:Bool}
def xi{t:F_}{b:Array Field}{n:Nat}{cs:C_ B_}{y:DataW H×C_ MemPlace}(k:P.underlying t=some (.struct b))(l:oneCellFields P b=true)(v:P.cellsOf t=b.size)
  (h:DataW.trod enc P w base spare held n t cs=some y):cs.length=b.size/\∃d g,y.1 = .agg g/\∀(a:Nat) (c:Field),b[a]? = some c->∃i j,cs[a]? = some i/\DataW.trod enc P w base spare held d c.type [i]=some j/\g[a]? = some j.1:=by
 obtain⟨ys,d,x,m,z,A,p⟩:=DataW.trod_struct k h;refine⟨AY,d,_,by rw[m],λa c e=>?_⟩;obtain⟨q,r⟩:=hone_of l a c e;have B:a<b.size:=(Array.getElem?_eq_some_iff.1 e).1;have s:cs[a]? = some (cs[a]' AY):=List.getElem?_eq_getElem AY;have f:=p a c e;rw[q,r] at f;have u:(cs.drop a).take 1=[cs[a]' AY]:=by
  rw[AG0 AY];rfl
 rw[u,List.getElem?_eq_getElem (l:=ys) AY] at f;exact⟨_,_,s,f,by rw[List.getElem?_map,List.getElem?_eq_getElem AY];rfl⟩
def nP{c:Array Field}{n:Nat}{cs:C_ B_}{ds:C_ (DataW H)}(d:∀(j:Nat) (f:Field),c[j]? = some f->∃b a,cs[j]? = some b/\DataW.trod enc P w base spare held n f.type [b]=some a/\ds[j]? = some a.1)(j:Nat){f:Field}(e:c[j]? = some f)
  (g:P.underlying f.type=some (.int .i64):=by kernel_rfl):∃a,cs[j]? = some (.I a)/\(Lit.int .i64 a).wf=true:=by
 obtain⟨b,a,h,i,_⟩:=d j f e;obtain⟨k,l,_,m⟩:=DataW.trod_int (k:=.i64) g i;cases l;exact⟨k,h,m⟩
def Small(P:D_)(t:F_)(d:DataW H):Prop := ∀a∈d.weights P t,a<=reachBytes
theorem Small.field{t a:F_}{b:Array Field}{ds:C_ (DataW H)}{j:Nat}{d:DataW H}{f:Field}(h:Small P t (.agg ds))(e:P.underlying t=some (.struct b))(g:b[j]? = some f)(i:f.type=a)(k:ds[j]? = some d):Small P a d:=by
 subst i;intro c l;refine h c ?_;simp only[DataW.weights,e];exact DataW.weights_mem_each (j:=j) (by simp[g]) k c l
def aaq{α:Type}{R:A_->Addr->α->Prop}{t e:F_}{v:B_}{n:Nat}{j:DataW H×C_ MemPlace}(sz:Nat)(k:P.underlying t=some (.slice e))(x:P.cellsOf e=sz)(y:0<P.bytesOf e)
  (z:∀(a:Addr) (d:C_ B_) (n:Nat) (A:DataW H×C_ MemPlace),fy w a d->d.length=sz->DataW.trod enc P w 0 (λ_=>true) true n e d=some A->∃f,R w a f)
  (h:DataW.trod enc P w 0 (λ_=>true) true n t [v]=some j):∃c,a6 sz R w v c/\(Small P t j.1->c.length<=140737488355328):=by
 rcases open_slice k h with ⟨b,_⟩ | ⟨a,len,cap,l,n,D,N,b,O,Q,hm,m,B,C⟩
 .simp at b;subst b;exact⟨[],a6.nil,λ_=>Ah⟩
 .simp at b;subst b;simp only[if_true] at m;subst m;obtain⟨c,p,G⟩:=Ul len (λg f=>R w (a.add (g*sz)) f) λg S=>by
   obtain⟨I,q,J⟩:=C g AY;rw[x] at q;obtain⟨_,r,K⟩:=World.cells?_some q;refine z _ I n _ (λs U u=>?_) r J;have L:s<sz:=r ▸ (List.getElem?_eq_some_iff.1 u).1;rw[<-u];exact K s L
  refine⟨c,⟨some a,_,by rw[p],AY,hm,λ_=>rfl,λV i=>by injection i with i;subst i;exact G⟩,λM=>?_⟩;have W:=M ((len+(l - len))*P.bytesOf e) (by rw[B];simp[DataW.weights,k]);have X:=reachBytes_lt;have Y:len<=(len+(l - len))*P.bytesOf e:=Ug (Nat.le_add_right len _) (Nat.le_mul_of_pos_right _ y);rw[p];omega
def ZS{r:Reach}{b:Nat}{t e:F_}{v:B_}{d:DataW H}{p:C_ MemPlace}(c:P.underlying t=some (.slice e))(f:Value.okWide P w r b t v)(h:DataW.Trod enc P w 0 (λ_=>true) true t v d p) :
  ∃a,DataW.trod enc P w 0 (λ_=>true) true a t [v]=some (d,p):=by
 obtain⟨i,j,k,rfl⟩:=okWide_slice c f;obtain⟨a,g⟩:=h;exact⟨a,g⟩
end
end ba
namespace Go.Proofs.R
open Go Go.RowKit ba Go.ChangeShapes
variable{H:Type}{enc:TypeId×Value->H}{w:World}{cs:List Value}{n:Nat}{y:DataW H×List MemPlace}{v:Value}
def nB{a:Int}(h:(Lit.int .i64 a).wf=true):o.ev a:=by
 simp only[Lit.wf,Bool.and_eq_true,decide_eq_true_eq] at h;exact⟨h.1,h.2⟩
theorem auD(h:DataW.trod enc Tryz.prog w 0 (λ_=>true) true n T.k cs=some y):∃a:o.Node,cs=a.enc/\a.ok:=by
 obtain⟨c,k,l,_,b⟩:=xi (t:=T.k) rfl Cl Cl h
 match cs,c with
 | [m,bg],_ =>
  obtain⟨d,e,f⟩:=nP b 0 rfl;obtain⟨g,i,j⟩:=nP b 1 rfl;cases e;cases i;exact⟨⟨d,g⟩,rfl,nB f,nB j⟩
end Go.Proofs.R
namespace Go.Proofs.R
open Go Go.RowKit ba Go.ChangeShapes
variable{H:Type}{enc:TypeId×Value->H}{w:World}{r:Reach}{fN:Nat}{v:Value}{d:DataW H}{p:List MemPlace}
def ae2{n:Nat}{y:DataW H×C_ MemPlace}(h:DataW.trod enc Tryz.prog w 0 (λ_=>true) true n T.b [v]=some y):∃a,pE w v a/\(Small Tryz.prog T.b y.1->a.length<=140737488355328) :=
 aaq (e:=T.a) 1 Cl Cl (by decide +kernel) (λg i n y b j c=>by
  obtain⟨d,e,_,f⟩:=DataW.trod_int (k:=.i64) Cl c;cases e;exact⟨d,b,nB f⟩) h
def axu{n:Nat}{y:DataW H×C_ MemPlace}(h:DataW.trod enc Tryz.prog w 0 (λ_=>true) true n T.d [v]=some y):∃a,vm w v a/\(Small Tryz.prog T.d y.1->a.length<=140737488355328) :=
 aaq (e:=T.b) 1 Cl Cl (by decide +kernel) (λi e n y f b g=>by
  match e,b with
  | [c],_ =>
   obtain⟨a,b,_⟩:=ae2 g;have d:=f 0 c rfl;rw[add_zero] at d;exact⟨a,c,d,b⟩) h
def open_ints(b:Value.okWide Tryz.prog w r fN T.b v)(h:DataW.Trod enc Tryz.prog w 0 (λ_=>true) true T.b v d p):∃a,pE w v a:=by
 obtain⟨f,c⟩:=ZS (e:=T.a) Cl b h;obtain⟨a,e,_⟩:=ae2 c;exact⟨a,e⟩
end Go.Proofs.R
namespace Go.Proofs.R
open Go Go.RowKit ba Go.ChangeShapes
variable{H:Type}{enc:TypeId×Value->H}{w:World}{r:Reach}{fN:Nat}{v:Value}{d:DataW H}{p:List MemPlace}
def agl(b:Value.okWide Tryz.prog w r fN T.b v)(h:DataW.Trod enc Tryz.prog w 0 (λ_=>true) true T.b v d p):∃a,a6 1 (Flat da) w v a:=by
 obtain⟨a,c⟩:=open_ints b h;obtain⟨e,f,g,i,j,k,l⟩:=c.ex;exact⟨a,e,f,g,i,j,k,λm n q s=>(l m n q s).1⟩
end Go.Proofs.R
namespace ba
open Go Go.RowKit Go.ChangeShapes Go.WideShapes Go.Deep
section
variable{H:Type}{enc:TypeId×Value->H}{P:Program}{w:World}{base:Nat}{spare:Nat->Bool}{held:Bool}
theorem ai7{e:F_}:∀{d:C_ (DataW H)} {b:DataW H},b∈d->∀c∈b.weights P e,c∈DataW.weightsAll P e d
 | [],_,a=>by cases a
 | g :: h,b,a=>λc f=>by
  simp only[DataW.weightsAll];rcases List.mem_cons.1 a with rfl | a
  .exact AI7 _ f
  .exact AJ0 _ (ai7 a c f)
def za{α:Type}{R:A_->Addr->α->Prop}{G:α->Prop}{t e:F_}{v:B_}{n:Nat}{m:DataW H×C_ MemPlace}(sz B:Nat)(i:P.underlying t=some (.slice e))(K:P.cellsOf e=sz)(L:P.bytesOf e=B)
  (M:∀(c:Addr) (j:C_ B_) (n:Nat) (p:DataW H×C_ MemPlace),fy w c j->j.length=sz->DataW.trod enc P w 0 (λ_=>true) true n e j=some p->∃a,R w c a/\(Small P e p.1->G a))
  (h:DataW.trod enc P w 0 (λ_=>true) true n t [v]=some m):∃d,a6 sz R w v d/\(Small P t m.1->o.eO d.length B/\∀a∈d,G a):=by
 rcases open_slice i h with ⟨f,_⟩ | ⟨c,len,cap,q,n,D,W,f,X,Y,hm,r,g,k⟩
 .simp at f;subst f;exact⟨[],a6.nil,λ_=>⟨by simp[o.eO],λa g=>by cases g⟩⟩
 .simp at f;subst f;simp only[if_true] at r;subst r;obtain⟨d,s,u⟩:=Ul len (λb a=>R w (c.add (b*sz)) a/\(Small P e (D b)->G a)) λb x=>by
   obtain⟨N,y,O⟩:=k b AY;rw[K] at y;obtain⟨_,z,Q⟩:=World.cells?_some y;refine M _ N n _ (λA Z C=>?_) z O;have S:A<sz:=z ▸ (List.getElem?_eq_some_iff.1 C).1;rw[<-C];exact Q A S
  refine⟨d,⟨some c,_,by rw[s],AY,hm,λ_=>rfl,λab l b k=>by injection l with l;subst l;exact(u b k).1⟩,λI=>⟨?_,λa U=>?_⟩⟩
  .have ae:=I ((len+(q - len))*P.bytesOf e) (by rw[g];simp[DataW.weights,i]);have af:len*B<=(len+(q - len))*P.bytesOf e:=by rw[L];exact AJ2 _ AY
   have ag:reachBytes=140737488351232:=rfl;unfold o.eO;rw[s];omega
  .obtain⟨b,x,rfl⟩:=List.mem_iff_getElem.1 U;refine(u b x).2 λJ V=>I J ?_;rw[g];simp only[DataW.weights,i];refine AG4 _ (AI7 _ (ai7 ?_ J V));exact List.mem_map.2 ⟨b,by simp;omega,rfl⟩
def au7{r:Reach}{b:Nat}{t:F_}{c:Array Field}{v:B_}{d:DataW H}{p:C_ MemPlace}(e:P.underlying t=some (.struct c))
  (f:Value.okWide P w r b t v)(h:DataW.Trod enc P w base spare held t v d p):∃a g,v = .agg a/\DataW.trod enc P w base spare held g t a.toList=some (d,p):=by
 obtain⟨a,rfl,k⟩:=okWide_struct e f;obtain⟨i,j⟩:=h;exact⟨a,i,rfl,j⟩
end
end ba
namespace Go.Proofs.R
open Go Go.RowKit ba Go.ChangeShapes o
variable{H:Type}{enc:TypeId×Value->H}{w:World}{cs:List Value}{n:Nat}{y:DataW H×List MemPlace}{v:Value}
theorem aot(h:DataW.trod enc Tryz.prog w 0 (λ_=>true) true n T.y cs=some y):∃a:o.Scalar,cs=a.enc/\kl a.name/\a.cB:=by
 obtain⟨d,l,m,_,c⟩:=xi (t:=T.y) rfl Cl Cl h
 match cs,d with
 | [p,bg],_ =>
  obtain⟨_,_,b,e,_⟩:=c 0 _ rfl;cases b;obtain⟨f,b,_,g⟩:=DataW.trod_string Cl e;obtain⟨i,j,k⟩:=nP c 1 rfl;cases b;cases j;exact⟨⟨f,i⟩,rfl,g,⟨nB k⟩⟩
theorem aov(h:DataW.trod enc Tryz.prog w 0 (λ_=>true) true n T.j cs=some y):∃b:o.Var,cs=b.enc/\kl b.name/\b.cB:=by
 obtain⟨d,B,C,_,a⟩:=xi (t:=T.j) rfl Cl Cl h
 match cs,d with
 | [G,bg,bj,H,I,J],_ =>
  obtain⟨_,_,c,e,_⟩:=a 0 _ rfl;cases c;obtain⟨f,c,_,g⟩:=DataW.trod_string Cl e;obtain⟨i,j,k⟩:=nP a 1 rfl;obtain⟨l,m,p⟩:=nP a 2 rfl;obtain⟨q,r,s⟩:=nP a 3 rfl;obtain⟨t,u,v⟩:=nP a 4 rfl;obtain⟨x,z,A⟩:=nP a 5 rfl;cases c;cases j;cases m;cases r;cases u;cases z;exact⟨⟨f,i,l,q,t,x⟩,rfl,g,⟨nB k,nB p,nB s,nB v,nB A⟩⟩
theorem aoi(h:DataW.trod enc Tryz.prog w 0 (λ_=>true) true n T.r cs=some y):∃b:eb,cs=b.enc/\kl b.name/\b.cB:=by
 obtain⟨e,B,C,_,a⟩:=xi (t:=T.r) rfl Cl Cl h
 match cs,e with
 | [G,bg,bj,H,I,J],_ =>
  obtain⟨_,_,c,f,_⟩:=a 0 _ rfl;obtain⟨_,_,d,g,_⟩:=a 5 _ rfl;cases c;cases d;obtain⟨i,c,_,j⟩:=DataW.trod_string Cl f;obtain⟨k,l,m⟩:=nP a 1 rfl;obtain⟨p,q,r⟩:=nP a 2 rfl;obtain⟨s,t,u⟩:=nP a 3 rfl;obtain⟨v,x,z⟩:=nP a 4 rfl;obtain⟨A,d,_⟩:=DataW.trod_bool Cl g;cases c;cases l;cases q;cases t;cases x;cases d;exact⟨⟨i,k,p,s,v,A⟩,rfl,j,⟨nB m,nB r,nB u,nB z⟩⟩
def K3(h:DataW.trod enc Tryz.prog w 0 (λ_=>true) true n T.nJ [v]=some y):∃a,fJ w v a/\(Small Tryz.prog T.nJ y.1->eO a.length 16/\∀b∈a,True) :=
 za (G:=λ_=>True) (e:=T.k) 2 16 Cl Cl Cl (λf cs n y c g d=>by obtain⟨b,rfl,e⟩:=auD d;exact⟨b,⟨c,e⟩,λ_=>trivial⟩) h
def aou(h:DataW.trod enc Tryz.prog w 0 (λ_=>true) true n T.sV [v]=some y):∃a,hI w v a/\(Small Tryz.prog T.sV y.1->eO a.length 24/\∀b∈a,b.cB) :=
 za (e:=T.y) 2 24 Cl Cl Cl (λg cs n y c i d=>by obtain⟨b,rfl,e,f⟩:=aot d;exact⟨b,⟨c,e⟩,λ_=>f⟩) h
def ab5(h:DataW.trod enc Tryz.prog w 0 (λ_=>true) true n T.tU [v]=some y):∃a,j1 w v a/\(Small Tryz.prog T.tU y.1->eO a.length 56/\∀b∈a,b.cB) :=
 za (e:=T.j) 6 56 Cl Cl Cl (λg cs n y c i d=>by obtain⟨b,rfl,e,f⟩:=aov d;exact⟨b,⟨c,e⟩,λ_=>f⟩) h
def aoj(h:DataW.trod enc Tryz.prog w 0 (λ_=>true) true n T.sW [v]=some y):∃a,oc w v a/\(Small Tryz.prog T.sW y.1->eO a.length 56/\∀b∈a,b.cB) :=
 za (e:=T.r) 6 56 Cl Cl Cl (λg cs n y c i d=>by obtain⟨b,rfl,e,f⟩:=aoi d;exact⟨b,⟨c,e⟩,λ_=>f⟩) h
theorem aog{a:Addr}(g:fy w a cs)(h:DataW.trod enc Tryz.prog w 0 (λ_=>true) true n T.w cs=some y):∃f:o.Act,AD w a f/\(Small Tryz.prog T.w y.1->f.cB):=by
 obtain⟨i,K,L,j,b⟩:=xi (t:=T.w) rfl Cl Cl h
 match cs,i with
 | [M,bg,bj,k,l],_ =>
  obtain⟨_,_,m,c,p⟩:=b 3 _ rfl;obtain⟨_,_,q,d,r⟩:=b 4 _ rfl;cases m;cases q;obtain⟨s,t,u⟩:=nP b 0 rfl;obtain⟨v,x,z⟩:=nP b 1 rfl;obtain⟨A,B,C⟩:=nP b 2 rfl;cases t;cases x;cases B;obtain⟨G,c,H⟩:=K3 c;obtain⟨I,d,J⟩:=K3 d;exact⟨⟨s,v,A,G,I⟩,⟨k,l,g,c,d⟩,λe=>by
   rw[j] at e;exact⟨nB u,nB z,nB C,(H (e.field rfl rfl rfl p)).1,(J (e.field rfl rfl rfl r)).1⟩⟩
def aoh(h:DataW.trod enc Tryz.prog w 0 (λ_=>true) true n T.oZ [v]=some y):∃a,ob w v a/\(Small Tryz.prog T.oZ y.1->eO a.length 72/\∀b∈a,b.cB) :=
 za (e:=T.w) 5 72 Cl Cl Cl (λe cs n y c f d=>aog c d) h
theorem aok(h:DataW.trod enc Tryz.prog w 0 (λ_=>true) true n T.q cs=some y):∃g:ew,CK w cs g/\(Small Tryz.prog T.q y.1->g.cB):=by
 obtain⟨k,L,M,l,a⟩:=xi (t:=T.q) rfl Cl Cl h
 match cs,k with
 | [N,bg,bj,m,p,O],_ =>
  obtain⟨_,_,c,q,_⟩:=a 0 _ rfl;obtain⟨_,_,r,d,s⟩:=a 3 _ rfl;obtain⟨_,_,t,e,i⟩:=a 4 _ rfl;obtain⟨_,_,f,u,_⟩:=a 5 _ rfl;cases c;cases r;cases t;cases f;obtain⟨v,c,_,b⟩:=DataW.trod_string Cl q;obtain⟨x,z,A⟩:=nP a 1 rfl;obtain⟨B,C,G⟩:=nP a 2 rfl;obtain⟨H,f,_⟩:=DataW.trod_bool Cl u;cases c;cases z;cases C;cases f;obtain⟨I,d,J⟩:=K3 d;obtain⟨K,e,j⟩:=aoh e;exact⟨⟨v,x,B,I,K,H⟩,⟨b,m,p,rfl,d,e⟩,λb=>by
   rw[l] at b;exact⟨nB A,nB G,(J (b.field rfl rfl rfl s)).1,(j (b.field rfl rfl rfl i)).1,(j (b.field rfl rfl rfl i)).2⟩⟩
def aol(h:DataW.trod enc Tryz.prog w 0 (λ_=>true) true n T.Qq [v]=some y):∃a,sM w v a/\(Small Tryz.prog T.Qq y.1->eO a.length 88/\∀b∈a,b.cB) :=
 za (e:=T.q) 6 88 Cl Cl Cl (λl cs n y c m d=>by
  obtain⟨b,⟨e,f,g,rfl,i,j⟩,k⟩:=aok d;exact⟨b,⟨e,f,g,c,i,j⟩,k⟩) h
theorem aop(h:DataW.trod enc Tryz.prog w 0 (λ_=>true) true n T.af cs=some y):∃f:ed,yP w cs f/\(Small Tryz.prog T.af y.1->f.cB):=by
 obtain⟨l,I,J,m,b⟩:=xi (t:=T.af) rfl Cl Cl h
 match cs,l with
 | [K,bg,bj,p,q],_ =>
  obtain⟨_,_,c,r,_⟩:=b 0 _ rfl;obtain⟨_,_,s,d,g⟩:=b 3 _ rfl;obtain⟨_,_,t,e,i⟩:=b 4 _ rfl;cases c;cases s;cases t;obtain⟨u,c,_,a⟩:=DataW.trod_string Cl r;obtain⟨v,x,z⟩:=nP b 1 rfl;obtain⟨A,B,C⟩:=nP b 2 rfl;cases c;cases x;cases B;obtain⟨G,d,j⟩:=ab5 d;obtain⟨H,e,k⟩:=aol e;exact⟨⟨u,v,A,G,H⟩,⟨a,p,q,rfl,d,e⟩,λa=>by
   rw[m] at a;exact⟨nB z,nB C,(j (a.field rfl rfl rfl g)).1,(k (a.field rfl rfl rfl i)).1,(j (a.field rfl rfl rfl g)).2,(k (a.field rfl rfl rfl i)).2⟩⟩
def aoq(h:DataW.trod enc Tryz.prog w 0 (λ_=>true) true n T.am [v]=some y):∃a,sP w v a/\(Small Tryz.prog T.am y.1->eO a.length 80/\∀b∈a,b.cB) :=
 za (e:=T.af) 5 80 Cl Cl Cl (λl cs n y c m d=>by
  obtain⟨b,⟨e,f,g,rfl,i,j⟩,k⟩:=aop d;exact⟨b,⟨e,f,g,c,i,j⟩,k⟩) h
def aor(h:DataW.trod enc Tryz.prog w 0 (λ_=>true) true n T.ZN [v]=some y):∃b,CT w v b/\(Small Tryz.prog T.ZN y.1->eO b.length 40/\∀g∈b,g.cB) :=
 za (e:=T.w4) 2 40 Cl Cl Cl (λt cs n y i e j=>by
  obtain⟨e,u,x,k,f⟩:=xi (t:=T.w4) rfl Cl Cl j
  match cs,e with
  | [z,bg],_ =>
   obtain⟨_,_,c,l,_⟩:=f 0 _ rfl;obtain⟨_,_,m,d,p⟩:=f 1 _ rfl;cases c;cases m;obtain⟨q,c,_,a⟩:=DataW.trod_string Cl l;cases c;obtain⟨r,d,s⟩:=K3 d;exact⟨⟨q,r⟩,⟨a,bg,i,d⟩,λa=>by rw[k] at a;exact⟨(s (a.field rfl rfl rfl p)).1⟩⟩) h
theorem agk{r:Reach}{c:Nat}{v:B_}{d:DataW H}{p:C_ MemPlace}(s:Value.okWide Tryz.prog w r c T.e v)(h:DataW.Trod enc Tryz.prog w 0 (λ_=>true) true T.e v d p)(a:Small Tryz.prog T.e d) :
  ∃cs e,v = .agg cs.toArray/\dU w cs e/\e.cB:=by
 obtain⟨cs,n,rfl,t⟩:=au7 (t:=T.e) rfl s h;obtain⟨u,aj,ak,rfl,b⟩:=xi (t:=T.e) rfl Cl Cl t;obtain⟨cs⟩:=cs
 match cs,u with
 | [f,bg,bj,g,i],_ =>
  obtain⟨_,_,x,y,z⟩:=b 0 _ rfl;obtain⟨_,_,A,B,C⟩:=b 1 _ rfl;obtain⟨_,_,G,I,J⟩:=b 2 _ rfl;obtain⟨_,_,K,L,M⟩:=b 3 _ rfl;obtain⟨_,_,N,O,P⟩:=b 4 _ rfl;cases x;cases A;cases G;cases K;cases N;obtain⟨Q,S,c⟩:=aou y;obtain⟨U,V,W⟩:=ab5 B;obtain⟨X,Y,Z⟩:=aoj I;obtain⟨ab,ae,af⟩:=aoq L;obtain⟨ag,ah,ai⟩:=aor O;have j:=c (a.field rfl rfl rfl z);have k:=W (a.field rfl rfl rfl C);have l:=Z (a.field rfl rfl rfl J);have m:=af (a.field rfl rfl rfl M);have q:=ai (a.field rfl rfl rfl P);exact⟨[f,bg,bj,g,i],⟨Q,U,X,ab,ag⟩,rfl,⟨⟨f,bg,bj,g,i,rfl,S,V,Y,ae,ah⟩⟩,⟨j.1,k.1,l.1,m.1,q.1,j.2,k.2,l.2,m.2,q.2⟩⟩
end Go.Proofs.R
namespace Go.Proofs.R
open Go Go.RowKit ba Go.ChangeShapes Go.WideShapes Go.Deep
def agm{g:Type}{enc:F_×B_->g}{w:A_}{r:Reach}{i:Nat}{v:B_}{d:DataW g}{p:C_ MemPlace}(j:Value.okWide Tryz.prog w r i T.d v)(h:DataW.Trod enc Tryz.prog w 0 (λ_=>true) true T.d v d p):∃a,gS w v a:=by
 obtain⟨L,k⟩:=ZS (e:=T.b) Cl j h;obtain⟨a,l,_⟩:=axu k;obtain⟨m,n,q,s,t,u,x⟩:=l.ex;refine⟨a,m,n,q,s,t,u,λb c e f=>?_⟩;obtain⟨y,z,A⟩:=x b c e f;obtain⟨B,C,G,H,I,J,K⟩:=A.ex;exact⟨y,z,B,C,G,H,I,J,λb c e f=>(K b c e f).1⟩
def aC9{f:Type}{enc:F_×B_->f}{r:Reach}{d:Nat}{g h i:DataW f}{j k l:C_ MemPlace}(e b c:B_)(a:A_)(m:gi a)
  (n:Value.okWide Tryz.prog a r d T.e e)(p:DataW.Trod enc Tryz.prog a 0 (λ_=>true) true T.e e g j)(q:Small Tryz.prog T.e g)
  (s:Value.okWide Tryz.prog a r d T.d b)(t:DataW.Trod enc Tryz.prog a 0 (λ_=>true) true T.d b h k)(J:Small Tryz.prog T.d h)
  (u:Value.okWide Tryz.prog a r d T.b c)(v:DataW.Trod enc Tryz.prog a 0 (λ_=>true) true T.b c i l)(K:Small Tryz.prog T.b i) :
  EL F.HY #[e,b,c] a λw x=>w = .bool true/\Ext a x:=by
 obtain⟨y,z,rfl,A,B⟩:=agk n p q;obtain⟨C,G⟩:=agm s t;obtain⟨H,I⟩:=agl u v;exact atr y b c z C H a A B m G I
def aC8{f:Type}{enc:F_×B_->f}{r:Reach}{d:Nat}{g h i:DataW f}{j k l:C_ MemPlace}(e b c:B_)(a:A_)(m:gi a)
  (n:Value.okWide Tryz.prog a r d T.e e)(p:DataW.Trod enc Tryz.prog a 0 (λ_=>true) true T.e e g j)(q:Small Tryz.prog T.e g)
  (s:Value.okWide Tryz.prog a r d T.d b)(t:DataW.Trod enc Tryz.prog a 0 (λ_=>true) true T.d b h k)(J:Small Tryz.prog T.d h)
  (u:Value.okWide Tryz.prog a r d T.b c)(v:DataW.Trod enc Tryz.prog a 0 (λ_=>true) true T.b c i l)(K:Small Tryz.prog T.b i) :
  EL F.HX #[e,b,c] a λw x=>w = .bool true/\Ext a x:=by
 obtain⟨y,z,rfl,A,B⟩:=agk n p q;obtain⟨C,G⟩:=agm s t;obtain⟨H,I⟩:=agl u v;exact atq y b c z C H a A B m G I
end Go.Proofs.R
namespace ba
open Go Go.RowKit Go.ChangeShapes
def aCd{P:D_}{f:E_}{a:Func}{s:ChangeSpec}{c:OpenClaim}(d:(c.wf (OpenSpec.ofChange s)&&laidOutB P&&mapsRowed P)=true)
  (e:(a.params.all (P.readableRec ·)&&namedTie P c.named s.vars)=true)(g:((c.stops == [])&&(P.stops == [])&&(c.knobs == [])&&(P.stopKnobs == []))=true)
  (p:(c.inPlace == P.inPlace f)=true)(q:(c.unfollowed == P.unfollowed f)=true)(r:(c.recurses == P.recurses f)=true)(t:(c.named == P.varsNamed f)=true)
  (h:((c.maps == (a.params.toList++s.plain.varTypes P).any (P.mapsRec ·))&&(c.ifaces == (a.params.toList++s.plain.varTypes P).any (P.ifacesRec ·))&&(c.mapsOut == P.mapsAmong a.resultTypes.toList))=true)
  (i:((c.loops == (a.params.toList++s.plain.varTypes P).any (P.loopsFrom ·))&&(c.wideKeys == (a.params.toList++s.plain.varTypes P++a.resultTypes.toList).any (P.wideKeysFrom ·)))=true)
  (j:(s.vars.all (P.varReadable ·)&&a.resultTypes.all (λb=>P.readableRec b&&decide (b<P.types.size))&&(c.ifacesOut == a.resultTypes.toList.any (P.ifacesRec ·))&&(c.loopsOut == a.resultTypes.toList.any (P.loopsFrom ·)))=true)
  (u:(c.plainKeys == P.plainKeys)=true)(k:(c.shortTexts.isNone&&P.stopsHeard)=true)(v:P.mayEnter=true)
  (l:((c.lifted == P.liftsFinal)&&(P.make == some c.make))=true)
  (m:((c.kinds == (if c.domain.isEmpty then [] else a.params.toList.map λb=>match P.underlying b with | some (.int w)=>some w | _=>none))&&(c.pinned == c.pinnedBy))=true)
  (n:((c.veiled == (a.params.toList++s.plain.varTypes P++a.resultTypes.toList).any (P.veiledRec ·))&&c.veiledFits P a.params.toList (a.params.toList++s.plain.varTypes P++a.resultTypes.toList))=true) :
  joinedFacts P f a s c=true:=by
 simp only[Bool.and_eq_true] at d e g h i j k l m n;unfold joinedFacts;simp only[Bool.and_eq_true];obtain⟨⟨x,y⟩,z⟩:=d;obtain⟨A,B⟩:=e;obtain⟨⟨⟨C,G⟩,H⟩,I⟩:=g;obtain⟨⟨J,K⟩,L⟩:=h;obtain⟨M,N⟩:=i;obtain⟨⟨⟨O,Q⟩,S⟩,U⟩:=j;obtain⟨i1,i2⟩:=k;obtain⟨V,W⟩:=l;obtain⟨X,Y⟩:=m;obtain⟨Z,ab⟩:=n;exact⟨⟨⟨⟨⟨⟨⟨⟨⟨⟨⟨⟨⟨⟨⟨⟨⟨⟨⟨⟨⟨⟨⟨⟨⟨⟨⟨⟨⟨⟨⟨x,y⟩,z⟩,A⟩,B⟩,C⟩,G⟩,H⟩,I⟩,p⟩,q⟩,r⟩,t⟩,J⟩,K⟩,L⟩,M⟩,N⟩,O⟩,Q⟩,S⟩,U⟩,u⟩,i1⟩,i2⟩,v⟩,V⟩,W⟩,X⟩,Y⟩,Z⟩,ab⟩
end ba