/- Parts. -/
import Derived.Test.YtlhljkikdhblbaaGreatDoorQsmg
import Derived.RangeFuncWrites
set_option linter.all false
set_option maxRecDepth 100000
set_option maxHeartbeats 16000000
namespace Go.Proofs.R
open Go Go.RowKit ba o
def A3{fR:Int}{a:Nat->ByteArray}{mo:Nat->Int}{i:Nat}(h:fR<=i):o.err fR a mo i=11:=by rw[o.err,if_pos h]
def Dn{fR:Int}{a:Nat->ByteArray}{mo:Nat->Int}{i:Nat}(h:¬fR<=i)(b:o.isName (a i)=false):o.err fR a mo i=6:=by rw[o.err,if_neg h,if_pos b]
def Rl{fR:Int}{a:Nat->ByteArray}{mo:Nat->Int}{i j:Nat}(h:¬fR<=i)(b:o.isName (a i)=true)(c:j<i)(d:a j=a i):o.err fR a mo i=7:=by
 rw[o.err,if_neg h,if_neg (by simp[b]),if_pos ⟨j,c,d⟩]
def Rk{fR:Int}{a:Nat->ByteArray}{mo:Nat->Int}{i:Nat}(h:¬fR<=i)(c:o.isName (a i)=true)(d:∀b,b<i->a b≠a i):o.err fR a mo i=mo i:=by
 rw[o.err,if_neg h,if_neg (by simp[c]),if_neg (λ⟨b,e,c⟩=>d b e c)]
def afN{fR:Int}{b:Nat->ByteArray}{mo:Nat->Int}{i:Nat}(d:0<=fR)(h:∀a,a<i->o.err fR b mo a=0):(i:Int)<=fR:=by
 by_cases c:(i:Int)<=fR
 .exact c
 .have:=h fR.toNat AY
  rw[A3 AY] at this;cases this
def awY(v:B_)(l:C_ o.Scalar)(w:A_)(s:hI w v l) :
  EL F.Nb #[v] w λv m=>v = .tuple #[.I (o.scalars l).1,.I (o.scalars l).2]/\Ext w m:=by
 obtain⟨Y,Z,rfl,ab⟩:=s.form;refine bn E.Nb ?_;simp -dsimp only[c7,cD,Nat.reduceAdd,Nat.reduceEqDiff,reduceIte,reduceCtorEq,dt];refine Z_ (λn m => ∃c:Nat,c<=l.length/\n 4 = .I c/\(∀e,e<c->o.err 2 (o.nameAt (·.name) l) (u6 l) e=0)/\Ext w m)
  (λn _=>(l.length - intOf (n 4)).toNat) ⟨0,AY,by simp -dsimp only[c7,cD,Nat.reduceAdd,Nat.reduceEqDiff,reduceIte,reduceCtorEq,dt];rfl,λ_ z=>absurd z (Od _),Ext.refl _⟩ ?_
 rintro n m I ⟨c,ae,b,i,p⟩;have a:=I 0 rfl;simp only[bR,Nat.reduceAdd,Nat.reduceEqDiff,reduceIte,kF,ox] at a;clear I;have af:=afN AY i;refine cg (i_ a b) ?_;apply I_<;>intro ag;rotate_left
 .refine cg (i_ a b) ?_;rw[o.scalars,qt (λe A=>i e AY)];exact⟨rfl,p⟩
 have f:c<l.length:=AY
 obtain⟨ah,rfl⟩:=s.addr;have j:=a6.ext jG.ext p s;have B:=(j.at c f).cells 0 _ rfl;have t:=(j.at c f).cells 1 _ rfl;have P:kl l[c].name:=(j.at c f).ok;have u:o.nameAt (λk:o.Scalar=>k.name) l c=l[c].name:=tA _ _ _ f;refine cg (i_ a b) ?_;apply I_<;>intro ai
 .refine cg (i_ a b) ?_;rw[o.scalars,j9 f i (by rw[A3 AY];decide),A3 AY];exact⟨rfl,p⟩
 have x:¬(2:Int)<=(c:Int):=AY
 refine cg (i_ a b) ?_;refine M_ c rfl f ?_;refine cg (i_ a b) ?_;refine L_ B ?_;refine cg (i_ a b) ?_;refine J_ (EE _ _ P) ?_;rintro _ aj ⟨rfl,y⟩;refine cg (i_ a b) ?_;refine N_ (λr=>?_) (λr=>?_);rotate_left
 .refine cg (i_ a b) ?_;rw[<-u] at r;rw[o.scalars,j9 f i (by rw[Dn x r];decide),Dn x r];exact⟨rfl,p.trans y⟩
 have C:=r;rw[<-u] at C;replace y:=p.trans y;clear p j;refine cg (i_ a b) ?_;refine Z_ (λQ m => ∃g:Nat,g<=c/\Q 5 = .I g/\(∀e,e<g->o.nameAt (λk:o.Scalar=>k.name) l e≠o.nameAt (λk:o.Scalar=>k.name) l c)/\Ext w m)
  (λn _=>(c - intOf (n 5)).toNat) ⟨0,AY,by simp -dsimp only[c7,cD,Nat.reduceAdd,Nat.reduceEqDiff,reduceIte,reduceCtorEq,dt];rfl,λ_ z=>absurd z (Od _),y⟩ ?_
 rintro ak al G ⟨g,an,d,J,q⟩;have S:=a;have K:=b;have a:=G 0 rfl;have b:=G 4 rfl;simp only[bR,Nat.reduceAdd,Nat.reduceEqDiff,reduceIte,kF,ox] at a b;clear G;rw[S] at a;rw[K] at b;have j:=a6.ext jG.ext q s;have B:=(j.at c f).cells 0 _ rfl;have t:=(j.at c f).cells 1 _ rfl;refine cg (i_ a (i_ b d)) ?_;apply I_<;>intro ao
 .have H:g<l.length:=AY
  have U:=(j.at g H).cells 0 _ rfl;have L:o.nameAt (λk:o.Scalar=>k.name) l g=l[g].name:=tA _ _ _ H;refine cg (i_ a (i_ b d)) ?_;refine M_ g rfl H ?_;refine cg (i_ a (i_ b d)) ?_;refine L_ U ?_;refine cg (i_ a (i_ b d)) ?_;refine M_ c rfl f ?_;refine cg (i_ a (i_ b d)) ?_;refine L_ B ?_;refine cg (i_ a (i_ b d)) ?_;intro aq M;apply I_<;>intro N
  .refine cg (i_ a (i_ b d)) ?_;have O:=Rl (mo:=u6 l) x C (show g<c by omega) (by rw[L,u];exact N);rw[o.scalars,j9 f i (by rw[O];decide),O];exact⟨rfl,q.trans M⟩
  .refine cg (i_ a (i_ b d)) ?_;refine Q_ AY ?_;refine cg (i_ a (i_ b d)) ?_;refine⟨⟨g+1,AY,rfl,λe A=>?_,q.trans M⟩,by simp[intOf];omega⟩;by_cases V:e<g
   .exact J e V
   .have:e=g:=AY
    subst this;rw[L,u];exact N
 have h:=Rk (mo:=u6 l) x C (λe A=>J e AY);have W:u6 l c=if 1<=l[c].size/\l[c].size<=4 then 0 else 10:=by simp[u6,f]
 rw[W] at h;generalize l[c].size=ar at t h;refine cg (i_ a (i_ b d)) ?_;refine M_ c rfl f ?_;refine cg (i_ a (i_ b d)) ?_;refine L_ t ?_;refine cg (i_ a (i_ b d)) ?_;apply I_<;>intro au
 .refine cg (i_ a (i_ b d)) ?_;rw[if_neg AY] at h;rw[o.scalars,j9 f i (by rw[h];decide),h];exact⟨rfl,q⟩
 refine cg (i_ a (i_ b d)) ?_;refine M_ c rfl f ?_;refine cg (i_ a (i_ b d)) ?_;refine L_ t ?_;refine cg (i_ a (i_ b d)) ?_;apply I_<;>intro av
 .refine cg (i_ a (i_ b d)) ?_;rw[if_neg AY] at h;rw[o.scalars,j9 f i (by rw[h];decide),h];exact⟨rfl,q⟩
 .refine cg (i_ a (i_ b d)) ?_;rw[if_pos AY] at h;refine Q_ AY ?_;refine cg (i_ a (i_ b d)) ?_;refine⟨⟨c+1,AY,rfl,λe A=>?_,q⟩,by simp[intOf,K];omega⟩;by_cases X:e<c
  .exact i e X
  .have:e=c:=AY
   subst this;exact h
def aik(a b:Int)(w:A_):EL F.HQ #[.I a,.I b] w λc d=>c = .bool (o.narrow a b)/\d=w:=by
 refine bn E.HQ ?_
 (repeat' first
  | (refine I_ (λ_=>?_) (λ_=>?_)<;>try (exfalso;omega))
  | (refine N_ (λ_=>?_) (λ_=>?_))
  | (refine Q_ AY ?_)
  | (refine L_ Aq ?_)
  | (refine _b AY ?_)
  | simp -dsimp only[c7,cD,Nat.reduceAdd,Nat.reduceEqDiff,reduceIte,reduceCtorEq,dt])
 all_goals (refine⟨?_,by first | rfl | trivial⟩;congr 1;rw[AH3];simp[o.narrow];omega)
def Pc(v:o.Var)(s:C_ o.Scalar):Int :=
 if (v.scalar≠0/\o.size v.scalar s=0)\/(v.over≠0/\o.size v.over s=0) then 8
 else if v.scalar=0/\(o.narrow v.aQ v.ab=false\/v.init<v.aQ\/v.init > v.ab) then 10
 else if v.scalar≠0/\(v.init<0\/v.init > o.size v.scalar s) then 10 else 0
def ayZ(l:C_ o.Var)(s:C_ o.Scalar)(i:Nat)(h:i<l.length):qX l s i=Pc l[i] s:=by
 rw[qX,List.getElem?_eq_getElem h];simp only[Pc,o.there,o.bounds,decide_eq_false_iff_not];by_cases b:l[i].scalar=0
 .simp only[b,if_true];by_cases a:l[i].over=0
  .simp[a]
  .simp[a]
 .simp only[b,if_false];by_cases a:l[i].over=0
  .simp[b,a]
  .simp[b,a]
def aw0(x:o.Var)(v:B_)(l:C_ o.Scalar)(w:A_)(f:hI w v l) :
  EL F.Nd #[.agg x.enc.toArray,v] w λv b=>v = .I (Pc x l)/\Ext w b:=by
 obtain⟨m,n,rfl,s⟩:=f.form;refine bn E.Nd ?_;simp -dsimp only[c7,cD,Nat.reduceAdd,Nat.reduceEqDiff,reduceIte,reduceCtorEq,dt];refine O_ λa c t g d=>?_;have h:=a6.ext jG.ext g f;have bg:a.cell? (Addr.add ⟨c,0,none⟩ 1)=some (.I x.scalar):=gH d rfl;have bj:a.cell? (Addr.add ⟨c,0,none⟩ 2)=some (.I x.over):=gH d rfl;have u:a.cell? (Addr.add ⟨c,0,none⟩ 3)=some (.I x.aQ):=gH d rfl;have y:a.cell? (Addr.add ⟨c,0,none⟩ 4)=some (.I x.ab):=gH d rfl;have z:a.cell? (Addr.add ⟨c,0,none⟩ 5)=some (.I x.init):=gH d rfl;have p:∀e b,Ext a b->EL F.HP #[.slice m l.length n,.I e] b λq i=>q = .I (o.size e l)/\Ext b i:=λe b r =>
  (EB e _ l b (a6.ext jG.ext r h)).mono λv i j=>⟨j.1,j.2 ▸ Ext.refl _⟩
 (repeat' first
  | (refine I_ (λ_=>?_) (λ_=>?_)<;>try (exfalso;omega))
  | (refine N_ (λ_=>?_) (λ_=>?_))
  | (refine L_ Aq ?_)
  | (refine J_ (EB _ _ l _ h) ?_;rintro _ a ⟨rfl,rfl⟩)
  | (refine J_ (aik _ _ _) ?_;rintro _ a ⟨rfl,rfl⟩)
  | (refine P_ _ (p _) ?_)
  | simp -dsimp only[c7,cD,Nat.reduceAdd,Nat.reduceEqDiff,reduceIte,reduceCtorEq,dt]
  | (intro A k;replace k:=g.trans k))
 all_goals (refine⟨?_,Aq⟩;congr 1;unfold Pc;simp only[o.narrow,decide_eq_false_iff_not])
 all_goals (repeat' split)
 all_goals first | rfl | (exfalso;omega)
def ahh(v M:B_)(l:C_ o.Var)(s:C_ o.Scalar)(fR:Int)(w:A_)(z:j1 w v l)(W:hI w M s) :
  EL F.Nc #[v,M,.I fR] w λv n=>v = .tuple #[.I (o.vars l s fR).1,.I (o.vars l s fR).2]/\Ext w n:=by
 obtain⟨ak,al,rfl,an⟩:=z.form;refine bn E.Nc ?_;simp -dsimp only[c7,cD,Nat.reduceAdd,Nat.reduceEqDiff,reduceIte,reduceCtorEq,dt];refine Z_ (λp n => ∃e:Nat,e<=l.length/\p 8 = .I e/\(∀f,f<e->o.err (max fR 0) (o.nameAt (·.name) l) (qX l s) f=0)/\Ext w n)
  (λp _=>(l.length - intOf (p 8)).toNat) ⟨0,AY,by simp -dsimp only[c7,cD,Nat.reduceAdd,Nat.reduceEqDiff,reduceIte,reduceCtorEq,dt];rfl,λ_ H=>absurd H (Od _),Ext.refl _⟩ ?_
 rintro p n A ⟨e,ao,d,q,r⟩;have a:=A 0 rfl;have b:=A 1 rfl;have c:=A 2 rfl;simp only[bR,Nat.reduceAdd,Nat.reduceEqDiff,reduceIte,kF,ox] at a b c;clear A;refine cg (i_ a (i_ b (i_ c d))) ?_;apply I_<;>intro aq;rotate_left
 .refine cg (i_ a (i_ b (i_ c d))) ?_;rw[o.vars,qt (λf I=>q f AY)];exact⟨rfl,r⟩
 have h:e<l.length:=AY
 obtain⟨ar,rfl⟩:=z.addr;have k:=a6.ext q4.ext r z;have J:=(k.at e h).cells 0 _ rfl;have X:kl l[e].name:=(k.at e h).ok;have B:o.nameAt (λj:o.Var=>j.name) l e=l[e].name:=tA _ _ _ h;refine cg (i_ a (i_ b (i_ c d))) ?_;apply I_<;>intro au
 .refine cg (i_ a (i_ b (i_ c d))) ?_;rw[o.vars,j9 h q (by rw[A3 AY];decide),A3 AY];exact⟨rfl,r⟩
 have C:¬(max fR 0:Int)<=(e:Int):=AY
 refine cg (i_ a (i_ b (i_ c d))) ?_;refine M_ e rfl h ?_;refine cg (i_ a (i_ b (i_ c d))) ?_;refine L_ J ?_;refine cg (i_ a (i_ b (i_ c d))) ?_;refine J_ (EE _ _ X) ?_;rintro _ av ⟨rfl,G⟩;refine cg (i_ a (i_ b (i_ c d))) ?_;refine N_ (λu=>?_) (λu=>?_);rotate_left
 .refine cg (i_ a (i_ b (i_ c d))) ?_;rw[<-B] at u;rw[o.vars,j9 h q (by rw[Dn C u];decide),Dn C u];exact⟨rfl,r.trans G⟩
 have K:=u;rw[<-B] at K;replace G:=r.trans G;clear r k;refine cg (i_ a (i_ b (i_ c d))) ?_;refine Z_ (λY n => ∃i:Nat,i<=e/\Y 9 = .I i/\(∀f,f<i->o.nameAt (λj:o.Var=>j.name) l f≠o.nameAt (λj:o.Var=>j.name) l e)/\Ext w n)
  (λp _=>(e - intOf (p 9)).toNat) ⟨0,AY,by simp -dsimp only[c7,cD,Nat.reduceAdd,Nat.reduceEqDiff,reduceIte,reduceCtorEq,dt];rfl,λ_ H=>absurd H (Od _),G⟩ ?_
 rintro aw ax x ⟨i,ay,g,N,y⟩;have Z:=a;have ab:=b;have ae:=c;have O:=d;have a:=x 0 rfl;have b:=x 1 rfl;have c:=x 2 rfl;have d:=x 8 rfl;simp only[bR,Nat.reduceAdd,Nat.reduceEqDiff,reduceIte,kF,ox] at a b c d;clear x;rw[Z] at a;rw[ab] at b;rw[ae] at c;rw[O] at d;have k:=a6.ext q4.ext y z;have J:=(k.at e h).cells 0 _ rfl;refine cg (i_ a (i_ b (i_ c (i_ d g)))) ?_;apply I_<;>intro az
 .have L:i<l.length:=AY
  have af:=(k.at i L).cells 0 _ rfl;have P:o.nameAt (λj:o.Var=>j.name) l i=l[i].name:=tA _ _ _ L;refine cg (i_ a (i_ b (i_ c (i_ d g)))) ?_;refine M_ i rfl L ?_;refine cg (i_ a (i_ b (i_ c (i_ d g)))) ?_;refine L_ af ?_;refine cg (i_ a (i_ b (i_ c (i_ d g)))) ?_;refine M_ e rfl h ?_;refine cg (i_ a (i_ b (i_ c (i_ d g)))) ?_;refine L_ J ?_;refine cg (i_ a (i_ b (i_ c (i_ d g)))) ?_;intro ag m;apply I_<;>intro Q
  .refine cg (i_ a (i_ b (i_ c (i_ d g)))) ?_;have S:=Rl (mo:=qX l s) C K (show i<e by omega) (by rw[P,B];exact Q);rw[o.vars,j9 h q (by rw[S];decide),S];exact⟨rfl,y.trans m⟩
  .refine cg (i_ a (i_ b (i_ c (i_ d g)))) ?_;refine Q_ AY ?_;refine cg (i_ a (i_ b (i_ c (i_ d g)))) ?_;refine⟨⟨i+1,AY,rfl,λf I=>?_,y.trans m⟩,by simp[intOf];omega⟩;by_cases ah:f<i
   .exact N f ah
   .have:f=i:=AY
    subst this;rw[P,B];exact Q
 have t:=Rk (mo:=qX l s) C K (λf I=>N f AY);rw[ayZ l s e h] at t;have ai:=a6.ext jG.ext y W;have U:=(k.at e h).cells;generalize l[e]=j at U t;refine cg (i_ a (i_ b (i_ c (i_ d g)))) ?_;refine M_ e rfl h ?_;refine cg (i_ a (i_ b (i_ c (i_ d g)))) ?_;refine Y_ U rfl ?_;refine cg (i_ a (i_ b (i_ c (i_ d g)))) ?_;refine J_ (aw0 j _ s _ ai) ?_;rintro _ ag ⟨rfl,m⟩;replace m:=y.trans m;refine cg (i_ a (i_ b (i_ c (i_ d g)))) ?_;apply I_<;>intro V;rotate_left
 .refine cg (i_ a (i_ b (i_ c (i_ d g)))) ?_;rw[o.vars,j9 h q (by rw[t];exact V),t];exact⟨rfl,m⟩
 .refine cg (i_ a (i_ b (i_ c (i_ d g)))) ?_;rw[V] at t;refine Q_ AY ?_;refine cg (i_ a (i_ b (i_ c (i_ d g)))) ?_;refine⟨⟨e+1,AY,rfl,λf I=>?_,m⟩,by simp[intOf,O];omega⟩;by_cases aj:f<e
  .exact q f aj
  .have:f=e:=AY
   subst this;exact t
def awP(v N:B_)(l:C_ eb)(s:C_ o.Scalar)(w:A_)(y:oc w v l)(Y:hI w N s) :
  EL F.Na #[v,N] w λv i=>v = .tuple #[.I (aA l s).1,.I (aA l s).2]/\Ext w i:=by
 obtain⟨ar,au,rfl,av⟩:=y.form;refine bn E.Na ?_;refine a4 ?_;refine Z_ (λq i => ∃a:Nat,a<=l.length/\q 6 = .I a/\(∀e,e<a->o.err 4 (o.nameAt (·.name) l) (qo l s) e=0)/\Ext w i)
  (λq _=>(l.length - intOf (q 6)).toNat) ⟨0,AY,by refine a4 ?_;rfl,λ_ r=>absurd r (Od _),Ext.refl _⟩ ?_
 rintro q i G ⟨a,aw,d,m,n⟩;have b:=G 0 rfl;have c:=G 1 rfl;simp only[bR,Nat.reduceAdd,Nat.reduceEqDiff,reduceIte,kF,ox] at b c;clear G;have ax:=afN AY m;simp -dsimp only[c7,cD,Nat.reduceAdd,Nat.reduceEqDiff,reduceIte,reduceCtorEq,dt,b,c,d];apply I_<;>intro ay;rotate_left
 .simp -dsimp only[c7,cD,Nat.reduceAdd,Nat.reduceEqDiff,reduceIte,reduceCtorEq,dt,b,c,d];rw[aA,qt (λe H=>m e AY)];exact⟨rfl,n⟩
 have f:a<l.length:=AY
 obtain⟨az,rfl⟩:=y.addr;have k:=a6.ext rW.ext n y;have I:=(k.at a f).cells 0 _ rfl;have Z:kl l[a].name:=(k.at a f).ok;have z:o.nameAt (λp:eb=>p.name) l a=l[a].name:=tA _ _ _ f;simp -dsimp only[c7,cD,Nat.reduceAdd,Nat.reduceEqDiff,reduceIte,reduceCtorEq,dt,b,c,d];apply I_<;>intro aB
 .simp -dsimp only[c7,cD,Nat.reduceAdd,Nat.reduceEqDiff,reduceIte,reduceCtorEq,dt,b,c,d];rw[aA,j9 f m (by rw[A3 AY];decide),A3 AY];exact⟨rfl,n⟩
 have A:¬(4:Int)<=(a:Int):=AY
 simp -dsimp only[c7,cD,Nat.reduceAdd,Nat.reduceEqDiff,reduceIte,reduceCtorEq,dt,b,c,d];refine M_ a rfl f ?_;simp -dsimp only[c7,cD,Nat.reduceAdd,Nat.reduceEqDiff,reduceIte,reduceCtorEq,dt,b,c,d];refine L_ I ?_;simp -dsimp only[c7,cD,Nat.reduceAdd,Nat.reduceEqDiff,reduceIte,reduceCtorEq,dt,b,c,d];refine J_ (EE _ _ Z) ?_;rintro _ aC ⟨rfl,B⟩;simp -dsimp only[c7,cD,Nat.reduceAdd,Nat.reduceEqDiff,reduceIte,reduceCtorEq,dt,b,c,d];refine N_ (λt=>?_) (λt=>?_);rotate_left
 .simp -dsimp only[c7,cD,Nat.reduceAdd,Nat.reduceEqDiff,reduceIte,reduceCtorEq,dt,b,c,d];rw[<-z] at t;rw[aA,j9 f m (by rw[Dn A t];decide),Dn A t];exact⟨rfl,n.trans B⟩
 have J:=t;rw[<-z] at J;replace B:=n.trans B;clear n k;simp -dsimp only[c7,cD,Nat.reduceAdd,Nat.reduceEqDiff,reduceIte,reduceCtorEq,dt,b,c,d];refine Z_ (λab i => ∃h:Nat,h<=a/\ab 7 = .I h/\(∀e,e<h->o.nameAt (λp:eb=>p.name) l e≠o.nameAt (λp:eb=>p.name) l a)/\Ext w i)
  (λq _=>(a - intOf (q 7)).toNat) ⟨0,AY,by refine a4 ?_;rfl,λ_ r=>absurd r (Od _),B⟩ ?_
 rintro aD O C ⟨h,aE,j,P,u⟩;have ae:=b;have af:=c;have Q:=d;have b:=C 0 rfl;have c:=C 1 rfl;have d:=C 6 rfl;simp only[bR,Nat.reduceAdd,Nat.reduceEqDiff,reduceIte,kF,ox] at b c d;clear C;rw[ae] at b;rw[af] at c;rw[Q] at d;have k:=a6.ext rW.ext u y;have I:=(k.at a f).cells 0 _ rfl;simp -dsimp only[c7,cD,Nat.reduceAdd,Nat.reduceEqDiff,reduceIte,reduceCtorEq,dt,b,c,d,j];apply I_<;>intro aF
 .have K:h<l.length:=AY
  have ag:=(k.at h K).cells 0 _ rfl;have S:o.nameAt (λp:eb=>p.name) l h=l[h].name:=tA _ _ _ K;simp -dsimp only[c7,cD,Nat.reduceAdd,Nat.reduceEqDiff,reduceIte,reduceCtorEq,dt,b,c,d,j];refine M_ h rfl K ?_;simp -dsimp only[c7,cD,Nat.reduceAdd,Nat.reduceEqDiff,reduceIte,reduceCtorEq,dt,b,c,d,j];refine L_ ag ?_;simp -dsimp only[c7,cD,Nat.reduceAdd,Nat.reduceEqDiff,reduceIte,reduceCtorEq,dt,b,c,d,j];refine M_ a rfl f ?_;simp -dsimp only[c7,cD,Nat.reduceAdd,Nat.reduceEqDiff,reduceIte,reduceCtorEq,dt,b,c,d,j];refine L_ I ?_;simp -dsimp only[c7,cD,Nat.reduceAdd,Nat.reduceEqDiff,reduceIte,reduceCtorEq,dt,b,c,d,j];intro ah x;apply I_<;>intro U
  .simp -dsimp only[c7,cD,Nat.reduceAdd,Nat.reduceEqDiff,reduceIte,reduceCtorEq,dt,b,c,d,j];have V:=Rl (mo:=qo l s) A J (show h<a by omega) (by rw[S,z];exact U);rw[aA,j9 f m (by rw[V];decide),V];exact⟨rfl,u.trans x⟩
  .simp -dsimp only[c7,cD,Nat.reduceAdd,Nat.reduceEqDiff,reduceIte,reduceCtorEq,dt,b,c,d,j];refine Q_ AY ?_;simp -dsimp only[c7,cD,Nat.reduceAdd,Nat.reduceEqDiff,reduceIte,reduceCtorEq,dt,b,c,d,j];refine⟨⟨h+1,AY,rfl,λe H=>?_,u.trans x⟩,by simp[intOf];omega⟩;by_cases ai:e<h
   .exact P e ai
   .have:e=h:=AY
    subst this;rw[S,z];exact U
 have g:=Rk (mo:=qo l s) A J (λe H=>P e AY);have W:qo l s a=if o.there l[a].scalar s=false then 8 else if l[a].cap<1\/l[a].cap > 4\/(l[a].scalar=0/\o.narrow l[a].aQ l[a].ab=false) then 10 else 0:=by simp[qo,f]
 rw[W] at g;have aj:=a6.ext jG.ext u Y;have bg:=(k.at a f).cells 1 _ rfl;have bj:=(k.at a f).cells 2 _ rfl;have ak:=(k.at a f).cells 3 _ rfl;have al:=(k.at a f).cells 4 _ rfl;simp only[o.there,o.narrow,decide_eq_false_iff_not] at g;generalize l[a].scalar=xs at bg g;generalize l[a].cap=aG at bj g;generalize l[a].aQ=L at ak g;generalize l[a].ab=M at al g;clear W;have an:∀i,Ext O i->EL F.HQ #[.I L,.I M] i λao X=>ao = .bool (o.narrow L M)/\Ext i X:=λi n =>
  (aik L M i).mono λv X r=>⟨r.1,r.2 ▸ Ext.refl _⟩
 simp -dsimp only[c7,cD,Nat.reduceAdd,Nat.reduceEqDiff,reduceIte,reduceCtorEq,dt,b,c,d,j]
 (repeat' first
  | (refine I_ (λ_=>?_) (λ_=>?_)<;>try (exfalso;omega))
  | (refine N_ (λ_=>?_) (λ_=>?_))
  | (refine M_ a rfl f ?_)
  | (refine L_ Aq ?_)
  | (refine J_ (EB _ _ s _ aj) ?_;rintro _ O ⟨rfl,rfl⟩)
  | (refine P_ _ an ?_)
  | simp -dsimp only[c7,cD,Nat.reduceAdd,Nat.reduceEqDiff,reduceIte,reduceCtorEq,dt,b,c,d,j]
  | (intro ah x;replace x:=u.trans x))
 all_goals first
  | (rw[if_pos AY] at g
     rw[aA,j9 f m (by rw[g];decide),g];exact⟨rfl,Aq⟩)
  | (rw[if_neg AY,if_pos AY] at g
     rw[aA,j9 f m (by rw[g];decide),g];exact⟨rfl,Aq⟩)
  | (rw[if_neg AY,if_neg AY] at g
     refine Q_ AY ?_;simp -dsimp only[c7,cD,Nat.reduceAdd,Nat.reduceEqDiff,reduceIte,reduceCtorEq,dt,b,c,d,j];refine⟨⟨a+1,AY,rfl,λe H=>?_,Aq⟩,by simp[intOf,Q];omega⟩;by_cases aq:e<a
     .exact m e aq
     .have:e=a:=AY
      subst this;exact g)
end Go.Proofs.R
namespace o
def aki(m:Model)(i:Nat):wZ m 2 i=tz m i:=by
 have a:cZ 1 2 i m.vars.length=min m.vars.length i:=by unfold cZ;rw[if_pos Ae,if_neg Ae];simp
 have b:cZ 2 2 i m.aA.length=0:=by unfold cZ;rw[if_neg Ae]
 have c:cZ 3 2 i m.procs.length=0:=by unfold cZ;rw[if_neg Ae]
 have d:iE 2 i m.props.length=0:=by unfold iE;rw[if_neg Ae]
 unfold wZ;rw[a,b,c,d];simp only[tz,H2,B5,List.take_zero,List.map_nil,List.append_nil];rw[AK4,<-AJ1];simp only[List.take_length]
def akg(m:Model)(i:Nat):wZ m 3 i=oK m i:=by
 have a:cZ 1 3 i m.vars.length=m.vars.length:=by unfold cZ;rw[if_pos Ae,if_pos Ae]
 have b:cZ 2 3 i m.aA.length=min m.aA.length i:=by unfold cZ;rw[if_pos Ae,if_neg Ae];simp
 have c:cZ 3 3 i m.procs.length=0:=by unfold cZ;rw[if_neg Ae]
 have d:iE 3 i m.props.length=0:=by unfold iE;rw[if_neg Ae]
 unfold wZ;rw[a,b,c,d];simp only[oK,tz,H2,B5,B4,List.take_zero,List.map_nil,List.append_nil];rw[AK4,<-AJ1];simp only[List.take_length]
def akh(m:Model)(i:Nat):wZ m 4 i=jV m i:=by
 have a:cZ 1 4 i m.vars.length=m.vars.length:=by unfold cZ;rw[if_pos Ae,if_pos Ae]
 have b:cZ 2 4 i m.aA.length=m.aA.length:=by unfold cZ;rw[if_pos Ae,if_pos Ae]
 have c:cZ 3 4 i m.procs.length=min m.procs.length i:=by unfold cZ;rw[if_pos Ae,if_neg Ae];simp
 have d:iE 4 i m.props.length=0:=by unfold iE;rw[if_neg Ae]
 unfold wZ;rw[a,b,c,d];simp only[jV,oK,tz,H2,B5,B4,z5,List.take_zero,List.map_nil,List.append_nil];rw[AK4,<-AJ1];simp only[List.take_length]
def ZK(m:Model)(i:Nat):wZ m 5 i=tx m i:=by
 have a:cZ 1 5 i m.vars.length=m.vars.length:=by unfold cZ;rw[if_pos Ae,if_pos Ae]
 have b:cZ 2 5 i m.aA.length=m.aA.length:=by unfold cZ;rw[if_pos Ae,if_pos Ae]
 have c:cZ 3 5 i m.procs.length=m.procs.length:=by unfold cZ;rw[if_pos Ae,if_pos Ae]
 have d:iE 5 i m.props.length=min m.props.length i:=by unfold iE;rw[if_pos Ae];simp
 unfold wZ;rw[a,b,c,d];simp only[tx,jV,oK,tz,H2,B5,B4,z5,UD];rw[AK4,<-AJ1];simp only[List.take_length]
def yz(q p i:Int)(len:Nat):cZ q p i len<=len:=by unfold cZ; (repeat' split)<;>omega
end o
namespace Go.Proofs.R
open Go Go.RowKit ba o
def zn(f:tK):B_:=.agg #[.int .i64 f.bK,.int .i64 f.part,.int .i64 f.item,.int .i64 f.sub]
def awQ(cs:C_ B_)(m:o.Model)(w:A_)(h:dU w cs m) :
  EL F.Nv #[.agg cs.toArray] w λv n=>v=zn (o.data m)/\Ext w n:=by
 have ae:=h;obtain⟨aH,aI,aJ,bg,aK,bj,aL,aP,aQ,aR,rfl,M,I,J,aS,aU,aX,aY,aZ,a0,a1⟩:=h.form;refine bn E.Nv ?_;refine ad ?_;intro a3 a5 a7 af c;refine ad ?_;intro ar a8 a9 ag d;replace c:=ag.obj c;have N:=af.trans ag;have bb:=cf c;have bf:=af.size;refine ad ?_;refine J_ (awY _ m.scalars ar (M.ext N)) ?_;rintro _ ah ⟨rfl,O⟩;replace c:=O.obj c;replace d:=O.obj d;have P:=N.trans O;clear N;refine ad ?_;apply I_<;>intro ai;rotate_left
 .have e:=aaV ai;refine ad ?_;intro au av bk;refine ad ?_;exact⟨by rw[e];rfl,av.ext P AY⟩
 have u:(o.scalars m.scalars).2=0:=by simpa using ai
 have bl:=ahY u;have aj:=c;have ak:=d;refine ad ?_;refine K_ 5 m.vars.length [1,2] (λ_:Unit=>[]) () (λa _ n=>Ext ah n/\∀b,b<a->kt m b=0) aW aW ⟨Ext.refl _,λb h=>absurd h (Od _)⟩ ?_;clear c d;rintro a _ bo au aw ⟨x,g⟩;have c:=x.obj aj;have d:=x.obj ak;have i:=P.trans x;refine ad ?_;apply I_<;>intro ax
 .have f:a<m.vars.length:=AY
  have Q:=(a6.len I).2;have S:=Q.2;unfold maxLen at S;obtain⟨ay,rfl⟩:=I.addr;have y:=Er (f:=λU:o.Var=>U.name) f;have z:=((I.at a f).cells).ext i;have V:∀b,b<a->pB m b=0:=λb q=>Pl (g b q);refine ad ?_;refine _k (k:=.i64) (a+1) (by simp[dE,bR]) AY ?_;refine ad ?_;refine P_ (.tuple #[.I (o.vars (m.vars.take (a+1)) m.scalars 12).1,.I (o.vars (m.vars.take (a+1)) m.scalars 12).2]) (λn A=>ahh _ _ (m.vars.take (a+1)) m.scalars 12 n ((I.head (a+1) AY).ext q4.ext (i.trans A)) (M.ext (i.trans A))) ?_;refine ad ?_;intro az k;replace c:=k.obj c;replace d:=k.obj d;replace z:=z.ext k;have r:=i.trans k;rw[ay5 f V];refine ad ?_;apply I_<;>intro s;rotate_left
  .have j:kt m a=pB m a:=by unfold kt;rw[if_pos s]
   have e:=J9 u f g (by rw[j];exact s);rw[j] at e;refine ad ?_;intro B C al;refine ad ?_;exact⟨by rw[e];rfl,C.ext r AY⟩
  have t:pB m a=0:=by simpa using s
  have bp:a<12:=by
   apply Classical.byContradiction;intro an;have h:=t;unfold pB o.err at h;rw[if_pos AY] at h;cases h
  refine ad ?_;intro B l;replace c:=l.obj c;replace d:=l.obj d;refine ad ?_;refine J_ (Fy _ m 2 a B (ae.ext (r.trans l)) AY AY (by
   have aB:cZ 1 2 a m.vars.length<=a:=by unfold cZ; (repeat' split)<;>omega
   have aC:cZ 2 2 a m.aA.length=0:=by unfold cZ;rw[if_neg Ae]
   have aD:cZ 3 2 a m.procs.length=0:=by unfold cZ;rw[if_neg Ae]
   have aE:iE 2 a m.props.length=0:=by unfold iE;rw[if_neg Ae]
   omega)) ?_
  rintro _ W ⟨⟨v,rfl,G⟩,p⟩;refine⟨p,?_⟩;rw[aki] at G;refine ad ?_;refine J_ (GF v _ m.vars[a].name _ W G) ?_;rintro _ aF ⟨rfl,rfl⟩;replace c:=p.obj c;replace d:=p.obj d;have ao:=l.trans p;have X:=r.trans ao;refine ad ?_;apply I_<;>intro H
  .have j:kt m a=7:=by unfold kt;rw[if_neg (by simpa using t),y,if_pos H]
   have e:=J9 u f g (by rw[j];decide);rw[j] at e;refine ad ?_;intro Y Z aG;refine ad ?_;exact⟨by rw[e];rfl,Z.ext X AY⟩
  .refine ad ?_;refine⟨f,aV,(),trivial,(x.trans k).trans ao,λb q=>?_⟩;by_cases ab:b=a
   .subst ab;unfold kt;rw[if_neg (by simpa using t),y,if_neg H]
   .exact g b AY
 have K:∀b,b<m.vars.length->kt m b=0:=λb q=>g b AY;have bq:m.vars.length<=12:=by
  apply Classical.byContradiction;intro an
  have:=abu (K 12 AY)
  omega
 clear c d;refine ad ?_;refine K_ 8 m.aA.length [1,2] (λ_:Unit=>[]) () (λa _ n=>Ext ah n/\∀b,b<a->lq m b=0) aW aW ⟨x,λb h=>absurd h (Od _)⟩ ?_;clear i;rintro a _ bt az aw ⟨k,g⟩;have c:=k.obj aj;have d:=k.obj ak;have i:=P.trans k;refine ad ?_;apply I_<;>intro ax
 .have f:a<m.aA.length:=AY
  have Q:=(a6.len J).2;have S:=Q.2;unfold maxLen at S;obtain⟨ay,rfl⟩:=J.addr;have y:=Er (f:=λU:eb=>U.name) f;have z:=((J.at a f).cells).ext i;have V:∀b,b<a->o1 m b=0:=λb q=>JY (g b q);refine ad ?_;refine _k (k:=.i64) (a+1) (by simp[dE,bR]) AY ?_;refine ad ?_;refine P_ (.tuple #[.I (aA (m.aA.take (a+1)) m.scalars).1,.I (aA (m.aA.take (a+1)) m.scalars).2]) (λn A=>awP _ _ (m.aA.take (a+1)) m.scalars n ((J.head (a+1) AY).ext rW.ext (i.trans A)) (M.ext (i.trans A))) ?_;refine ad ?_;intro B l;replace c:=l.obj c;replace d:=l.obj d;replace z:=z.ext l;have r:=i.trans l;rw[alV f V];refine ad ?_;apply I_<;>intro s;rotate_left
  .have j:lq m a=o1 m a:=by unfold lq;rw[if_pos s]
   have e:=J8 u K f g (by rw[j];exact s);rw[j] at e;refine ad ?_;intro B C al;refine ad ?_;exact⟨by rw[e];rfl,C.ext r AY⟩
  have t:o1 m a=0:=by simpa using s
  have bu:a<4:=by
   apply Classical.byContradiction;intro an;have h:=t;unfold o1 o.err at h;rw[if_pos AY] at h;cases h
  refine ad ?_;intro W p;replace c:=p.obj c;replace d:=p.obj d;refine ad ?_;refine J_ (Fy _ m 3 a W (ae.ext (r.trans p)) AY AY (by
   have aB:=yz 1 3 a m.vars.length;have aC:cZ 2 3 a m.aA.length<=a:=by unfold cZ; (repeat' split)<;>omega
   have aD:cZ 3 3 a m.procs.length=0:=by unfold cZ;rw[if_neg Ae]
   have aE:iE 3 a m.props.length=0:=by unfold iE;rw[if_neg Ae]
   omega)) ?_
  rintro _ Y ⟨⟨v,rfl,G⟩,L⟩;refine⟨L,?_⟩;rw[akg] at G;refine ad ?_;refine J_ (GF v _ m.aA[a].name _ Y G) ?_;rintro _ aF ⟨rfl,rfl⟩;replace c:=L.obj c;replace d:=L.obj d;have aq:=p.trans L;have X:=r.trans aq;refine ad ?_;apply I_<;>intro H
  .have j:lq m a=7:=by unfold lq;rw[if_neg (by simpa using t),y,if_pos H]
   have e:=J8 u K f g (by rw[j];decide);rw[j] at e;refine ad ?_;intro Y Z aG;refine ad ?_;exact⟨by rw[e];rfl,Z.ext X AY⟩
  .refine ad ?_;refine⟨f,aV,(),trivial,(k.trans l).trans aq,λb q=>?_⟩;by_cases ab:b=a
   .subst ab;unfold lq;rw[if_neg (by simpa using t),y,if_neg H]
   .exact g b AY
 have e:=aaU u K λb q=>g b AY;refine ad ?_;intro B C al;refine ad ?_;exact⟨by rw[e];rfl,C.ext i AY⟩
end Go.Proofs.R
namespace o
structure wQ(m:Model):Prop where
 v:m.vars.length<=1000000
 c:m.aA.length<=1000000
 p:m.procs.length<=1000000
 i:∀p∈m.procs,p.vars.length<=1000000/\p.cP.length<=1000000
def bg(m:Model)(k:Nat):Int:=jz ((m.vars.take k).map λa=>cells a m.scalars)
def bj(m:Model)(k:Nat):Int:=jz ((m.aA.take k).map r2)
def i1(m:Model)(k:Nat):Int:=jz ((m.procs.take k).map (l4 m))
def i2(m:Model)(k:Nat):Int:=jz ((m.procs.take k).map λa=>l4 m a*a.cP.length)
def i3(m:Model)(k:Nat):Int:=jz ((m.procs.take k).map λa=>l4 m a*(1+a.vars.length))
def afR{α:Type}{l:C_ α}{k:Nat}{x:α}(h:x∈l.take k):x∈l:=AJ8 h
def C9{m:Model}(h:wQ m)(k:Nat):0<=bg m k/\bg m k<=4000000:=by
 have:=IG (λa=>cells a m.scalars) 4 Ae (m.vars.take k) λa _=>r3 a _
 have b:=h.v;have c:(m.vars.take k).length<=m.vars.length:=by simp;omega
 unfold bg;omega
def JL{m:Model}(h:wQ m)(k:Nat):0<=bj m k/\bj m k<=5000000:=by
 have:=IG r2 5 Ae (m.aA.take k) λa _=>by have:=QL a;omega
 have b:=h.c;have c:(m.aA.take k).length<=m.aA.length:=by simp;omega
 unfold bj;omega
def aeD{m:Model}(h:wQ m)(k:Nat):0<=i1 m k/\i1 m k<=4000000:=by
 have:=IG (l4 m) 4 Ae (m.procs.take k) λa _=>Ia m a
 have b:=h.p;have c:(m.procs.take k).length<=m.procs.length:=by simp;omega
 unfold i1;omega
def En{a b:Int}(c:0<=a/\a<=4)(d:0<=b/\b<=1000001):0<=a*b/\a*b<=4000004:=by
 have:a=0\/a=1\/a=2\/a=3\/a=4:=AY
 rcases this with rfl | rfl | rfl | rfl | rfl<;>omega
def aeF{m:Model}(h:wQ m)(k:Nat):0<=i2 m k/\i2 m k<=4000004000000:=by
 have:=IG (λa=>l4 m a*a.cP.length) 4000004 Ae (m.procs.take k) λa b=>En (Ia m a) (by have:=(h.i a (afR b)).2;omega)
 have c:=h.p;have d:(m.procs.take k).length<=m.procs.length:=by simp;omega
 unfold i2;omega
def aeH{m:Model}(h:wQ m)(k:Nat):0<=i3 m k/\i3 m k<=4000004000000:=by
 have:=IG (λa=>l4 m a*(1+a.vars.length)) 4000004 Ae (m.procs.take k) λa b=>En (Ia m a) (by have:=(h.i a (afR b)).1;omega)
 have c:=h.p;have d:(m.procs.take k).length<=m.procs.length:=by simp;omega
 unfold i3;omega
def aab{m:Model}{k:Nat}(h:k<m.vars.length):bg m (k+1)=bg m k+cells m.vars[k] m.scalars:=IH _ _ h
def aac{m:Model}{k:Nat}(h:k<m.aA.length):bj m (k+1)=bj m k+r2 m.aA[k]:=IH _ _ h
def aeE{m:Model}{k:Nat}(h:k<m.procs.length):i1 m (k+1)=i1 m k+l4 m m.procs[k]:=IH _ _ h
def aeG{m:Model}{k:Nat}(h:k<m.procs.length):i2 m (k+1)=i2 m k+l4 m m.procs[k]*m.procs[k].cP.length:=IH _ _ h
def aeI{m:Model}{k:Nat}(h:k<m.procs.length):i3 m (k+1)=i3 m k+l4 m m.procs[k]*(1+m.procs[k].vars.length):=IH _ _ h
def agG(m:Model){a b c:Nat}(d:m.vars.length<=a)(e:m.aA.length<=b)(f:m.procs.length<=c):pieces m=(i1 m c,i2 m c,bg m a+bj m b+i3 m c):=by
 unfold pieces i1 i2 i3 bg bj;rw[IA d,IA e,IA f]
end o
namespace Go.Proofs.R
open Go Go.RowKit ba o
def avK(cs:C_ B_)(m:o.Model)(w:A_)(h:dU w cs m)(g:wQ m) :
  EL F.qs #[.agg cs.toArray] w λP a=>P = .tuple #[.I (o.pieces m).1,.I (o.pieces m).2.1,.I (o.pieces m).2.2]/\Ext w a:=by
 obtain⟨ae,af,ag,bg,ah,bj,ai,aj,ak,al,rfl,z,A,B,C,an,ao,aq,ar,au,av⟩:=h.form;refine bn E.qs ?_;refine ad ?_;intro q aw ax r e;have s:=e;clear e;refine ad ?_;refine K_ 18 m.vars.length [1,5,6,16,17] (λd:Int=>[(7,.I d)]) 0 (λc d a=>Ext q a/\d=o.bg m c) aW aW ⟨Ext.refl _,by simp[o.bg,jz]⟩ ?_;rintro c _ ay Q az ⟨n,rfl⟩;have e:=n.obj s;have dh:∀{a},Ext Q a->Ext w a:=λl=>(r.trans n).trans l;refine ad ?_;apply I_<;>intro aB
 .have t:c<m.vars.length:=AY
  obtain⟨G,rfl⟩:=A.addr;have S:=((A.at c t).cells).ext (dh (Ext.refl _));refine ad ?_;intro u H I i p;replace e:=i.obj e;refine ad ?_;refine J_ (Df m.vars[c] _ m.scalars u (z.ext (dh i))) ?_;rintro _ v ⟨rfl,j⟩;have J:=C9 g c;have K:=r3 m.vars[c] m.scalars;refine ad ?_;exact⟨t,aV,_,aW,(n.trans i).trans j,(aab t).symm⟩
 have U:m.vars.length<=c:=AY
 refine ad ?_;refine K_ 32 m.aA.length [1,5,6,30,31] (λd:Int=>[(7,.I d)]) (o.bg m c) (λf d a=>Ext q a/\d=o.bg m c+o.bj m f) aW aW ⟨n,by simp[o.bj,jz]⟩ ?_;clear e dh;rintro f _ aC u aD ⟨i,rfl⟩;have e:=i.obj s;have hb:∀{a},Ext u a->Ext w a:=λl=>(r.trans i).trans l;refine ad ?_;apply I_<;>intro aE
 .have x:f<m.aA.length:=AY
  obtain⟨G,rfl⟩:=B.addr;have S:=((B.at f x).cells).ext (hb (Ext.refl _));refine ad ?_;intro v H I j p;have J:=C9 g c;have K:=JL g f;have L:=QL m.aA[f];unfold r2 at L;refine ad ?_;exact⟨x,aV,_,aW,i.trans j,by rw[aac x];unfold r2;omega⟩
 have V:m.aA.length<=f:=AY
 refine ad ?_;refine K_ 47 m.procs.length [1,45,46] (λd:Int×Int×Int=>[(5,.I d.1),(6,.I d.2.1),(7,.I d.2.2)]) (0,0,o.bg m c+o.bj m f)
  (λb d a=>Ext q a/\d=(o.i1 m b,o.i2 m b,o.bg m c+o.bj m f+o.i3 m b)) aW aW ⟨i,by simp[o.i1,o.i2,o.i3,jz]⟩ ?_
 clear e hb;rintro b _ aF v aG ⟨j,rfl⟩;have e:=j.obj s;have dT:∀{a},Ext v a->Ext w a:=λl=>(r.trans j).trans l;refine ad ?_;apply I_<;>intro aH
 .have k:b<m.procs.length:=AY
  obtain⟨G,rfl⟩:=C.addr;obtain⟨_,aI,dN,M,W,X⟩:=C.at b k;obtain⟨aJ,aK,rfl,aL⟩:=W.form;obtain⟨aP,aQ,rfl,aR⟩:=X.form;replace M:=M.ext (dT (Ext.refl _));have aS:=g.i _ (FA k);refine ad ?_;intro Y H I y p;replace e:=y.obj e;refine ad ?_;refine J_ (Df ⟨⟨#[]⟩,0,m.procs[b].over,0,0,0⟩ _ m.scalars Y (z.ext (dT y))) ?_;rintro _ aU ⟨rfl,N⟩;have Z:o.cells ⟨⟨#[]⟩,0,m.procs[b].over,0,0,0⟩ m.scalars=l4 m m.procs[b]:=rfl;rw[Z];replace p:=N.obj p;have J:=C9 g c;have K:=JL g f;have L:=aeD g b;have aX:=aeF g b;have aY:=aeH g b;have O:=Ia m m.procs[b];have aZ:=En O (b:=m.procs[b].cP.length) AY;have a0:=En O (b:=1+m.procs[b].vars.length) AY;refine ad ?_;exact⟨k,aV,(_,_,_),(by first | exact⟨rfl,rfl,rfl,trivial⟩ | exact⟨rfl,rfl,trivial⟩ | (simp -dsimp only[c7,yr,yq,x8,x7,xt,xr,Nat.reduceAdd,Nat.reduceEqDiff,reduceIte,and_self];exact⟨rfl,rfl,rfl,trivial⟩) | (simp -dsimp only[c7,yr,yq,x8,x7,xt,xr,Nat.reduceAdd,Nat.reduceEqDiff,reduceIte,and_self];exact⟨rfl,rfl,trivial⟩)),(j.trans y).trans N,by rw[aeE k,aeG k,aeI k];exact Prod.ext rfl (Prod.ext rfl (Int.add_assoc _ _ _))⟩
 have ab:m.procs.length<=b:=AY
 refine ad ?_;exact⟨by rw[agG m U V ab],dT (Ext.refl _)⟩
def asJ(cs:C_ B_)(m:o.Model)(p:ed)(d dN:B_)(w:A_)(h:dU w cs m) :
  EL F.Nr #[.agg cs.toArray,.agg (p.enc d dN).toArray] w λe f=>e = .I (l4 m p)/\Ext w f:=by
 obtain⟨j,k,l,bg,n,bj,q,r,s,t,rfl,g,_⟩:=h.form;refine bn E.Nr ?_;refine ad ?_;intro u v x a y;refine ad ?_;intro i z A b B;refine ad ?_;refine I_ (λc=>?_) (λc=>?_)
 .refine ad ?_;exact⟨by rw[l4,if_pos c],a.trans b⟩
 refine ad ?_;refine J_ (EB p.over _ m.scalars i (g.ext (a.trans b))) ?_;rintro _ _ ⟨rfl,rfl⟩;refine ad ?_;exact⟨by rw[l4,if_neg c],a.trans b⟩
def awT(cs:C_ B_)(m:o.Model)(w:A_)(h:dU w cs m)(f:wQ m) :
  EL F.Nt #[.agg cs.toArray] w λJ a=>J = .tuple #[.I (o.pieces m).1,.I (o.pieces m).2.1,.I (o.pieces m).2.2]/\Ext w a:=by
 have K:=h;obtain⟨W,X,Y,bg,Z,bj,ab,ae,af,ag,rfl,L,x,y,z,ah,ai,aj,ak,al,an⟩:=h.form;refine bn E.Nt ?_;refine ad ?_;intro q ao aq r g;have s:=g;clear g;refine ad ?_;refine K_ 8 m.vars.length [1,5,6] (λd:Int=>[(7,.I d)]) 0 (λb d a=>Ext q a/\d=o.bg m b) aW aW ⟨Ext.refl _,by simp[o.bg,jz]⟩ ?_;rintro b _ ar M au ⟨l,rfl⟩;have g:=l.obj s;have dh:∀{a},Ext M a->Ext w a:=λi=>(r.trans l).trans i;refine ad ?_;apply I_<;>intro av
 .have t:b<m.vars.length:=AY
  obtain⟨A,rfl⟩:=x.addr;have N:=((x.at b t).cells).ext (dh (Ext.refl _));have B:=C9 f b;have C:=r3 m.vars[b] m.scalars;refine ad ?_;refine P_ (.I (o.cells m.vars[b] m.scalars)) (λa i=>OI m.vars[b] _ m.scalars a (L.ext (dh i))) ?_;refine ad ?_;intro G k;refine ad ?_;exact⟨t,aV,_,aW,l.trans k,(aab t).symm⟩
 have O:m.vars.length<=b:=AY
 refine ad ?_;refine K_ 9 m.aA.length [1,5,6] (λd:Int=>[(7,.I d)]) (o.bg m b) (λe d a=>Ext q a/\d=o.bg m b+o.bj m e) aW aW ⟨l,by simp[o.bj,jz]⟩ ?_;clear g dh;rintro e _ aw P ax ⟨n,rfl⟩;have g:=n.obj s;have hb:∀{a},Ext P a->Ext w a:=λi=>(r.trans n).trans i;refine ad ?_;apply I_<;>intro ay
 .have u:e<m.aA.length:=AY
  obtain⟨A,rfl⟩:=y.addr;have N:=((y.at e u).cells).ext (hb (Ext.refl _));have B:=C9 f b;have C:=JL f e;have H:=QL m.aA[e];unfold r2 at H;refine ad ?_;exact⟨u,aV,_,aW,n,by rw[aac u];unfold r2;omega⟩
 have Q:m.aA.length<=e:=AY
 refine ad ?_;refine K_ 10 m.procs.length [1] (λd:Int×Int×Int=>[(5,.I d.1),(6,.I d.2.1),(7,.I d.2.2)]) (0,0,o.bg m b+o.bj m e)
  (λc d a=>Ext q a/\d=(o.i1 m c,o.i2 m c,o.bg m b+o.bj m e+o.i3 m c)) aW aW ⟨n,by simp[o.i1,o.i2,o.i3,jz]⟩ ?_
 clear g hb;rintro c _ az G aB ⟨k,rfl⟩;have g:=k.obj s;have dT:∀{a},Ext G a->Ext w a:=λi=>(r.trans k).trans i;refine ad ?_;apply I_<;>intro aC
 .have j:c<m.procs.length:=AY
  obtain⟨A,rfl⟩:=z.addr;obtain⟨_,aD,dN,p,S,U⟩:=z.at c j;obtain⟨aE,aF,rfl,aG⟩:=S.form;obtain⟨aH,aI,rfl,aJ⟩:=U.form;replace p:=p.ext (dT (Ext.refl _));have aK:=f.i _ (FA j);refine ad ?_;refine P_ (.I (l4 m m.procs[c])) (λa i=>asJ _ m m.procs[c] _ _ a (K.ext (dT i))) ?_;refine ad ?_;intro aL v;replace g:=v.obj g;replace p:=p.ext v;have B:=C9 f b;have C:=JL f e;have H:=aeD f c;have aP:=aeF f c;have aQ:=aeH f c;have I:=Ia m m.procs[c];have aR:=En I (b:=m.procs[c].cP.length) AY;have aS:=En I (b:=1+m.procs[c].vars.length) AY;refine ad ?_;exact⟨j,aV,(_,_,_),(by first | exact⟨rfl,rfl,rfl,trivial⟩ | exact⟨rfl,rfl,trivial⟩ | (simp -dsimp only[c7,yr,yq,x8,x7,xt,xr,Nat.reduceAdd,Nat.reduceEqDiff,reduceIte,and_self];exact⟨rfl,rfl,rfl,trivial⟩) | (simp -dsimp only[c7,yr,yq,x8,x7,xt,xr,Nat.reduceAdd,Nat.reduceEqDiff,reduceIte,and_self];exact⟨rfl,rfl,trivial⟩)),k.trans v,by rw[aeE j,aeG j,aeI j];exact Prod.ext rfl (Prod.ext rfl (Int.add_assoc _ _ _))⟩
 have V:m.procs.length<=c:=AY
 refine ad ?_;exact⟨by rw[agG m O Q V],dT (Ext.refl _)⟩
end Go.Proofs.R
namespace o
structure ajD(m:Model):Prop where
 s:m.scalars.length<=10
 v:m.vars.length<=30
 c:m.aA.length<=20
 p:m.procs.length<=20
 q:m.props.length<=20
 i:∀p∈m.procs,p.vars.length<=20/\p.cP.length<=30/\∀c∈p.cP,c.b6.length<=20/\c.guard.length<=60
end o
namespace Go.Proofs.R
open Go Go.RowKit ba
def adp(cs:C_ B_)(m:o.Model)(w:A_)(h:o.dU w cs m) :
  EL F.N6 #[.agg cs.toArray] w λt g=>(t = .I 1\/t = .I 0/\o.ajD m)/\Ext w g:=by
 obtain⟨C,G,H,bg,I,bj,J,K,L,M,rfl,N,O,P,u,Q,S,U,V,W,X⟩:=h.form;refine bn E.N6 ?_;refine ad ?_;intro v Y Z a ab;refine ad ?_;apply I_<;>intro ae
 .refine ad ?_;exact⟨.inl (aV),a⟩
 refine ad ?_;apply I_<;>intro af
 .refine ad ?_;exact⟨.inl (aV),a⟩
 refine ad ?_;apply I_<;>intro ag
 .refine ad ?_;exact⟨.inl (aV),a⟩
 refine ad ?_;apply I_<;>intro ah
 .refine ad ?_;exact⟨.inl (aV),a⟩
 refine ad ?_;apply I_<;>intro ai
 .refine ad ?_;exact⟨.inl (aV),a⟩
 refine ad ?_;refine K_ 3 m.procs.length [1] (λ_=>[]) () (λc _ g=>Ext v g/\∀i∈m.procs.take c,i.vars.length<=20/\i.cP.length<=30/\∀d∈i.cP,d.b6.length<=20/\d.guard.length<=60) aW aW ⟨Ext.refl _,Ah⟩ ?_;rintro c _ x aj ak ⟨f,n⟩;refine ad ?_;apply I_<;>intro al
 .have p:c<m.procs.length:=AY
  obtain⟨an,rfl⟩:=u.addr;obtain⟨_,ao,dN,b,y,q⟩:=u.at c p;obtain⟨aq,ar,rfl,au⟩:=y.form;obtain⟨av,aw,rfl,ax⟩:=q.form;refine ad ?_;intro z ay az j aB;refine ad ?_;apply I_<;>intro aC
  .refine ad ?_;exact⟨.inl (aV),(a.trans f).trans j⟩
  refine ad ?_;apply I_<;>intro aD
  .refine ad ?_;exact⟨.inl (aV),(a.trans f).trans j⟩
  refine ad ?_;refine K_ 5 m.procs[c].cP.length [1,3,4] (λ_=>[]) () (λk _ g=>Ext z g/\∀d∈m.procs[c].cP.take k,d.b6.length<=20/\d.guard.length<=60) aW aW ⟨Ext.refl _,Ah⟩ ?_;rintro k _ x aE aF ⟨l,r⟩;refine ad ?_;apply I_<;>intro aG
  .have s:k<m.procs[c].cP.length:=AY
   obtain⟨aH,rfl⟩:=q.addr;obtain⟨_,aI,aJ,aK,A,B⟩:=q.at k s;obtain⟨aL,aP,rfl,aQ⟩:=A.form;obtain⟨aR,aS,rfl,aU⟩:=B.form;refine ad ?_;apply I_<;>intro aX
   .refine ad ?_;exact⟨.inl (aV),((a.trans f).trans j).trans l⟩
   refine ad ?_;apply I_<;>intro aY
   .refine ad ?_;exact⟨.inl (aV),((a.trans f).trans j).trans l⟩
   refine ad ?_;refine⟨s,aV,(),trivial,l,λd e=>?_⟩;rw[Oi s] at e;rcases List.mem_append.1 e with e | e
   .exact r d e
   .rw[AH0] at e;subst e;exact⟨AY,AY⟩
  .rw[IA AY] at r;refine ad ?_;refine⟨p,aV,(),trivial,(f.trans j).trans l,λi b=>?_⟩;rw[Oi p] at b;rcases List.mem_append.1 b with b | b
   .exact n i b
   .rw[AH0] at b;subst b;exact⟨AY,AY,r⟩
 .rw[IA AY] at n;refine ad ?_;exact⟨.inr ⟨aV,AY,AY,AY,AY,AY,n⟩,a.trans f⟩
end Go.Proofs.R
namespace ba
open Go Go.RowKit
inductive vl where
 | sE (g:Operand) (p:Nat) (a b:fg)
 | u9 (x:vl) (y:fg)
 | hT (x:fg) (y:vl)
 | b0 (id:Nat) (x:vl)
def ou(P:D_)(n:Nat):Code->H_ vl
 | .rangeFunc d e f g=>match e.toList,comp P n f,comp P n g with
  | [b],some h,some i=>if b<n then some (.sE d b h i) else none
  | _,_,_=>none
 | .seq a c=>match comp P n a with
  | some j=>(ou P n c).map (.hT j)
  | none=>match ou P n a,comp P n c with
   | some rx,some k=>some (.u9 rx k)
   | _,_=>none
 | .block id a=>(ou P n a).map (.b0 id)
 | _=>none
structure yR where
 n:Nat
 res:List nG
 code:vl
def zf(P:D_)(f:E_):H_ yR :=
 match P.funcs[f]? with
 | some fn=>match fn.body with
  | some a=>match ou P fn.ntmps a,zg P fn.results.toList with
   | some lc,some b=>some ⟨fn.ntmps,b,lc⟩
   | _,_=>none
  | none=>none
 | none=>none
structure Aw(g2:World->World->Prop)(B:Nat):Prop where
 trans:∀{a b c:World},g2 a b->g2 b c->g2 a c
 put:∀(W:World) (l:Nat) (af o':Obj),B<=l->l<B+2->W.heap[l]? = some af->af.isCells=false->g2 W (W.putObj l o')
def qh(n0:Nat)(e:C_ F_)(a c:A_):Prop:=Below n0 a c/\∀(b:Nat) (f:Array B_) (d:F_) (g:Nat×Nat),a.heap[b]? = some (.cells f d g)->d∈e->c.heap[b]? = a.heap[b]?
def qh.ok{n0 B:Nat}(cW:C_ F_)(h:n0<=B):Aw (qh n0 cW) B where
 trans h k:=⟨h.1.trans k.1,λi c t f ab aE=>by rw[<-h.2 i c t f ab aE];exact k.2 i c t f ((h.2 i c t f ab aE).trans ab) aE⟩
 put W l af o' aw _ aJ ag:=⟨(Below.refl n0 W).grown (grownBy_putObj' W l o') (by have:=(Array.getElem?_eq_some_iff.1 aJ).1;omega) (λk e=>by cases e;omega),λk c t f J _=>by
  have dz:l≠k:=λe=>by subst e;rw[aJ] at J;injection J with J;subst J;cases ag
  exact World.putObj_heap_other (Ne.symm dz)⟩
def Ext.h1{n0:Nat}{c:C_ F_}{a b:A_}(h:Ext a b)(d:n0<=a.heap.size):qh n0 c a b:=⟨Below.mono h d,λf g i j e _=>h.heap (cf e)⟩
def yV{α:Type}(P:D_)(g:Nat)(j:Array B_)(enc:α->B_)(B1:Nat)(st:Prop)(g2:A_->A_->Prop)(k:α->A_->Prop)(S l:C_ α->Prop)(m:Nat)(w:A_):Prop :=
 ∀(h:Nat) (c f:C_ α->A_->Prop) (a:A_),Below w.heap.size w a->B1<=a.heap.size->OwnFrom a.heap.size c->OwnFrom a.heap.size f ->
  (∀pre d g3,c pre g3->k d g3->pre.length<m->YieldAt Fence.wide (0 - 1) P h #[enc d] g3 λe b =>
   (e = .returned (.bool true)/\c (pre++[d]) b/\g2 g3 b)\/(st/\e = .returned (.bool false)/\f (pre++[d]) b)) ->
  c [] a ->
  CallsIn Fence.wide 0 P g (#[.func (.yield h) #[] #[]]++j) a λe b=>(∃n,e = .returned n)/\((∃i,S i/\c i b)\/(∃pre,l pre/\f pre b))
def agr{β:Type}{B:Nat}{a:β->A_->Prop}(h:OwnFrom B a):AbidesFrom B a:=λe f g i j k b=>h e f g i j k λc d=>⟨(b c d).1,let ⟨l,m,n⟩:=(b c d).2; ⟨l,m,Obj.not_cells_of_walk n⟩⟩
theorem yV.of{α:Type}{P:D_}{c:Nat}{d:Array B_}{enc:α->B_}{g2:A_->A_->Prop}{e f:C_ α->Prop}{g:Nat}{w0:A_}(h:SeqStopsK Fence.wide 0 P c d (λa=>#[enc a]) g2 e f g w0):yV P c d enc 0 True g2 (λ_ _=>True) e f g w0 :=
 λi j k l m _ n p q r=>h i j k l m (agr n) (agr p) (λpre a g3 s t=>let ⟨fn,tmps,u,body,v,w⟩:=q pre a g3 s trivial t; ⟨fn,tmps,u,body,v,w.mono λx y b=>b.imp id λb=>b.2⟩) r
def axl{α:Type}(g2:A_->A_->Prop)(B:Nat)(cJ:C_ α->A_->Prop)(c:fI->C_ α->A_->Prop)(xs:C_ α)(b:A_):fI->Fr->A_->Prop
 | .normal,_,a=>KeepsFrom B b a/\g2 b a/\cJ xs a
 | .h2 _,_,_=>False
 | d,_,a=>KeepsFrom B b a/\c d xs a
def wY(B:Nat)(b d:A_):Prop := ∃a,B<=a/\(∃c,b.heap[a]? = some c/\c.isCells=false)/\b.grownBy d (some a)
def ajR(P:D_)(g:B_)(p:Nat)(a b:fg)(Q:Nat->fI->Fr->A_->Prop)(S:Fr)(w:A_):Prop :=
 ∃(α:Type) (k:α->B_) (i:Nat) (l:Array B_) (B1:Nat) (m:Prop) (g2:A_->A_->Prop) (n:α->A_->Prop) (q r:C_ α->Prop) (s:Nat) (t:A_),g = .func (.func i) #[] l/\okF P i=true/\yV P i l k B1 m g2 n q r s t/\B1<=w.heap.size+2/\Ext t w/\Aw g2 w.heap.size /\
 ∃(e:C_ α->A_->Prop) (f:fI->C_ α->A_->Prop),OwnFrom w.heap.size e/\(∀d,OwnFrom w.heap.size (f d))/\(∀d h c,f d h c->m)/\e [] w /\
  (∀pre j c,e pre c->n j c->pre.length<s->dN P a (yx (λu g3=>KeepsFrom w.heap.size c g3/\g2 c g3/\∀eT,wY w.heap.size g3 eT->dN P b (axl g2 w.heap.size e f (pre++[j]) eT) u eT) (λ_ _ _=>False)) (cC S p (k j)) c) /\
  (∀D h c,w.heap.size<=D->q h->e h c->c.heap[D]? = some (.deferred (some []))->Q D .normal S c) /\
  (∀D d pre c,d≠.normal->w.heap.size<=D->r pre->f d pre c->c.heap[D]? = some (.deferred (some []))->Q D d S c)
def axn{α:Type}{enc:α->B_}{P:D_}{g:G_}{p:Nat}{S body:Code}{Q:Exit->Act->A_->Prop}{a:Act}{w w0:A_}{H:Nat}{U:Array B_}{B1:Nat}{st:Prop}{g2:A_->A_->Prop}{ag:α->A_->Prop}{ah:Nat}{ai aj:C_ α->Prop}
  (aw:a.eval g = .func (.func H) #[] U)(ax:okF P H=true)(ay:yV P H U enc B1 st g2 ag ai aj ah w0)(a9:B1<=w.heap.size+2)(az:Ext w0 w)(I:Aw g2 w.heap.size)
  (cJ:C_ α->A_->Prop)(J:Code->C_ α->A_->Prop)(K:OwnFrom w.heap.size cJ)(L:∀c,OwnFrom w.heap.size (J c))(ab:∀c B b,J c B b->st)(aB:cJ [] w)
  (aC:∀ak pre t b,cJ pre b->ag t b->pre.length<ah->S.wpIn (oe (some ak)) 1 P (Exit.then (λal g3=>KeepsFrom w.heap.size b g3/\g2 b g3 /\
   ∀eT,wY w.heap.size g3 eT->body.wpIn (oe (some ak)) 1 P (ownPostG w.heap.size g2 cJ J (pre++[t]) eT) al eT) (λ_ _ _=>False)) { tmps:=a.tmps.setIfInBounds p (enc t),defers:=[] } b)
  (aD:∀D B b,w.heap.size<=D->ai B->cJ B b->b.heap[D]? = some (.deferred (some []))->Q .normal { a with defers:={ target:=.collected D,args:=#[] } :: a.defers } b)
  (aE:∀D c pre b,w.heap.size<=D->aj pre->J c pre b->b.heap[D]? = some (.deferred (some []))->c.wpIn Fence.wide 3 P Q { a with defers:={ target:=.collected D,args:=#[] } :: a.defers } b) :
  (Code.rangeFunc g #[p] S body).wpIn Fence.wide 3 P Q a w:=by
 refine wpIn_rangeFunc λfn aF=>?_;obtain⟨d,k⟩:∃d:LoopState->H_ Code->Loop,d=λst aG=>{ state:=st,pending:=aG,fn,tmps:=a.tmps,params:=#[p],assign:=S,body,defers:=w.heap.size }:=⟨_,rfl⟩;obtain⟨e,C⟩:∃e,(w.alloc (.deferred (some []))).alloc (.loop (d .ready none))=e:=⟨_,rfl⟩;have bb:e.heap.size=w.heap.size+2:=by rw[<-C];simp
 have aH:e.heap[w.heap.size+1]? = some (.loop (d .ready none)):=by
  rw[<-C]
  have:=World.alloc_heap_new (w.alloc (.deferred (some []))) (.loop (d .ready none))
  rwa[World.size_alloc] at this
 have aI:e.heap[w.heap.size]? = some (.deferred (some [])):=by rw[<-C];exact(Below.heap_alloc _ _ _ Ah).trans (World.alloc_heap_new w _)
 have aJ:cJ [] e:=by rw[<-C];exact K.alloc _ (K.alloc _ aB)
 have aK:Below w0.heap.size w0 e:=by rw[<-C];exact(az.alloc _).alloc _
 have an:∀{l:A_} {q:H_ Nat},(∀f,q=some f->e.heap.size<=f/\∃j:Obj,l.heap[f]? = some j/\j.isCells=false)->(∀f,q=some f->w.heap.size<=f/\∃j:Obj,l.heap[f]? = some j/\j.isCells=false) :=
  λh f r=>⟨by have:=(h f r).1;omega,(h f r).2⟩
 have V:∀{l G:A_} {q:H_ Nat} {ae:Nat} {j:Obj},l.grownBy G q->(∀f,q=some f->e.heap.size<=f/\∃j:Obj,l.heap[f]? = some j/\j.isCells=false)->ae<e.heap.size->l.heap[ae]? = some j->G.heap[ae]? = some j:=λs h bf ao =>
  (s.block _ (Array.getElem?_eq_some_iff.1 ao).1 λr=>by have:=(h _ r.symm).1;omega).trans ao
 refine⟨w.heap.size+1,[{ target:=.collected w.heap.size,args:=#[] }],e,{ target:=.fn (.func H) U,args:=#[.func (.yield (w.heap.size+1)) #[] #[]] },e,H,
  #[.func (.yield (w.heap.size+1)) #[] #[]]++U,e,?_,?_,λ_ _=>trivial,?_,λ_=>Ae,?_⟩
 .rw[<-C,k];exact run_enterLoop_outer _ _ _ _ _
 .simp only[resolve,aw];simp[go_sem]
 .simp[invoke,go_sem,EH ax]
 refine CallsIn.mono (QJ (r:=none) (callsIn_wide.1 (ay (w.heap.size+1)
  (λpre b=>cJ pre b/\b.heap[w.heap.size+1]? = some (.loop (d .ready none))/\b.heap[w.heap.size]? = some (.deferred (some [])))
  (λpre b => ∃c,J c pre b/\b.heap[w.heap.size+1]? = some (.loop (d .done (some c)))/\b.heap[w.heap.size]? = some (.deferred (some [])))
  e aK AY ?_ ?_ ?_ ⟨aJ,aH,aI⟩))) ?_
 .exact λaf l G q M s h=>⟨K af l G q M.1 s (an h),V s h AY M.2.1,V s h AY M.2.2⟩
 .intro af l G q M s h;obtain⟨c,aL,m,v⟩:=M;exact⟨c,L c af l G q aL s (an h),V s h AY m,V s h AY v⟩
 .rintro pre t b ⟨N,m,v⟩ aP hlen;have aq:=run_yield (P:=P) (args:=#[enc t]) m (by rw[k];rfl);rw[k] at aq;refine⟨fn,_,S,body,aq,ahA (r:=none) (m:=0 - 1) ?_⟩;refine(roundIn_of_wpIn (F:=Fence.wide) (n:=1) (l:=w.heap.size+1) aF ?_) |> λW=>⟨trivial,λc aQ _=>W.2 c aQ (room_wide _)⟩
  have aR:(#[p]:Array Tmp).zip #[enc t]=#[(p,enc t)]:=by apply Array.ext';simp[Array.toList_zip]
  have aS:=aC (w.heap.size+1) pre t b N aP hlen;simp only[aR];refine wpIn_mono aS λr al g3 W=>?_;cases r with
  | normal =>
   obtain⟨ar,aU,aX⟩:=W;have X:=ar.same _ _ AY m rfl;have aY:=ar.same _ _ (EM _) v rfl;refine⟨_,run_beginRound X (by rw[k]),?_⟩;have aZ:=(Array.getElem?_eq_some_iff.1 X).1;have a0:(g3.putObj (w.heap.size+1) (.loop { d .ready none with state:=.busy })).heap[w.heap.size+1]? = some (.loop { d .ready none with state:=.busy }):=World.putObj_heap_same aZ;have a1:(g3.putObj (w.heap.size+1) (.loop { d .ready none with state:=.busy })).heap[w.heap.size]? = some (.deferred (some [])):=(World.putObj_heap_other AY).trans aY;have a3:g2 g3 (g3.putObj (w.heap.size+1) (.loop { d .ready none with state:=.busy })):=I.put _ _ _ _ AY AY X rfl;refine wpIn_mono (aX _ ⟨_,AY,⟨_,X,rfl⟩,grownBy_putObj' _ _ _⟩) λr bk iX O=>?_;have Y:∀(i:H_ Code),KeepsFrom w.heap.size (g3.putObj (w.heap.size+1) (.loop { d .ready none with state:=.busy })) iX ->
     (Instr.endRound (w.heap.size+1) i).run P iX = .ok (.bool i.isNone) (iX.putObj (w.heap.size+1) (.loop (d (if i.isNone then .ready else .done) i))) /\
     iX.heap[w.heap.size+1]? = some (.loop { d .ready none with state:=.busy }) /\
     (iX.putObj (w.heap.size+1) (.loop (d (if i.isNone then .ready else .done) i))).heap[w.heap.size+1]? = some (.loop (d (if i.isNone then .ready else .done) i)) /\
     (iX.putObj (w.heap.size+1) (.loop (d (if i.isNone then .ready else .done) i))).heap[w.heap.size]? = some (.deferred (some [])):=λi au=>by
    have Z:=au.same _ _ AY a0 rfl
    have:=run_endRound (P:=P) i Z
    rw[k] at this ⊢;exact⟨this,by rw[k] at Z;exact Z,World.putObj_heap_same (Array.getElem?_eq_some_iff.1 Z).1,(World.putObj_heap_other AY).trans (au.same _ _ (EM _) a1 rfl)⟩
   cases r with
   | normal =>
    obtain⟨x,a5,n⟩:=O;obtain⟨y,u,z,A⟩:=Y none x;exact⟨_,_,y,.inl ⟨rfl,⟨K.putObj _ n AY u rfl,z,A⟩,I.trans (I.trans (I.trans aU a3) a5) (I.put _ _ _ _ AY AY u rfl)⟩⟩
   | ret =>
    obtain⟨x,n⟩:=O;obtain⟨y,u,z,A⟩:=Y (some .ret) x;exact⟨_,_,y,.inr ⟨ab _ _ _ n,rfl,.ret,(L _).putObj _ n AY u rfl,z,A⟩⟩
   | exit id =>
    obtain⟨x,n⟩:=O;obtain⟨y,u,z,A⟩:=Y (some (.exit id)) x;exact⟨_,_,y,.inr ⟨ab _ _ _ n,rfl,.exit id,(L _).putObj _ n AY u rfl,z,A⟩⟩
   | goto av =>
    obtain⟨x,n⟩:=O;obtain⟨y,u,z,A⟩:=Y (some (.goto av)) x;exact⟨_,_,y,.inr ⟨ab _ _ _ n,rfl,.goto av,(L _).putObj _ n AY u rfl,z,A⟩⟩
   | _=>exact O.elim
  | _=>exact W.elim
 .rintro r eT ⟨⟨bl,rfl⟩,(⟨B,a7,N,m,v⟩ | ⟨pre,a8,c,N,m,v⟩)⟩
  .exact⟨none,_,by have:=run_endLoop (P:=P) m (by rw[k];simp);rw[k] at this;exact this,aD _ B _ (EM _) a7 (K.putObj _ N AY m rfl) ((World.putObj_heap_other AY).trans v)⟩
  .exact⟨some c,_,by have:=run_endLoop (P:=P) m (by rw[k];simp);rw[k] at this;exact this,aE _ c pre _ (EM _) a8 ((L c).putObj _ N AY m rfl) ((World.putObj_heap_other AY).trans v)⟩
def qY(P:D_):vl->(H_ Nat->fI->Fr->A_->Prop)->Fr->A_->Prop
 | .sE g h i j,c,a,b=>ajR P (br a g) h i j (λD=>c (some D)) a b
 | .u9 d f,c,a,b=>qY P d (λe=>yx (λa b=>dN P f (c e) a b) (c e)) a b
 | .hT d f,c,a,b=>dN P d (yx (λa b=>qY P f c a b) (c none)) a b
 | .b0 id d,c,a,b=>qY P d (λe=>AP id (c e)) a b
def marks:H_ Nat->C_ Deferred
 | none=>[]
 | some D=>[{ target:=.collected D,args:=#[] }]
def afE(n:Nat)(Q:H_ Nat->fI->Fr->A_->Prop):Exit->Act->A_->Prop
 | .normal,c,d => ∃a b,Fits (marks a) c b n/\Q a .normal b d
 | .exit e,c,d => ∃a b,Fits (marks a) c b n/\Q a (.exit e) b d
 | .ret,c,d => ∃a b,Fits (marks a) c b n/\Q a .ret b d
 | .panic f,c,d => ∃a b,Fits (marks a) c b n/\Q a (.h2 f) b d
 | _,_,_=>False
theorem atK{n:Nat}{Q:H_ Nat->fI->Fr->A_->Prop}{f:H_ Nat}{e:Exit}{a:Act}{w:A_}(h:MI (marks f) n (Q f) e a w):afE n Q e a w:=by
 cases e with
 | normal=>obtain⟨b,c,d⟩:=h;exact⟨f,b,c,d⟩
 | exit g=>obtain⟨b,c,d⟩:=h;exact⟨f,b,c,d⟩
 | ret=>obtain⟨b,c,d⟩:=h;exact⟨f,b,c,d⟩
 | panic i=>obtain⟨b,c,d⟩:=h;exact⟨f,b,c,d⟩
 | _=>exact h.elim
theorem OW{P:D_}(s:P.follows .mixedOrders=true){n:Nat}:∀(k:Code) (f:vl),ou P n k=some f->∀(t:H_ Nat->fI->Fr->A_->Prop) (h:Act) (i:Fr) (r:A_),Fits [] h i n->qY P f t i r->k.wpIn Fence.wide 3 P (afE n t) h r
 | .rangeFunc aI N Z G,f,b,t,h,i,r,j,v=>by
  simp only[ou] at b;split at b
  .rename_i w ab ae af ag H;split at b
   .rename_i ah;injection b with b;subst b
    obtain⟨α,I,aJ,aK,B1,aL,g2,aP,aQ,aR,aS,aU,ai,aj,ak,al,an,ao,aq,O,ar,Q,S,au,av,aw,U⟩:=v;have ax:N=#[w]:=by rw[<-AI1 (xs:=N),af]
    subst ax;refine axn (by rw[j.eval];exact ai) aj ak al an ao aq (λk=>match k with | .ret=>O .ret | .exit id=>O (.exit id) | _=>λ_ _=>False) ar ?_ ?_ au ?_ ?_ ?_
    .intro k;split
     .exact Q _
     .exact Q _
     .exact λaX p ay aY b _ _=>b.elim
    .intro k xs p b;split at b
     .exact S _ _ _ b
     .exact S _ _ _ b
     .exact b.elim
    .intro V pre u p l az aB;have aC:Fits [] ({ tmps:=h.tmps.setIfInBounds w (I u),defers:=[] }:Act) (cC i w (I u)) n:=by
      refine⟨rfl,by simp[j.2.1],λy=>?_⟩
      have:=j.2.2 y
      simp only[cC];by_cases J:y=w
      .subst J;simp[j.2.1,ah]
      .have q:(h.tmps.setIfInBounds w (I u))[y]? = h.tmps[y]? := Array.getElem?_setIfInBounds_ne (Ne.symm J);rw[if_neg J,<-this];simp[Array.getD_eq_getD_getElem?,q]
     refine wpIn_mono (sound (ds:=[]) (r:=some V) s Z ab ag _ _ _ p aC (av pre u p l az aB)) λm x ay a=>?_;cases m with
     | normal =>
      obtain⟨c,d,g,q,K⟩:=a;refine⟨g,q,λeT aD=>?_⟩;refine wpIn_mono (sound (ds:=[]) (r:=some V) s G ae H _ _ _ eT d (K eT aD)) λm aZ iX a=>?_;cases m with
      | normal=>obtain⟨c,_,g,q,K⟩:=a;exact⟨g,q,K⟩
      | ret=>obtain⟨c,_,g,q⟩:=a;exact⟨g,q⟩
      | exit id=>obtain⟨c,_,g,q⟩:=a;exact⟨g,q⟩
      | panic k=>obtain⟨c,_,g⟩:=a;exact g.elim
      | _=>exact a.elim
     | ret=>obtain⟨c,_,g⟩:=a;exact g.elim
     | exit id=>obtain⟨c,_,g⟩:=a;exact g.elim
     | panic k=>obtain⟨c,_,g⟩:=a;exact g.elim
     | _=>exact a.elim
    .intro D xs p z A l B;exact⟨some D,i,⟨by rw[j.1];rfl,j.2⟩,aw D xs p z A l B⟩
    .intro D k pre p z A l B;have W:Fits (marks (some D)) { h with defers:={ target:=.collected D,args:=#[] } :: h.defers } i n:=⟨by rw[j.1];rfl,j.2⟩;split at l
     .exact wpIn_ret ⟨some D,i,W,U D .ret pre p Ah z A l B⟩
     .exact wpIn_exit ⟨some D,i,W,U D (.exit _) pre p Ah z A l B⟩
     .exact l.elim
   .cases b
  .cases b
 | .seq u X,f,b,t,h,i,r,j,v=>by
  simp only[ou] at b;split at b
  .rename_i aE L;obtain⟨aF,M,rfl⟩:=Option.map_eq_some_iff.1 b;refine wpIn_seq (wpIn_mono (sound (ds:=[]) (r:=none) (m:=3) s u aE L _ h i r j v) λm x C a=>?_);cases m with
   | normal=>obtain⟨c,d,a⟩:=a;exact OW s X aF M t x c C d a
   | exit Y=>obtain⟨c,d,a⟩:=a;exact⟨none,c,d,a⟩
   | ret=>obtain⟨c,d,a⟩:=a;exact⟨none,c,d,a⟩
   | panic k=>obtain⟨c,d,a⟩:=a;exact⟨none,c,d,a⟩
   | _=>exact a.elim
  .split at b
   .rename_i rx aG L M;injection b with b;subst b
    refine wpIn_seq (wpIn_mono (OW s u rx L _ h i r j v) λm x C a=>?_);cases m with
    | normal =>
     obtain⟨e,c,d,a⟩:=a;exact wpIn_mono (sound (ds:=marks e) (r:=none) (m:=3) s X aG M (t e) x c C d a) λm a0 a1 b=>atK b
    | exit Y=>obtain⟨e,c,d,a⟩:=a;exact⟨e,c,d,a⟩
    | ret=>obtain⟨e,c,d,a⟩:=a;exact⟨e,c,d,a⟩
    | panic k=>obtain⟨e,c,d,a⟩:=a;exact⟨e,c,d,a⟩
    | _=>exact a.elim
   .cases b
 | .block id G,f,b,t,h,i,r,j,v=>by
  simp only[ou] at b;obtain⟨aH,H,rfl⟩:=Option.map_eq_some_iff.1 b;refine wpIn_block (wpIn_mono (OW s G aH H _ h i r j v) λm x C a=>?_);cases m with
  | normal=>obtain⟨e,c,d,a⟩:=a;exact⟨e,c,d,a⟩
  | ret=>obtain⟨e,c,d,a⟩:=a;exact⟨e,c,d,a⟩
  | panic k=>obtain⟨e,c,d,a⟩:=a;exact⟨e,c,d,a⟩
  | exit Y =>
   obtain⟨e,c,d,a⟩:=a;simp only[AP] at a;simp only[Exit.inBlock];split at a
   .rename_i l;rw[if_pos l];exact⟨e,c,d,a⟩
   .rename_i l;rw[if_neg l];exact⟨e,c,d,a⟩
  | _=>exact a.elim
 | .skip,f,b,_,_,_,_,_,_=>by simp[ou] at b
 | .region _ _ _,f,b,_,_,_,_,_,_=>by simp[ou] at b
 | .cond _ _ _,f,b,_,_,_,_,_,_=>by simp[ou] at b
 | .loop _,f,b,_,_,_,_,_,_=>by simp[ou] at b
 | .exit _,f,b,_,_,_,_,_,_=>by simp[ou] at b
 | .ret,f,b,_,_,_,_,_,_=>by simp[ou] at b
 | .scope _,f,b,_,_,_,_,_,_=>by simp[ou] at b
 | .label _,f,b,_,_,_,_,_,_=>by simp[ou] at b
 | .goto _,f,b,_,_,_,_,_,_=>by simp[ou] at b
 | .refuse _,f,b,_,_,_,_,_,_=>by simp[ou] at b
def Ga(c:C_ nG)(R:B_->A_->Prop):H_ Nat->fI->Fr->A_->Prop
 | none,e,b,a=>F8 c R e b a
 | some D,.normal,b,a=>a.heap[D]? = some (.deferred (some []))/\qS c b (fZ a D (.deferred none)) λd=>R (jZ d) (fZ a D (.deferred none))
 | some D,.ret,b,a=>a.heap[D]? = some (.deferred (some []))/\qS c b (fZ a D (.deferred none)) λd=>R (jZ d) (fZ a D (.deferred none))
 | some _,.exit _,_,_=>False
 | some _,.h2 _,_,_=>False
def VI{P:D_}{D:Nat}{w:A_}(h:w.heap[D]? = some (.deferred (some []))):(Instr.takeDeferred D).run P w = .ok [] (fZ w D (.deferred none)):=by
 simp[Instr.takeDeferred,Sem.run_bind,getObj,setObj,Sem.run,h,Result.andThen,fZ]
def am8{P:D_}{f:E_}{j:yR}(s:P.follows .mixedOrders=true)(c:zf P f=some j){args:C_ B_}{w:A_}{R:B_->A_->Prop}(t:args.length<=j.n)
  (h:qY P j.code (Ga j.res R) (jo args 0) w):a2 P f args.toArray w R:=by
 unfold zf at c;split at c
 .rename_i fn u;split at c
  .rename_i p v;split at c
   .rename_i lc x y q;injection c with c;subst c
    refine(callsIn_wide (n:=3)).1 (callsIn_of_wp_marks (F:=Fence.wide) u v trivial (wpIn_mono (OW s p lc y _ _ (jo args 0) w ?_ h) ?_))
    .refine⟨rfl,?_,λz=>?_⟩
     .have:=t;simp only at this;simp;omega
     .rw[KP];simp only[Nat.zero_le,if_true,Nat.sub_zero];by_cases k:z<args.length
      .simp[Array.getD_eq_getD_getElem?,Array.getElem?_append,k]
      .simp only[Array.getD_eq_getD_getElem?,Array.getElem?_append,List.size_toArray,if_neg k,List.getElem?_eq_none (Nat.le_of_not_lt k),Option.getD_none];rw[Array.getElem?_replicate];split<;>rfl
    .have fin:∀(b:H_ Nat) (d:Fr) (i:Act) (g:A_),Fits (marks b) i d fn.ntmps->(Ga x R b .normal d g)->LeavesInM Fence.wide 3 P fn i.tmps (λl g => ∃r,l = .returned r/\R r g) i.defers .returning g:=by
      intro b d i g e a;rw[e.1];cases b with
      | none =>
       obtain⟨A,m,n⟩:=tB e _ _ _ q a;exact⟨_,yi m,_,rfl,n⟩
      | some D =>
       obtain⟨B,a⟩:=a;obtain⟨A,m,n⟩:=tB e _ _ _ q a;exact⟨Ah,.inl ⟨D,_,rfl,VI B,⟨_,yi m,_,rfl,n⟩⟩⟩
     intro l i g a;cases l with
     | normal=>obtain⟨b,d,e,a⟩:=a;exact fin b d i g e a
     | ret =>
      obtain⟨b,d,e,a⟩:=a;refine fin b d i g e ?_;cases b<;>exact a
     | exit C=>obtain⟨b,d,e,a⟩:=a;cases b<;>exact a.elim
     | panic p=>obtain⟨b,d,e,a⟩:=a;cases b<;>exact a.elim
     | _=>exact a.elim
   .cases c
  .cases c
 .cases c
end ba
namespace ba
open Go Go.RowKit
section
variable{P:Program}{S:Fr}{w:World}
def gm.start{f:E_}{a:yR}(b:P.follows .mixedOrders=true)(c:zf P f=some a){args:C_ B_}{w:A_}{R:B_->A_->Prop}(d:args.length<=a.n)(h:qY P a.code (Ga a.res R) (jo args 0) w):a2 P f args.toArray w R:=am8 b c d h
def gm.hT{x:fg}{y:vl}{Q:H_ Nat->fI->Fr->A_->Prop}(h:e5 P x (jY (λS w=>qY P y Q S w) (Q none) ⟨⟩) S w ⟨⟩):qY P (.hT x y) Q S w:=by unfold e5 jY at h;exact h
def gm.u9{x:vl}{y:fg}{Q:H_ Nat->fI->Fr->A_->Prop}(h:qY P x (λa=>jY (λS w=>e5 P y (Q a) S w ⟨⟩) (Q a) ⟨⟩) S w):qY P (.u9 x y) Q S w:=by unfold e5 jY at h;exact h
def gm.b0{a:Nat}{x:vl}{Q:H_ Nat->fI->Fr->A_->Prop}(h:qY P x (λb=>w7 a (Q b) ⟨⟩) S w):qY P (.b0 a x) Q S w:=by unfold w7 at h;exact h
def gm.ret{a:C_ nG}{R:B_->A_->Prop}{D:Nat}(b:w.heap[D]? = some (.deferred (some [])))(h:oM a S (fZ w D (.deferred none)) (λc=>R (jZ c) (fZ w D (.deferred none))) ⟨⟩):Ga a R (some D) .ret S w:=by
 unfold oM at h;exact⟨b,h⟩
def gm.am3{a:C_ nG}{R:B_->A_->Prop}{e:fI}(h:uk a R ⟨⟩ e S w):Ga a R none e S w:=by
 unfold uk at h;exact h
theorem gm.ahw{α:Type}{enc:α->B_}{g:G_}{p:Nat}{a b:fg}{Q:H_ Nat->fI->Fr->A_->Prop}{f:Nat}{k:Array B_}{B1:Nat}{st:Prop}{g2:A_->A_->Prop}{l:α->A_->Prop}{m r:C_ α->Prop}{n:Nat}{w0:A_}
  (u:br S g = .func (.func f) #[] k)(v:okF P f=true)(x:yV P f k enc B1 st g2 l m r n w0)(y:B1<=w.heap.size+2)(z:Ext w0 w)(A:Aw g2 w.heap.size)
  (cJ:C_ α->A_->Prop)(B:OwnFrom w.heap.size cJ)(C:cJ [] w)
  (G:∀pre e c,cJ pre c->l e c->pre.length<n->e5 P a (jY (λs g3=>KeepsFrom w.heap.size c g3/\g2 c g3/\∀eT,wY w.heap.size g3 eT ->
   e5 P b (jY (λ_ q=>KeepsFrom w.heap.size eT q/\g2 eT q/\cJ (pre++[e]) q) (λ_ _ _=>False) ⟨⟩) s eT ⟨⟩) (λ_ _ _=>False) ⟨⟩) (cC S p (enc e)) c ⟨⟩)
  (H:∀D t c,w.heap.size<=D->m t->cJ t c->c.heap[D]? = some (.deferred (some []))->Q (some D) .normal S c):qY P (.sE g p a b) Q S w:=by
 refine⟨α,enc,f,k,B1,st,g2,l,m,r,n,w0,u,v,x,y,z,A,cJ,λ_ _ _=>False,B,λ_ _ _ _ _ d _ _=>d.elim,λ_ _ _ d=>d.elim,C,λpre e c I J K=>?_,H,λD h pre c _ _ _ d _=>d.elim⟩;have d:=G pre e c I J K;unfold e5 jY at d;refine rM a _ _ _ c (λh s g3 _ i=>?_) d;cases h with
 | normal =>
  obtain⟨L,M,N⟩:=i;refine⟨L,M,λeT O=>?_⟩;have U:=N eT O;refine rM b _ _ _ eT (λh V iX _ j=>?_) U;cases h with
  | normal=>exact j
  | exit _=>exact j.elim
  | ret=>exact j.elim
  | h2 _=>exact j.elim
 | exit _=>exact i.elim
 | ret=>exact i.elim
 | h2 _=>exact i.elim
def gm.sE{α:Type}{enc:α->B_}{g:G_}{p:Nat}{a b:fg}{Q:H_ Nat->fI->Fr->A_->Prop}{e:Nat}{h:Array B_}{g2:A_->A_->Prop}{i l:C_ α->Prop}{j:Nat}{w0:A_}
  (m:br S g = .func (.func e) #[] h)(n:okF P e=true)(q:SeqStopsK Fence.wide 0 P e h (λd=>#[enc d]) g2 i l j w0)(r:Ext w0 w)(s:Aw g2 w.heap.size)
  (cJ:C_ α->A_->Prop)(t:OwnFrom w.heap.size cJ)(u:cJ [] w)
  (v:∀pre d c,cJ pre c->pre.length<j->e5 P a (jY (λx g3=>KeepsFrom w.heap.size c g3/\g2 c g3/\∀eT,wY w.heap.size g3 eT ->
   e5 P b (jY (λ_ f=>KeepsFrom w.heap.size eT f/\g2 eT f/\cJ (pre++[d]) f) (λ_ _ _=>False) ⟨⟩) x eT ⟨⟩) (λ_ _ _=>False) ⟨⟩) (cC S p (enc d)) c ⟨⟩)
  (y:∀D k c,w.heap.size<=D->i k->cJ k c->c.heap[D]? = some (.deferred (some []))->Q (some D) .normal S c):qY P (.sE g p a b) Q S w :=
 gm.ahw m n (yV.of q) (AG6 _) r s cJ t u (λpre d c z _ A=>v pre d c z A) y
theorem wY.cells{B:Nat}{d e:A_}(h:wY B d e){k:Nat}{c:Array B_}{t:F_}{f:Nat×Nat}(a:d.heap[k]? = some (.cells c t f)):e.heap[k]? = some (.cells c t f):=by
 obtain⟨l,m,⟨n,g,i⟩,j⟩:=h;rw[j.block k (cf a) λb=>by injection b with b;subst b;rw[g] at a;injection a with a;subst a;cases i];exact a
def wY.mod{B:Nat}{c d:A_}(h:wY B c d):∃b,B<=b/\(∀e f g,c.heap[b]? ≠ some (.cells e f g))/\Mod (λi=>i=b) c d:=by
 obtain⟨b,j,⟨n,k,l⟩,m⟩:=h;exact⟨b,j,(λe f g a=>by rw[k] at a;injection a with a;subst a;cases l),Mod.grown m λi a=>by injection a with a;exact a.symm⟩
def Ext.keeps{a b:A_}(h:Ext a b)(B:Nat):KeepsFrom B a b:=⟨h.size,λd e _ c _=>h.obj c⟩
def Mod.keeps{A:Nat->Prop}{B:Nat}{c d:A_}(h:Mod A c d)(j:∀a,B<=a->A a->∃e f g,c.heap[a]? = some (.cells e f g)):KeepsFrom B c d :=
 ⟨h.size,λa n k i l=>h.obj (λm=>by obtain⟨e,f,g,b⟩:=j a k m;rw[i] at b;injection b with b;subst b;cases l) i⟩
def Mod.h1{A:Nat->Prop}{n0:Nat}{g:C_ F_}{b i:A_}(h:Mod A b i)(n:n0<=b.heap.size)(j:∀a,a<n0->¬A a)(k:∀a e c f,A a->b.heap[a]? = some (.cells e c f)->c∉g):qh n0 g b i :=
 ⟨⟨h.os,h.tape,h.output,h.size,λa d=>h.block a AY (j a d)⟩,λa e c f d l=>h.block a (cf d) λm=>k a e c f m d l⟩
def Mod.high{A:Nat->Prop}{w b c:A_}{row:H_ Nat}(h:Mod A w b)(f:b.grownBy c row)(g:∀d,row=some d->w.heap.size<=d):Mod A w c :=
 h.comp (Mod.grown (A:=λe=>row=some e) f λe a=>a) (λ_ _ i=>i) λj k a=>by have:=g j a;omega
def e1(d:Nat)(bs:C_ Nat)(e:C_ F_)(b f:A_):Prop:=Mod (λa=>a∈bs\/(d<=a/\∃g c h,c∈e/\b.heap[a]? = some (.cells g c h))) b f
def Ext.xa{c:Nat}{bs:C_ Nat}{d:C_ F_}{a b:A_}(h:Ext a b):e1 c bs d a b:=h.mod
def e1.trans{d:Nat}{bs:C_ Nat}{e:C_ F_}{a b c:A_}(h:e1 d bs e a b)(k:e1 d bs e b c):e1 d bs e a c :=
 ⟨k.os.trans h.os,k.tape.trans h.tape,k.output.trans h.output,Ug h.size k.size,λf g i=>by
  have j:=h.block f g i;refine(k.block f (AI3 g h.size) λa=>i ?_).trans j;rcases a with a | ⟨l,c,m,n,p,q⟩
  .exact .inl a
  .exact .inr ⟨l,c,m,n,p,by rw[<-j];exact q⟩⟩
def dX.xa{e b:Nat}{bs:C_ Nat}{f:C_ F_}{a c:A_}(h:dX b a c)(g:b∈bs):e1 e bs f a c:=(h.mod (A:=λd=>d=b) rfl).Cy λd i=>.inl (i ▸ g)
def e1.grown{α:Type}{enc:α->C_ B_}{sz c:Nat}{e:F_}{bs:C_ Nat}{d:C_ F_}{b f:A_}{v:B_}{xs:C_ α}(g:aT enc e sz c b v xs)(i:b.grownBy f v.ownBlock)(j:e∈d):e1 c bs d b f :=
 (Mod.grown (A:=λa=>v.ownBlock=some a) i λa e=>e).Cy λa h=>by
  obtain⟨l,k⟩:=g.b0 a h;exact .inr ⟨(g.lt a h).1,_,_,_,j,k⟩
def e1.keeps{d B:Nat}{bs:C_ Nat}{e:C_ F_}{b c:A_}(h:e1 d bs e b c)(f:∀g∈bs,g<B):KeepsFrom B b c :=
 Mod.keeps h λi m a=>by
  rcases a with a | ⟨_,j,k,l,_,a⟩
  .have:=f i a;omega
  .exact⟨j,k,l,a⟩
def e1.h1{j n0:Nat}{bs:C_ Nat}{k tys:C_ F_}{d l:A_}(h:e1 j bs k d l)(p:n0<=d.heap.size)(s:n0<=j)(m:∀n∈bs,n0<=n/\∀e b f,d.heap[n]? = some (.cells e b f)->b∉tys)(q:∀b∈k,b∉tys):qh n0 tys d l :=
 Mod.h1 h p (λg i a=>by
  rcases a with a | ⟨a,_⟩
  .have:=(m g a).1;omega
  .omega) λg e b f a i=>by
  rcases a with a | ⟨_,t,u,v,r,c⟩
  .exact(m g a).2 e b f i
  .rw[i] at c;injection c with c;injection c with _ c;subst c;exact q _ r
theorem e1.from{bs:C_ Nat}{f:C_ F_}{w d e:A_}(h:Mod (λb=>b∈bs) w d)(c:e1 w.heap.size bs f d e):Mod (λb=>b∈bs) w e :=
 h.comp c (λ_ _ a=>a) λb g a=>by
  rcases a with a | ⟨a,_⟩
  .exact a
  .omega
theorem e1.obj{j:Nat}{bs:C_ Nat}{e:C_ F_}{g i:A_}(h:e1 j bs e g i){k:Nat}{c:Array B_}{t:F_}{f:Nat×Nat}(b:g.heap[k]? = some (.cells c t f))(l:k∉bs)(m:t∉e):i.heap[k]? = some (.cells c t f):=by
 rw[Mod.block h k (cf b) λd=>?_]
 .exact b
 .rcases d with d | ⟨_,p,q,r,n,a⟩
  .exact l d
  .rw[b] at a;injection a with a;injection a with _ a;subst a;exact m n
theorem e1.ext{b:Nat}{bs:C_ Nat}{e:C_ F_}{w c d:A_}(h:e1 b bs e c d)(f:Ext w c)(k:w.heap.size<=b)(g:∀i∈bs,w.heap.size<=i):Ext w d :=
 Mod.ext h f λj l a=>by
  rcases a with a | ⟨a,_⟩
  .have:=g j a;omega
  .omega
end
end ba
namespace Go.Proofs.R
open Go ba Go.Proofs
def D.k:yR:=⟨37,[.tmp 2], (.hT (.cN [dm 2 (.const hy)]) (.hT (b2 [aM 8 0,gd 9 8,mc .eql T.a 10 9 0] (ir 10 (b2 [c6 11 (.hk T.b 0 1 [] []),c6 12 (.hk T.d 1 1 [hy] [(0,(aN 11))]),aM 2 12] .ret) .skip)) (.hT (.cN [aM 13 0,ck 14 (.kB 2 (aN 13) (some (bP 1)) none none),qa 15 F.k [14],c6 3 (.new T.x hy),ys 3 15]) (.hT (.cN [c6 4 (.new T.x hy)]) (.u9 (.hT (.cN [aM 16 0,ck 17 (.pn 2 (aN 16) (bP 0)),fs 18 1 17,dD 19 18,qa 20 F.fi [19]]) (.b0 0 (.sE (aN 20) 21 (.cN [aM 5 21]) (.b0 1 (b2 [dD 22 3,gd 23 22,dm 24 (bP 0)] (.b0 2 (.loop (b2 [gR .lss T.a 25 24 23] (n8 25 2
 (.seq (.b0 3 (b2 [gQ 26 1 22 24,dD 27 26,aM 7 27] (.p5 (nC (dD 28 4) (nC (aM 29 5) (nC (aM 31 7) (.alt (c6 30 (.hk T.b 1 1 [hy] [(0,(aN 29))])) (.alt (c6 32 (.app T.d T.b 1 24 (aN 30) (aN 31))) (.alt (c6 33 (.hk T.d 1 1 [hy] [(0,(aN 32))])) (.gw (c6 34 (.app T.x T.d 1 24 (aN 28) (aN 33))) (.gw (ys 4 34) .done .nil) .nil) .nil) .nil) .nil))))))) (n7 T.a 35 24))))))))))) (b2 [dD 36 4,aM 2 36] .ret))))))⟩
theorem yG.k:zf Tryz.prog F.k=some D.k:=Cl
def D.dy:yR:=⟨37,[.tmp 2], (.hT (.cN [c6 1 (.box T.e (aN 0)),dm 2 (.const hy)]) (.hT (.cN [c6 3 (.new T.u hy)]) (.hT (.cN [ck 8 (.hW [dg,dg] [(0,1),(1,1)] [(0,(bP (-1)))]),c6 4 (.new T.a dg),c6 5 (.new T.c (.agg #[dg,dg])),hE (.st (aN 4) (bP (-1))),sK 2 5 8]) (.u9 (.hT (.cN [m9 9 5 1,qa 10 F.y1 [9]]) (.b0 0 (.sE (aN 10) 11 (.cN [c6 6 (.new T.c (.agg #[dg,dg])),sK 2 6 11]) (.b0 1 (.seq (b2 [m9 12 2 6,m9 13 2 5,gR .neq T.c 14 12 13] (ir 14 (.cN [dD 15 4,mc .add T.a 16 15 1,ys 4 16]) .skip)) (b2 [m9 17 2 6,sK 2 5 17] (b2 [fs 18 3 1,dD 19 18,fs 20 0 6,dD 21 20,gQ 22 5 19 21,fs 23 4 22,dD 24 23,gd 25 24,dm 26 (bP 0)] (.b0 2 (.loop (b2 [gR .lss T.a 27 26 25] (n8 27 2
 (.seq (.b0 3 (b2 [aM 28 26,aM 7 28] (.cN [dD 29 3,dD 30 4,aM 31 7,ck 32 (.hW [dg,dg] [(0,1),(1,1)] [(0,(aN 30)),(1,(aN 31))]),c6 33 (.hk T.i 1 2 [dg,dg] [(0,(aN 32))]),c6 34 (.app T.u T.i 2 16 (aN 29) (aN 33)),ys 3 34]))) (n7 T.a 35 26))))))))))))) (b2 [dD 36 3,aM 2 36] .ret)))))⟩
theorem yG.dy:zf Tryz.prog F.dy=some D.dy:=Cl
def D.aH:yR:=⟨13,[.tmp 4], (.hT (.cN [c6 2 (.box T.as (aN 0)),dm 4 (.const hy)]) (.u9 (.hT (.cN [aM 6 1]) (.b0 0 (.sE (aN 6) 7 (.cN [c6 5 (.new T.c (.agg #[dg,dg])),sK 2 5 7]) (.b0 1 (.cN [dD 8 2,m9 9 2 5,c6 10 (.hk T.c 1 2 [dg,dg] [(0,(aN 9))]),c6 11 (.app T.as T.c 2 16 (aN 8) (aN 10)),ys 2 11]))))) (b2 [dD 12 2,aM 4 12] .ret)))⟩
theorem yG.aH:zf Tryz.prog F.aH=some D.aH:=Cl
def D.t:yR:=⟨19,[], (.hT (.cN [c6 2 (.box T.qm (aN 0))]) (.hT (b2 [dD 4 1,mc .lss T.a 5 4 0,aM 6 5,At 6 (dD 7 1),At 6 (mc .gtr T.a 8 7 8),n9 9 6 8] (ir 9 .ret .skip)) (.hT (.cN [dD 10 1,qa 11 F.eQ [10]]) (.b0 0 (.sE (aN 11) 12 (.cN [aM 3 12]) (.b0 1 (.seq (.p5 (nC (dD 13 2) (nC (dD 14 1) (nC (aM 15 3) (.alt (qa 16 F.fK [14,15]) (.gw (fv 17 (.val (aN 13) [(aN 16)])) (nC (ck 18 (.un .not (aN 17))) .done) .nil) .nil))))) (ir 18 .ret .skip))))))))⟩
theorem yG.t:zf Tryz.prog F.t=some D.t:=Cl
end Go.Proofs.R
namespace o
open Go Go.RowKit ba
def aaO(x:c9):s3 ah5 x.enc:=⟨⟨_,rfl⟩,⟨_,rfl⟩,trivial⟩
def asH(x y:c9)(h:x.enc=y.enc):x=y:=by cases x;cases y;simpa[c9.enc] using h
abbrev yW(m:Model):={a:c9 // a.of m}
end o
namespace ba
open Go Go.RowKit
def Ext.RI{w w':A_}(h:Ext w w'):w.grownBy w' none:=⟨h.os,h.tape,h.output,h.size,λb a _=>h.heap a⟩
end ba
namespace Go.Proofs.R
open Go Go.RowKit ba o
def amY(cs:C_ B_)(m:o.Model)(p:ed)(b dN:B_)(w:A_)(h:dU w cs m) :
  EL F.Ky #[.agg cs.toArray,.agg (p.enc b dN).toArray] w λc a=>c = .I (o.elems m p)/\Ext w a:=by
 obtain⟨k,l,n,bg,q,bj,r,s,t,u,rfl,d,v,x,y,z,A,B,C,G,H⟩:=h.form;refine bn E.Ky ?_;refine ad ?_;intro I J K e L;refine ad ?_;intro f M N g O;have dh:∀{a},Ext f a->Ext w a:=λi=>(e.trans g).trans i;refine ad ?_;rw[o.elems];apply I_<;>intro P
 .refine ad ?_;rw[hv (.inl AY)];exact⟨aV,dh (Ext.refl _)⟩
 refine ad ?_;apply I_<;>intro Q
 .refine ad ?_;rw[hv (.inr AY)];exact⟨aV,dh (Ext.refl _)⟩
 have j:(p.over - 1).toNat<m.scalars.length:=AY
 obtain⟨S,rfl⟩:=d.addr;rw[ik AY AY];refine ad ?_;refine M_ (p.over - 1).toNat AY j ?_;refine ad ?_;apply I_<;>intro U
 .refine ad ?_;refine⟨?_,dh (Ext.refl _)⟩;rw[if_pos AY];rfl
 refine ad ?_;apply I_<;>intro V
 .refine ad ?_;refine⟨?_,dh (Ext.refl _)⟩;rw[if_pos AY];rfl
 refine ad ?_;refine⟨?_,dh (Ext.refl _)⟩;rw[if_neg AY];congr 1;omega
def awR(cs:C_ B_)(m:o.Model)(p:ed)(b dN:B_)(w:A_)(h:dU w cs m) :
  EL F.Np #[.agg cs.toArray,.agg (p.enc b dN).toArray] w λc a=>c = .I (o.elems m p)/\Ext w a:=by
 obtain⟨k,l,n,bg,q,bj,r,s,t,u,rfl,d,v,x,y,z,A,B,C,G,H⟩:=h.form;refine bn E.Np ?_;refine ad ?_;intro I J K e L;refine ad ?_;intro f M N g O;have dh:∀{a},Ext f a->Ext w a:=λi=>(e.trans g).trans i;refine ad ?_;rw[o.elems];apply I_<;>intro P
 .refine ad ?_;rw[hv (.inl AY)];exact⟨aV,dh (Ext.refl _)⟩
 refine ad ?_;apply I_<;>intro Q
 .refine ad ?_;rw[hv (.inr AY)];exact⟨aV,dh (Ext.refl _)⟩
 have j:(p.over - 1).toNat<m.scalars.length:=AY
 obtain⟨S,rfl⟩:=d.addr;rw[ik AY AY];refine ad ?_;refine M_ (p.over - 1).toNat AY j ?_;refine ad ?_;apply I_<;>intro U
 .refine ad ?_;refine⟨?_,dh (Ext.refl _)⟩;rw[if_pos AY];rfl
 refine ad ?_;apply I_<;>intro V
 .refine ad ?_;refine⟨?_,dh (Ext.refl _)⟩;rw[if_pos AY];rfl
 refine ad ?_;refine⟨?_,dh (Ext.refl _)⟩;rw[if_neg AY];congr 1;omega
def aeT(x:c9):B_:=.agg x.enc.toArray
def ae0{f w0:A_}{b:Nat}{cs:C_ B_}{m:o.Model}(I:w0.heap[b]? = some (.cells cs.toArray T.e))(h:dU f cs m)(al:Ext f w0) :
  SeqStopsK Fence.wide 0 Tryz.prog F.s #[.pointer (some ⟨b,0,none⟩)] (λan:yW m=>#[aeT an.1]) (qh f.heap.size [T.af,T.e]) (λp=>p.map Subtype.val=o.insts m) (λ_=>True) (o.insts m).length w0:=by
 intro ao g aq J K ar a3 L au;have av:Ext f J:=al.trans K;have M:=Ext.obj (w:=w0) K I;obtain⟨aw,ax,ay,bg,az,bj,aB,aC,aD,aE,rfl,a5,a7,a8,N,a9,bb,bf,bk,bl,bo⟩:=h.form;refine callsIn_wide.2 (Calls.mono (show EL F.s #[.func (.yield ao) #[] #[],.pointer (some ⟨b,0,none⟩)] J (λ_ u=>(∃p,p.map Subtype.val=o.insts m/\g p u)\/(∃pre:C_ (yW m),True/\aq pre u)) from ?_) λd u ⟨aF,e,v⟩=>⟨⟨aF,e⟩,v⟩);have O:∀{pre:C_ (yW m)} {q c:A_},g pre q->Ext q c->g pre c:=λ{pre q c} P d=>ar pre q c none P d.RI (λr d=>by cases d);refine bn E.s ?_;refine ad ?_;refine K_ 9 m.procs.length [0,1,7,8] (λ_=>[]) ([]:C_ (yW m)) (λa pre c=>(Ext f c/\c.heap[b]? = some (.cells #[.slice aw m.scalars.length ax,.slice ay m.vars.length bg,.slice az m.aA.length bj,.slice aB m.procs.length aC,.slice aD m.props.length aE] T.e)/\g pre c)/\pre.map Subtype.val++ky m (m.procs.drop a) a=o.insts m) aW aW ⟨⟨av,M,au⟩,by simp[o.insts]⟩ ?_;clear M I;rintro a pre Q bp bq ⟨⟨S,U,V⟩,i⟩;refine ad ?_;apply I_<;>intro bt
 .have j:a<m.procs.length:=AY
  obtain⟨bu,rfl⟩:=N.addr;obtain⟨bw,bx,dN,bz,aG,aH⟩:=N.at a j;obtain⟨_,_,rfl,_⟩:=aG.form;obtain⟨_,_,rfl,_⟩:=aH.form;rw[aeV j] at i;have bA:=cf U;refine eA ?_;simp -dsimp only[cD];refine eA ?_;simp -dsimp only[cD];refine eA ?_;intro bB w aI aJ bC;refine eA ?_;intro x aK W;have s:=aK.ext aJ aI;have X:=s.obj U;have Y:=O V s;have aL:∀(y:C_ (yW m)) (r:C_ c9),y.map Subtype.val++r=o.insts m->r≠[]->y.length<(o.insts m).length:=λy r d aP=>by
   rw[<-d,JM,AG8]
   have:=List.length_pos_iff.2 aP
   omega
  have bD:=F6 m m.procs[a];refine eA ?_;refine R_ [0,1,3,4,7,8,9] (λ_=>[]) (λ(k:C_ (yW m)) c=>(Ext f c/\c.heap[w]? = x.heap[w]? /\ c.heap[b]? = x.heap[b]? /\ g k c)/\k.map Subtype.val=pre.map Subtype.val++jw a m.procs[a]) ?_ ?_
  .refine ad ?_;apply I_<;>intro Z
   .have e:jw a m.procs[a]=[⟨(a:Int),0⟩]:=by unfold jw;rw[if_pos Z]
    rw[e] at i;refine ad ?_;refine _v (L pre ⟨⟨(a:Int),0⟩,Ah,by simpa using j,Ah⟩ x Y (aL pre _ (by simpa[List.append_assoc] using i) Ah)) ?_;rintro d ab (⟨rfl,l,z⟩ | ⟨rfl,l⟩)
    .refine⟨.bool true,rfl,?_⟩;refine ad ?_;exact⟨_,trivial,⟨Below.trans (Ext.trans S s) z.1,z.2 w _ _ _ W Ah,z.2 b _ _ _ X Ah,l⟩,by simp[e]⟩
    .refine⟨.bool false,rfl,?_⟩;refine ad ?_;exact .inr ⟨_,trivial,l⟩
   .have e:jw a m.procs[a]=[]:=by unfold jw;rw[if_neg Z]
    refine ad ?_;exact⟨pre,trivial,⟨S.trans s,aV,aV,Y⟩,by simp[e]⟩
  rintro A Q ab ⟨⟨ae,aQ,af,l⟩,aR⟩;rw[W] at aQ;rw[X] at af;refine ad ?_;refine J_ (amY _ m m.procs[a] _ _ ab (h.ext ae)) ?_;rintro _ aS ⟨rfl,B⟩;have aU:=O l B;have ag:=B.obj af;have aX:=ae.trans B;have ah:A.map Subtype.val++ki a (o.elems m m.procs[a])++ky m (m.procs.drop (a+1)) (a+1)=o.insts m:=by rw[aR,<-i];simp
  refine ad ?_;refine K_ 27 (o.elems m m.procs[a]) [0,1,3,7,8,9,26] (λ_=>[]) A (λn k c=>(Ext f c/\c.heap[b]? = aS.heap[b]? /\ g k c)/\k.map Subtype.val=A.map Subtype.val++ki a n) aW aW ⟨⟨aX,rfl,aU⟩,by simp[ki]⟩ ?_;rintro n C Q aY P ⟨⟨ai,t,aj⟩,G⟩;rw[ag] at t;refine ad ?_;apply I_<;>intro bE
  .have aZ:n<o.elems m m.procs[a]:=AY
   have a0:C.length<(o.insts m).length:=by
    have e:=congrArg List.length ah;have v:=congrArg List.length G;simp only[List.length_append,List.length_map,ki,List.length_range] at e v;omega
   refine ad ?_;refine _v (L C ⟨⟨(a:Int),(n:Int)+1⟩,Ah,by simpa using j,by constructor<;>simp<;>omega⟩ aY aj a0) ?_;rintro d bG (⟨rfl,H,ak⟩ | ⟨rfl,H⟩)
   .refine⟨.bool true,rfl,?_⟩;refine ad ?_;exact⟨aZ,aV,_,trivial,⟨Below.trans ai ak.1,by rw[ak.2 b _ _ _ t Ah,t,ag],H⟩,by simp[G,agq]⟩
   .refine⟨.bool false,rfl,?_⟩;refine ad ?_;exact .inr ⟨_,trivial,H⟩
  .have a1:n=o.elems m m.procs[a]:=AY
   subst a1;refine ad ?_;exact⟨j,aV,C,trivial,⟨ai,t,aj⟩,by rw[G];exact ah⟩
 .refine ad ?_;rw[VQ AY] at i;exact .inl ⟨pre,by simpa[ky] using i,V⟩
end Go.Proofs.R
namespace ba
open Go Go.RowKit
def ZR(a t:F_)(sz b:Nat)(c:Array B_):yR:=⟨13,[.tmp 4],
 (.hT (.cN [c6 2 (.box a (aN 0)),dm 4 (.const (.slice none 0 0))])
 (.u9 (.hT (.cN [aM 6 1])
 (.b0 0 (.sE (aN 6) 7 (.cN [c6 5 (.new t (.agg c)),hE (.mF sz (aN 5) (aN 7))]) (.b0 1 (.cN [dD 8 2,na 9 (.lb sz (aN 5)),c6 10 (.hk t 1 sz c.toList [(0,(aN 9))]),c6 11 (.app a t sz b (aN 8) (aN 10)),ys 2 11])))))
 (.seq (.cN [dD 12 2,aM 4 12])
 .ret)))⟩
theorem afr:∀(b pre a:C_ B_),b.length<=a.length->(b.zipIdx pre.length).foldl (λg (e:B_×Nat)=>g.set (0+e.2) e.1) (pre++a)=pre++b++a.drop b.length
 | [],pre,a,_=>Ah
 | c :: b,pre,[],d=>by simp at d
 | c :: b,pre,h :: a,d=>by
  have f:=afr b (pre++[c]) a (by simpa using d);simp only[List.length_append,List.length_cons,List.length_nil] at f;simp only[List.zipIdx_cons,List.foldl_cons,List.length_cons,List.drop_succ_cons];rw[show(pre++h :: a).set (0+pre.length) c=(pre++[c])++a from Ah,f];simp
def anT{S:Fr}{sz:Nat}{a cs:C_ B_}{t:Nat}(c:S t = .agg cs.toArray)(d:cs.length=sz)(h:a.length=sz)(i:0<sz):gv S ((List.range 1).map λb=>(b*sz,sz)) [(0,.tmp t)] a=some cs:=by
 have e:lay a 0 (.agg cs.toArray)=cs:=by
  have:=afr cs [] a AY
  simp only[List.nil_append,List.length_nil] at this;unfold lay;simp only[Value.cells];rw[this,VQ AY,AG5]
 have f:(br S (.tmp t)).cells.size=sz:=by
  show(S t).cells.size=sz;rw[c];simp[Value.cells,d]
 have g:((List.range 1).map λb=>(b*sz,sz))[0]? = some (0,sz):=Ah
 unfold gv;simp only[g];rw[if_pos ⟨f,AY⟩];unfold gv;show some (lay a 0 (S t))=_;rw[c,e]
section
variable{α:Type}{P:Program}{f:FuncId}{t cW:TypeId}{sz b:Nat}{enc:α->List Value}{z:Array Value}
def akx(n:P.follows .mixedOrders=true)(an:zf P f=some (ZR cW t sz b z))(W:z.size=sz)(A:∀g,(enc g).length=sz)(X:∀g,∀ao∈enc g,ao.oneCell'=true)(aq:0<sz)
  {J:Nat}{Y:Array B_}{n0:Nat}{tys:C_ F_}{Z ar:C_ α->Prop}{B:Nat}{w0 w:A_}(au:okF P J=true)
  (av:SeqStopsK Fence.wide 0 P J Y (λg=>#[.agg (enc g).toArray]) (qh n0 tys) Z ar B w0)(aw:Ext w0 w)(ax:n0<=w.heap.size)(ay:t∉tys)(az:cW∉tys)(ab:cW≠t)(aB:B*b<=140737488355328)(a5:B<=maxLen) :
  a2 P f #[.slice none 0 0,.func (.func J) #[] Y] w λaC ae=>(∃C,Z C/\aT enc t sz w.heap.size ae aC C)/\Ext w ae:=by
 refine gm.start n an (args:=[_,_]) (Nat.le_of_ble_eq_true rfl) ?_;dsimp only[ZR,aN,bP,hV,ck,na,c6,fv,hE,cO,aM,dm,fs,dD,gQ,ys,gd];refine gm.hT ?_;refine ad ?_;intro G h a7 u af;refine ad ?_;refine gm.u9 (gm.hT ?_);simp -dsimp only[c7,cD,Nat.reduceAdd,Nat.reduceEqDiff,reduceIte,reduceCtorEq,dt];refine gm.b0 (gm.sE (w0:=w0) (enc:=λg=>.agg (enc g).toArray) (by simp[dE,bR]) au av (aw.trans u) (qh.ok tys (Ug ax u.size))
  (λpre r=>Mod (λc=>c=h) G r/\∃(i:H_ Addr) (j k:Nat),r.heap[h]? = some (.cells #[.slice i j k] cW)/\aT enc t sz G.heap.size r (.slice i j k) pre) ?_ ⟨Mod.refl _ _,none,0,0,af,aT.nil _ _ _ _ _⟩ ?_ ?_)
 .rintro pre r a8 row ⟨n,i,j,k,K,p⟩ L M;refine⟨n.high L λaD l=>(M aD l).1,i,j,k,?_,p.mod (Mod.grown (A:=λc=>row=some c) L λc l=>l) λc d a=>?_⟩
  .rw[L.block h (cf K) λl=>?_]
   .exact K
   .obtain⟨aE,m,N⟩:=(M h l.symm).2;rw[K] at m;injection m with m;subst m;cases N
  .obtain⟨v,e⟩:=p.b0 c d;obtain⟨aE,m,N⟩:=(M c a).2;rw[e] at m;injection m with m;subst m;cases N
 .rintro pre g r ⟨n,i,j,k,O,p⟩ aF;have a9:=cf af;have bb:=n.size
  try (simp -dsimp only[c7,cD,Nat.reduceAdd,Nat.reduceEqDiff,reduceIte,reduceCtorEq,dt])
  refine O_ λg3 bf aG aH aI=>?_
  try (simp -dsimp only[c7,cD,Nat.reduceAdd,Nat.reduceEqDiff,reduceIte,reduceCtorEq,dt])
  refine X_ aI W (by simpa using A g) (by simpa using X g) λeT aJ aK=>?_
  try (simp -dsimp only[c7,cD,Nat.reduceAdd,Nat.reduceEqDiff,reduceIte,reduceCtorEq,dt])
  have q:=aJ.ext aH aG;refine⟨q.keeps _,q.h1 AY,λiX Q=>?_⟩;obtain⟨aL,bk,aP,H⟩:=Q.mod;have aQ:=Q.cells aK;have I:=Q.cells (q.obj O);have x:aT enc t sz G.heap.size iX (.slice i j k) pre:=(p.ext q).mod H λc d a=>by
   subst a;obtain⟨v,e⟩:=(p.ext q).b0 c d;exact aP _ _ _ e
  try (simp -dsimp only[c7,cD,Nat.reduceAdd,Nat.reduceEqDiff,reduceIte,reduceCtorEq,dt])
  refine _C I (Ext.refl _) rfl ?_
  try (simp -dsimp only[c7,cD,Nat.reduceAdd,Nat.reduceEqDiff,reduceIte,reduceCtorEq,dt])
  refine Y_ (g5 aQ) (A g) ?_
  try (simp -dsimp only[c7,cD,Nat.reduceAdd,Nat.reduceEqDiff,reduceIte,reduceCtorEq,dt])
  refine _D (anT (cs:=enc g) (by simp[bR]) (A g) (by simpa using W) aq) λoY bl bo y aR=>?_
  try (simp -dsimp only[c7,cD,Nat.reduceAdd,Nat.reduceEqDiff,reduceIte,reduceCtorEq,dt])
  have aS:pre.length+1<=B:=aF;refine _I (ys:=[g]) (x.ext y) A (by simpa using g5 aR) rfl X (Ug (AJ2 b aS) aB) (by simp only[List.length_cons,List.length_nil];omega) (by have:=H.size;have:=y.size;have:=q.size;omega) λbp j2 S ag bq=>?_;obtain⟨aU,aX,rfl,_⟩:=S.form;have U:=y.obj I;have ah:j2.heap[h]? = some (.cells #[.slice i j k] cW):=by
   rw[ag.block h (cf U) λl=>?_]
   .exact U
   .obtain⟨v,e⟩:=(x.ext y).b0 h l.symm;rw[U] at e;injection e with e;injection e with _ e;exact ab e
  try (simp -dsimp only[c7,cD,Nat.reduceAdd,Nat.reduceEqDiff,reduceIte,reduceCtorEq,dt])
  refine _i ah Ah rfl λj3 ai aY=>?_
  try (simp -dsimp only[c7,cD,Nat.reduceAdd,Nat.reduceEqDiff,reduceIte,reduceCtorEq,dt])
  have aj:∀c,(Value.slice i j k).ownBlock=some c->G.heap.size<=c:=λc d=>(x.lt c d).1;have aZ:Mod (λc=>(Value.slice i j k).ownBlock=some c\/c=h) oY j3:=(Mod.grown (A:=λc=>(Value.slice i j k).ownBlock=some c) ag λc l=>l).comp (A':=λc=>c=h) (ai.mod rfl) (λ_ _ a=>.inl a) (λ_ _ a=>.inr a);have V:Mod (λc=>(Value.slice i j k).ownBlock=some c\/c=h) iX j3:=y.mod.comp aZ (A:=λ_=>False) (λ_ _ s=>s.elim) (λ_ _ s=>s);refine⟨V.keeps λc d a=>?_,V.h1 (by have:=H.size;have:=q.size;omega) (λc d a=>?_) (λc bt bu bw a d ak=>?_),?_,aU,_,aX,aY,?_⟩
  .rcases a with a | a
   .obtain⟨v,e⟩:=x.b0 c a;exact⟨_,_,_,e⟩
   .subst a;exact⟨_,_,_,I⟩
  .rcases a with a | a
   .have:=aj c a;have:=u.size;omega
   .omega
  .rcases a with a | a
   .obtain⟨v,e⟩:=x.b0 c a;rw[e] at d;injection d with d;injection d with _ d;subst d;exact ay ak
   .subst a;rw[I] at d;injection d with d;injection d with _ d;subst d;exact az ak
  .refine(n.comp (B:=λc=>c=h) (A':=λc=>(Value.slice i j k).ownBlock=some c\/c=h\/c=aL) ?_ (λ_ _ a=>a) λc d a=>?_)
   .exact(q.mod (A:=λ_=>False)).comp (H.comp V (λ_ _ a=>(Or.inr (Or.inr a):_\/_\/_)) (λ_ _ a=>by rcases a with a | a;exact .inl a;exact .inr (.inl a))) (λ_ _ s=>s.elim) (λ_ _ s=>s)
   .rcases a with a | a | a
    .have:=aj c a;omega
    .exact a
    .omega
  .refine S.mod (ai.mod (A:=λc=>c=h) rfl) λc d a=>?_;subst a;obtain⟨v,e⟩:=S.b0 c d;rw[ah] at e;injection e with e;injection e with _ e;exact ab e
 .rintro D C r a0 a1 ⟨n,i,j,k,O,p⟩ al;simp -dsimp only[c7,cD,Nat.reduceAdd,Nat.reduceEqDiff,reduceIte,reduceCtorEq,dt];refine _C O (Ext.refl _) rfl ?_;simp -dsimp only[c7,cD,Nat.reduceAdd,Nat.reduceEqDiff,reduceIte,reduceCtorEq,dt];refine gm.ret al ?_;simp -dsimp only[c7,cD,Nat.reduceAdd,Nat.reduceEqDiff,reduceIte,reduceCtorEq,dt];have a3:Ext w r:=n.ext u λc d l=>AY
  refine⟨⟨C,a1,(p.mod (A:=λc=>c=D) ((dX.fZ _ _ _).mod rfl) λc d a=>?_).low u.size⟩,a3.fZ (Ug u.size a0) _⟩;subst a;obtain⟨v,e⟩:=p.b0 c d;rw[al] at e;injection e with e;cases e
end
end ba