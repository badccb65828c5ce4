/- Parts. -/
import Derived.Test.YtlhljkikdhblbaaGreatDoorQsgg
import Derived.RangeFuncWrites
set_option linter.all false
set_option maxRecDepth 100000
set_option maxHeartbeats 16000000
namespace Go.Proofs.R
open Go Go.RowKit a8 o
def ahP(a b:Int)(w:A_):EG F.HJ #[.I a,.I b] w λc d=>c = .bool (o.narrow a b)/\d=w:=by
 refine bm E.HJ ?_
 (repeat' first
  | (refine I_ (λ_=>?_) (λ_=>?_)<;>try (exfalso;omega))
  | (refine N_ (λ_=>?_) (λ_=>?_))
  | (refine Q_ AW ?_)
  | (refine L_ CW ?_)
  | (refine _b AW ?_)
  | simp -dsimp only[c8,cA,Nat.reduceAdd,Nat.reduceEqDiff,reduceIte,reduceCtorEq,dq])
 all_goals (refine⟨?_,by first | rfl | trivial⟩;congr 1;rw[AH4];simp[o.narrow];omega)
def OU(v:o.Var)(s:C_ o.Scalar):Int :=
 if (v.scalar≠0/\o.size v.scalar s=0)\/(v.over≠0/\o.size v.over s=0) then 8
 else if v.scalar=0/\(o.narrow v.aQ v.ab=false\/v.init<v.aQ\/v.init > v.ab) then 10
 else if v.scalar≠0/\(v.init<0\/v.init > o.size v.scalar s) then 10 else 0
def ayw(l:C_ o.Var)(s:C_ o.Scalar)(i:Nat)(h:i<l.length):q1 l s i=OU l[i] s:=by
 rw[q1,List.getElem?_eq_getElem h];simp only[OU,o.there,o.bounds,decide_eq_false_iff_not];by_cases b:l[i].scalar=0
 .simp only[b,if_true];by_cases a:l[i].over=0
  .simp[a]
  .simp[a]
 .simp only[b,if_false];by_cases a:l[i].over=0
  .simp[b,a]
  .simp[b,a]
def awy(x:o.Var)(v:B_)(l:C_ o.Scalar)(w:A_)(f:hC w v l) :
  EG F.MX #[.agg x.enc.toArray,v] w λv b=>v = .I (OU x l)/\Ext w b:=by
 obtain⟨m,n,rfl,s⟩:=f.form;refine bm E.MX ?_;simp -dsimp only[c8,cA,Nat.reduceAdd,Nat.reduceEqDiff,reduceIte,reduceCtorEq,dq];refine O_ λa c t g d=>?_;have h:=a4.ext jM.ext g f;have bg:a.cell? (Addr.add ⟨c,0,none⟩ 1)=some (.I x.scalar):=gD d rfl;have bj:a.cell? (Addr.add ⟨c,0,none⟩ 2)=some (.I x.over):=gD d rfl;have u:a.cell? (Addr.add ⟨c,0,none⟩ 3)=some (.I x.aQ):=gD d rfl;have y:a.cell? (Addr.add ⟨c,0,none⟩ 4)=some (.I x.ab):=gD d rfl;have z:a.cell? (Addr.add ⟨c,0,none⟩ 5)=some (.I x.init):=gD d rfl;have p:∀e b,Ext a b->EG F.HI #[.slice m l.length n,.I e] b λq i=>q = .I (o.size e l)/\Ext b i:=λe b r =>
  (Ew e _ l b (a4.ext jM.ext r h)).mono λv i j=>⟨j.1,j.2 ▸ Ext.refl _⟩
 (repeat' first
  | (refine I_ (λ_=>?_) (λ_=>?_)<;>try (exfalso;omega))
  | (refine N_ (λ_=>?_) (λ_=>?_))
  | (refine L_ CW ?_)
  | (refine J_ (Ew _ _ l _ h) ?_;rintro _ a ⟨rfl,rfl⟩)
  | (refine J_ (ahP _ _ _) ?_;rintro _ a ⟨rfl,rfl⟩)
  | (refine P_ _ (p _) ?_)
  | simp -dsimp only[c8,cA,Nat.reduceAdd,Nat.reduceEqDiff,reduceIte,reduceCtorEq,dq]
  | (intro A k;replace k:=g.trans k))
 all_goals (refine⟨?_,CW⟩;congr 1;unfold OU;simp only[o.narrow,decide_eq_false_iff_not])
 all_goals (repeat' split)
 all_goals first | rfl | (exfalso;omega)
def agF(v M:B_)(l:C_ o.Var)(s:C_ o.Scalar)(fR:Int)(w:A_)(z:jO w v l)(W:hC w M s) :
  EG F.MW #[v,M,.I fR] w λv n=>v = .tuple #[.I (o.vars l s fR).1,.I (o.vars l s fR).2]/\Ext w n:=by
 obtain⟨ak,al,rfl,an⟩:=z.form;refine bm E.MW ?_;simp -dsimp only[c8,cA,Nat.reduceAdd,Nat.reduceEqDiff,reduceIte,reduceCtorEq,dq];refine Z_ (λp n => ∃e:Nat,e<=l.length/\p 8 = .I e/\(∀f,f<e->o.err (max fR 0) (o.nameAt (·.name) l) (q1 l s) f=0)/\Ext w n)
  (λp _=>(l.length - intOf (p 8)).toNat) ⟨0,AW,by simp -dsimp only[c8,cA,Nat.reduceAdd,Nat.reduceEqDiff,reduceIte,reduceCtorEq,dq];rfl,λ_ H=>absurd H (Og _),Ext.refl _⟩ ?_
 rintro p n A ⟨e,ao,d,q,r⟩;have a:=A 0 rfl;have b:=A 1 rfl;have c:=A 2 rfl;simp only[bS,Nat.reduceAdd,Nat.reduceEqDiff,reduceIte,kK,oE] at a b c;clear A;refine cg (i_ a (i_ b (i_ c d))) ?_;apply I_<;>intro aq;rotate_left
 .refine cg (i_ a (i_ b (i_ c d))) ?_;rw[o.vars,qv (λf I=>q f AW)];exact⟨rfl,r⟩
 have h:e<l.length:=AW
 obtain⟨ar,rfl⟩:=z.addr;have k:=a4.ext ra.ext r z;have J:=(k.at e h).cells 0 _ rfl;have X:kq l[e].name:=(k.at e h).ok;have B:o.nameAt (λj:o.Var=>j.name) l e=l[e].name:=tG _ _ _ h;refine cg (i_ a (i_ b (i_ c d))) ?_;apply I_<;>intro au
 .refine cg (i_ a (i_ b (i_ c d))) ?_;rw[o.vars,kd h q (by rw[AZ AW];decide),AZ AW];exact⟨rfl,r⟩
 have C:¬(max fR 0:Int)<=(e:Int):=AW
 refine cg (i_ a (i_ b (i_ c d))) ?_;refine M_ e rfl h ?_;refine cg (i_ a (i_ b (i_ c d))) ?_;refine L_ J ?_;refine cg (i_ a (i_ b (i_ c d))) ?_;refine J_ (Ez _ _ X) ?_;rintro _ av ⟨rfl,G⟩;refine cg (i_ a (i_ b (i_ c d))) ?_;refine N_ (λu=>?_) (λu=>?_);rotate_left
 .refine cg (i_ a (i_ b (i_ c d))) ?_;rw[<-B] at u;rw[o.vars,kd h q (by rw[Dh C u];decide),Dh C u];exact⟨rfl,r.trans G⟩
 have K:=u;rw[<-B] at K;replace G:=r.trans G;clear r k;refine cg (i_ a (i_ b (i_ c d))) ?_;refine Z_ (λY n => ∃i:Nat,i<=e/\Y 9 = .I i/\(∀f,f<i->o.nameAt (λj:o.Var=>j.name) l f≠o.nameAt (λj:o.Var=>j.name) l e)/\Ext w n)
  (λp _=>(e - intOf (p 9)).toNat) ⟨0,AW,by simp -dsimp only[c8,cA,Nat.reduceAdd,Nat.reduceEqDiff,reduceIte,reduceCtorEq,dq];rfl,λ_ H=>absurd H (Og _),G⟩ ?_
 rintro aw ax x ⟨i,az,g,N,y⟩;have Z:=a;have ab:=b;have ae:=c;have O:=d;have a:=x 0 rfl;have b:=x 1 rfl;have c:=x 2 rfl;have d:=x 8 rfl;simp only[bS,Nat.reduceAdd,Nat.reduceEqDiff,reduceIte,kK,oE] at a b c d;clear x;rw[Z] at a;rw[ab] at b;rw[ae] at c;rw[O] at d;have k:=a4.ext ra.ext y z;have J:=(k.at e h).cells 0 _ rfl;refine cg (i_ a (i_ b (i_ c (i_ d g)))) ?_;apply I_<;>intro aA
 .have L:i<l.length:=AW
  have af:=(k.at i L).cells 0 _ rfl;have P:o.nameAt (λj:o.Var=>j.name) l i=l[i].name:=tG _ _ _ L;refine cg (i_ a (i_ b (i_ c (i_ d g)))) ?_;refine M_ i rfl L ?_;refine cg (i_ a (i_ b (i_ c (i_ d g)))) ?_;refine L_ af ?_;refine cg (i_ a (i_ b (i_ c (i_ d g)))) ?_;refine M_ e rfl h ?_;refine cg (i_ a (i_ b (i_ c (i_ d g)))) ?_;refine L_ J ?_;refine cg (i_ a (i_ b (i_ c (i_ d g)))) ?_;intro ag m;apply I_<;>intro Q
  .refine cg (i_ a (i_ b (i_ c (i_ d g)))) ?_;have S:=Q3 (mo:=q1 l s) C K (show i<e by omega) (by rw[P,B];exact Q);rw[o.vars,kd h q (by rw[S];decide),S];exact⟨rfl,y.trans m⟩
  .refine cg (i_ a (i_ b (i_ c (i_ d g)))) ?_;refine Q_ AW ?_;refine cg (i_ a (i_ b (i_ c (i_ d g)))) ?_;refine⟨⟨i+1,AW,rfl,λf I=>?_,y.trans m⟩,by simp[intOf];omega⟩;by_cases ah:f<i
   .exact N f ah
   .have:f=i:=AW
    subst this;rw[P,B];exact Q
 have t:=Q2 (mo:=q1 l s) C K (λf I=>N f AW);rw[ayw l s e h] at t;have ai:=a4.ext jM.ext y W;have U:=(k.at e h).cells;generalize l[e]=j at U t;refine cg (i_ a (i_ b (i_ c (i_ d g)))) ?_;refine M_ e rfl h ?_;refine cg (i_ a (i_ b (i_ c (i_ d g)))) ?_;refine Y_ U rfl ?_;refine cg (i_ a (i_ b (i_ c (i_ d g)))) ?_;refine J_ (awy j _ s _ ai) ?_;rintro _ ag ⟨rfl,m⟩;replace m:=y.trans m;refine cg (i_ a (i_ b (i_ c (i_ d g)))) ?_;apply I_<;>intro V;rotate_left
 .refine cg (i_ a (i_ b (i_ c (i_ d g)))) ?_;rw[o.vars,kd h q (by rw[t];exact V),t];exact⟨rfl,m⟩
 .refine cg (i_ a (i_ b (i_ c (i_ d g)))) ?_;rw[V] at t;refine Q_ AW ?_;refine cg (i_ a (i_ b (i_ c (i_ d g)))) ?_;refine⟨⟨e+1,AW,rfl,λf I=>?_,m⟩,by simp[intOf,O];omega⟩;by_cases aj:f<e
  .exact q f aj
  .have:f=e:=AW
   subst this;exact t
def awn(v N:B_)(l:C_ ed)(s:C_ o.Scalar)(w:A_)(y:ot w v l)(Y:hC w N s) :
  EG F.MU #[v,N] w λv i=>v = .tuple #[.I (ay l s).1,.I (ay l s).2]/\Ext w i:=by
 obtain⟨ar,au,rfl,av⟩:=y.form;refine bm E.MU ?_;refine a1 ?_;refine Z_ (λq i => ∃a:Nat,a<=l.length/\q 6 = .I a/\(∀e,e<a->o.err 4 (o.nameAt (·.name) l) (qt l s) e=0)/\Ext w i)
  (λq _=>(l.length - intOf (q 6)).toNat) ⟨0,AW,by refine a1 ?_;rfl,λ_ r=>absurd r (Og _),Ext.refl _⟩ ?_
 rintro q i G ⟨a,aw,d,m,n⟩;have b:=G 0 rfl;have c:=G 1 rfl;simp only[bS,Nat.reduceAdd,Nat.reduceEqDiff,reduceIte,kK,oE] at b c;clear G;have ax:=afk AW m;simp -dsimp only[c8,cA,Nat.reduceAdd,Nat.reduceEqDiff,reduceIte,reduceCtorEq,dq,b,c,d];apply I_<;>intro az;rotate_left
 .simp -dsimp only[c8,cA,Nat.reduceAdd,Nat.reduceEqDiff,reduceIte,reduceCtorEq,dq,b,c,d];rw[ay,qv (λe H=>m e AW)];exact⟨rfl,n⟩
 have f:a<l.length:=AW
 obtain⟨aA,rfl⟩:=y.addr;have k:=a4.ext r5.ext n y;have I:=(k.at a f).cells 0 _ rfl;have Z:kq l[a].name:=(k.at a f).ok;have z:o.nameAt (λp:ed=>p.name) l a=l[a].name:=tG _ _ _ f;simp -dsimp only[c8,cA,Nat.reduceAdd,Nat.reduceEqDiff,reduceIte,reduceCtorEq,dq,b,c,d];apply I_<;>intro aB
 .simp -dsimp only[c8,cA,Nat.reduceAdd,Nat.reduceEqDiff,reduceIte,reduceCtorEq,dq,b,c,d];rw[ay,kd f m (by rw[AZ AW];decide),AZ AW];exact⟨rfl,n⟩
 have A:¬(4:Int)<=(a:Int):=AW
 simp -dsimp only[c8,cA,Nat.reduceAdd,Nat.reduceEqDiff,reduceIte,reduceCtorEq,dq,b,c,d];refine M_ a rfl f ?_;simp -dsimp only[c8,cA,Nat.reduceAdd,Nat.reduceEqDiff,reduceIte,reduceCtorEq,dq,b,c,d];refine L_ I ?_;simp -dsimp only[c8,cA,Nat.reduceAdd,Nat.reduceEqDiff,reduceIte,reduceCtorEq,dq,b,c,d];refine J_ (Ez _ _ Z) ?_;rintro _ aC ⟨rfl,B⟩;simp -dsimp only[c8,cA,Nat.reduceAdd,Nat.reduceEqDiff,reduceIte,reduceCtorEq,dq,b,c,d];refine N_ (λt=>?_) (λt=>?_);rotate_left
 .simp -dsimp only[c8,cA,Nat.reduceAdd,Nat.reduceEqDiff,reduceIte,reduceCtorEq,dq,b,c,d];rw[<-z] at t;rw[ay,kd f m (by rw[Dh A t];decide),Dh A t];exact⟨rfl,n.trans B⟩
 have J:=t;rw[<-z] at J;replace B:=n.trans B;clear n k;simp -dsimp only[c8,cA,Nat.reduceAdd,Nat.reduceEqDiff,reduceIte,reduceCtorEq,dq,b,c,d];refine Z_ (λab i => ∃h:Nat,h<=a/\ab 7 = .I h/\(∀e,e<h->o.nameAt (λp:ed=>p.name) l e≠o.nameAt (λp:ed=>p.name) l a)/\Ext w i)
  (λq _=>(a - intOf (q 7)).toNat) ⟨0,AW,by refine a1 ?_;rfl,λ_ r=>absurd r (Og _),B⟩ ?_
 rintro aD O C ⟨h,aE,j,P,u⟩;have ae:=b;have af:=c;have Q:=d;have b:=C 0 rfl;have c:=C 1 rfl;have d:=C 6 rfl;simp only[bS,Nat.reduceAdd,Nat.reduceEqDiff,reduceIte,kK,oE] at b c d;clear C;rw[ae] at b;rw[af] at c;rw[Q] at d;have k:=a4.ext r5.ext u y;have I:=(k.at a f).cells 0 _ rfl;simp -dsimp only[c8,cA,Nat.reduceAdd,Nat.reduceEqDiff,reduceIte,reduceCtorEq,dq,b,c,d,j];apply I_<;>intro aF
 .have K:h<l.length:=AW
  have ag:=(k.at h K).cells 0 _ rfl;have S:o.nameAt (λp:ed=>p.name) l h=l[h].name:=tG _ _ _ K;simp -dsimp only[c8,cA,Nat.reduceAdd,Nat.reduceEqDiff,reduceIte,reduceCtorEq,dq,b,c,d,j];refine M_ h rfl K ?_;simp -dsimp only[c8,cA,Nat.reduceAdd,Nat.reduceEqDiff,reduceIte,reduceCtorEq,dq,b,c,d,j];refine L_ ag ?_;simp -dsimp only[c8,cA,Nat.reduceAdd,Nat.reduceEqDiff,reduceIte,reduceCtorEq,dq,b,c,d,j];refine M_ a rfl f ?_;simp -dsimp only[c8,cA,Nat.reduceAdd,Nat.reduceEqDiff,reduceIte,reduceCtorEq,dq,b,c,d,j];refine L_ I ?_;simp -dsimp only[c8,cA,Nat.reduceAdd,Nat.reduceEqDiff,reduceIte,reduceCtorEq,dq,b,c,d,j];intro ah x;apply I_<;>intro U
  .simp -dsimp only[c8,cA,Nat.reduceAdd,Nat.reduceEqDiff,reduceIte,reduceCtorEq,dq,b,c,d,j];have V:=Q3 (mo:=qt l s) A J (show h<a by omega) (by rw[S,z];exact U);rw[ay,kd f m (by rw[V];decide),V];exact⟨rfl,u.trans x⟩
  .simp -dsimp only[c8,cA,Nat.reduceAdd,Nat.reduceEqDiff,reduceIte,reduceCtorEq,dq,b,c,d,j];refine Q_ AW ?_;simp -dsimp only[c8,cA,Nat.reduceAdd,Nat.reduceEqDiff,reduceIte,reduceCtorEq,dq,b,c,d,j];refine⟨⟨h+1,AW,rfl,λe H=>?_,u.trans x⟩,by simp[intOf];omega⟩;by_cases ai:e<h
   .exact P e ai
   .have:e=h:=AW
    subst this;rw[S,z];exact U
 have g:=Q2 (mo:=qt l s) A J (λe H=>P e AW);have W:qt l s a=if o.there l[a].scalar s=false then 8 else if l[a].cap<1\/l[a].cap > 4\/(l[a].scalar=0/\o.narrow l[a].aQ l[a].ab=false) then 10 else 0:=by simp[qt,f]
 rw[W] at g;have aj:=a4.ext jM.ext u Y;have bg:=(k.at a f).cells 1 _ rfl;have bj:=(k.at a f).cells 2 _ rfl;have ak:=(k.at a f).cells 3 _ rfl;have al:=(k.at a f).cells 4 _ rfl;simp only[o.there,o.narrow,decide_eq_false_iff_not] at g;generalize l[a].scalar=xs at bg g;generalize l[a].cap=aG at bj g;generalize l[a].aQ=L at ak g;generalize l[a].ab=M at al g;clear W;have an:∀i,Ext O i->EG F.HJ #[.I L,.I M] i λao X=>ao = .bool (o.narrow L M)/\Ext i X:=λi n =>
  (ahP L M i).mono λv X r=>⟨r.1,r.2 ▸ Ext.refl _⟩
 simp -dsimp only[c8,cA,Nat.reduceAdd,Nat.reduceEqDiff,reduceIte,reduceCtorEq,dq,b,c,d,j]
 (repeat' first
  | (refine I_ (λ_=>?_) (λ_=>?_)<;>try (exfalso;omega))
  | (refine N_ (λ_=>?_) (λ_=>?_))
  | (refine M_ a rfl f ?_)
  | (refine L_ CW ?_)
  | (refine J_ (Ew _ _ s _ aj) ?_;rintro _ O ⟨rfl,rfl⟩)
  | (refine P_ _ an ?_)
  | simp -dsimp only[c8,cA,Nat.reduceAdd,Nat.reduceEqDiff,reduceIte,reduceCtorEq,dq,b,c,d,j]
  | (intro ah x;replace x:=u.trans x))
 all_goals first
  | (rw[if_pos AW] at g
     rw[ay,kd f m (by rw[g];decide),g];exact⟨rfl,CW⟩)
  | (rw[if_neg AW,if_pos AW] at g
     rw[ay,kd f m (by rw[g];decide),g];exact⟨rfl,CW⟩)
  | (rw[if_neg AW,if_neg AW] at g
     refine Q_ AW ?_;simp -dsimp only[c8,cA,Nat.reduceAdd,Nat.reduceEqDiff,reduceIte,reduceCtorEq,dq,b,c,d,j];refine⟨⟨a+1,AW,rfl,λe H=>?_,CW⟩,by simp[intOf,Q];omega⟩;by_cases aq:e<a
     .exact m e aq
     .have:e=a:=AW
      subst this;exact g)
end Go.Proofs.R
namespace o
def ajG(m:Model)(i:Nat):wV m 2 i=tF m i:=by
 have a:c0 1 2 i m.vars.length=min m.vars.length i:=by unfold c0;rw[if_pos Ae,if_neg Ae];simp
 have b:c0 2 2 i m.ay.length=0:=by unfold c0;rw[if_neg Ae]
 have c:c0 3 2 i m.procs.length=0:=by unfold c0;rw[if_neg Ae]
 have d:iJ 2 i m.props.length=0:=by unfold iJ;rw[if_neg Ae]
 unfold wV;rw[a,b,c,d];simp only[tF,HR,B0,List.take_zero,List.map_nil,List.append_nil];rw[AK5,<-AI9];simp only[List.take_length]
def ajE(m:Model)(i:Nat):wV m 3 i=oO m i:=by
 have a:c0 1 3 i m.vars.length=m.vars.length:=by unfold c0;rw[if_pos Ae,if_pos Ae]
 have b:c0 2 3 i m.ay.length=min m.ay.length i:=by unfold c0;rw[if_pos Ae,if_neg Ae];simp
 have c:c0 3 3 i m.procs.length=0:=by unfold c0;rw[if_neg Ae]
 have d:iJ 3 i m.props.length=0:=by unfold iJ;rw[if_neg Ae]
 unfold wV;rw[a,b,c,d];simp only[oO,tF,HR,B0,BZ,List.take_zero,List.map_nil,List.append_nil];rw[AK5,<-AI9];simp only[List.take_length]
def ajF(m:Model)(i:Nat):wV m 4 i=j0 m i:=by
 have a:c0 1 4 i m.vars.length=m.vars.length:=by unfold c0;rw[if_pos Ae,if_pos Ae]
 have b:c0 2 4 i m.ay.length=m.ay.length:=by unfold c0;rw[if_pos Ae,if_pos Ae]
 have c:c0 3 4 i m.procs.length=min m.procs.length i:=by unfold c0;rw[if_pos Ae,if_neg Ae];simp
 have d:iJ 4 i m.props.length=0:=by unfold iJ;rw[if_neg Ae]
 unfold wV;rw[a,b,c,d];simp only[j0,oO,tF,HR,B0,BZ,z5,List.take_zero,List.map_nil,List.append_nil];rw[AK5,<-AI9];simp only[List.take_length]
def Zu(m:Model)(i:Nat):wV m 5 i=tE m i:=by
 have a:c0 1 5 i m.vars.length=m.vars.length:=by unfold c0;rw[if_pos Ae,if_pos Ae]
 have b:c0 2 5 i m.ay.length=m.ay.length:=by unfold c0;rw[if_pos Ae,if_pos Ae]
 have c:c0 3 5 i m.procs.length=m.procs.length:=by unfold c0;rw[if_pos Ae,if_pos Ae]
 have d:iJ 5 i m.props.length=min m.props.length i:=by unfold iJ;rw[if_pos Ae];simp
 unfold wV;rw[a,b,c,d];simp only[tE,j0,oO,tF,HR,B0,BZ,z5,Us];rw[AK5,<-AI9];simp only[List.take_length]
def yr(q p i:Int)(len:Nat):c0 q p i len<=len:=by unfold c0; (repeat' split)<;>omega
end o
namespace Go.Proofs.R
open Go Go.RowKit a8 o
def zh(f:tP):B_:=.agg #[.int .i64 f.bN,.int .i64 f.part,.int .i64 f.item,.int .i64 f.sub]
def awo(cs:C_ B_)(m:o.Model)(w:A_)(h:eu w cs m) :
  EG F.Ng #[.agg cs.toArray] w λv n=>v=zh (o.data m)/\Ext w n:=by
 have ae:=h;obtain⟨aH,aI,aJ,bg,aK,bj,aM,aP,aQ,aS,rfl,M,I,J,aT,aU,aW,aX,aY,a0,a2⟩:=h.form;refine bm E.Ng ?_;refine ad ?_;intro a5 a6 a7 af c;refine ad ?_;intro ar a9 ba ag d;replace c:=ag.obj c;have N:=af.trans ag;have bb:=ca c;have bf:=af.size;refine ad ?_;refine J_ (awv _ m.scalars ar (M.ext N)) ?_;rintro _ ah ⟨rfl,O⟩;replace c:=O.obj c;replace d:=O.obj d;have P:=N.trans O;clear N;refine ad ?_;apply I_<;>intro ai;rotate_left
 .have e:=aaD ai;refine ad ?_;intro au av bk;refine ad ?_;exact⟨by rw[e];rfl,av.ext P AW⟩
 have u:(o.scalars m.scalars).2=0:=by simpa using ai
 have bn:=ahu u;have aj:=c;have ak:=d;refine ad ?_;refine K_ 5 m.vars.length [1,2] (λ_:Unit=>[]) () (λa _ n=>Ext ah n/\∀b,b<a->kA m b=0) aV aV ⟨Ext.refl _,λb h=>absurd h (Og _)⟩ ?_;clear c d;rintro a _ bo au aw ⟨x,g⟩;have c:=x.obj aj;have d:=x.obj ak;have i:=P.trans x;refine ad ?_;apply I_<;>intro ax
 .have f:a<m.vars.length:=AW
  have Q:=(a4.len I).2;have S:=Q.2;unfold maxLen at S;obtain⟨az,rfl⟩:=I.addr;have y:=Ej (f:=λU:o.Var=>U.name) f;have z:=((I.at a f).cells).ext i;have V:∀b,b<a->pw m b=0:=λb q=>O2 (g b q);refine ad ?_;refine _l (k:=.i64) (a+1) (by simp[dy,bS]) AW ?_;refine ad ?_;refine P_ (.tuple #[.I (o.vars (m.vars.take (a+1)) m.scalars 12).1,.I (o.vars (m.vars.take (a+1)) m.scalars 12).2]) (λn A=>agF _ _ (m.vars.take (a+1)) m.scalars 12 n ((I.head (a+1) AW).ext ra.ext (i.trans A)) (M.ext (i.trans A))) ?_;refine ad ?_;intro aA k;replace c:=k.obj c;replace d:=k.obj d;replace z:=z.ext k;have r:=i.trans k;rw[ayE f V];refine ad ?_;apply I_<;>intro s;rotate_left
  .have j:kA m a=pw m a:=by unfold kA;rw[if_pos s]
   have e:=JR u f g (by rw[j];exact s);rw[j] at e;refine ad ?_;intro B C al;refine ad ?_;exact⟨by rw[e];rfl,C.ext r AW⟩
  have t:pw m a=0:=by simpa using s
  have bp:a<12:=by
   apply Classical.byContradiction;intro an;have h:=t;unfold pw o.err at h;rw[if_pos AW] at h;cases h
  refine ad ?_;intro B l;replace c:=l.obj c;replace d:=l.obj d;refine ad ?_;refine J_ (Fw _ m 2 a B (ae.ext (r.trans l)) AW AW (by
   have aB:c0 1 2 a m.vars.length<=a:=by unfold c0; (repeat' split)<;>omega
   have aC:c0 2 2 a m.ay.length=0:=by unfold c0;rw[if_neg Ae]
   have aD:c0 3 2 a m.procs.length=0:=by unfold c0;rw[if_neg Ae]
   have aE:iJ 2 a m.props.length=0:=by unfold iJ;rw[if_neg Ae]
   omega)) ?_
  rintro _ W ⟨⟨v,rfl,G⟩,p⟩;refine⟨p,?_⟩;rw[ajG] at G;refine ad ?_;refine J_ (GC v _ m.vars[a].name _ W G) ?_;rintro _ aF ⟨rfl,rfl⟩;replace c:=p.obj c;replace d:=p.obj d;have ao:=l.trans p;have X:=r.trans ao;refine ad ?_;apply I_<;>intro H
  .have j:kA m a=7:=by unfold kA;rw[if_neg (by simpa using t),y,if_pos H]
   have e:=JR u f g (by rw[j];decide);rw[j] at e;refine ad ?_;intro Y Z aG;refine ad ?_;exact⟨by rw[e];rfl,Z.ext X AW⟩
  .refine ad ?_;refine⟨f,aZ,(),trivial,(x.trans k).trans ao,λb q=>?_⟩;by_cases ab:b=a
   .subst ab;unfold kA;rw[if_neg (by simpa using t),y,if_neg H]
   .exact g b AW
 have K:∀b,b<m.vars.length->kA m b=0:=λb q=>g b AW;have br:m.vars.length<=12:=by
  apply Classical.byContradiction;intro an
  have:=abf (K 12 AW)
  omega
 clear c d;refine ad ?_;refine K_ 8 m.ay.length [1,2] (λ_:Unit=>[]) () (λa _ n=>Ext ah n/\∀b,b<a->lB m b=0) aV aV ⟨x,λb h=>absurd h (Og _)⟩ ?_;clear i;rintro a _ bt aA aw ⟨k,g⟩;have c:=k.obj aj;have d:=k.obj ak;have i:=P.trans k;refine ad ?_;apply I_<;>intro ax
 .have f:a<m.ay.length:=AW
  have Q:=(a4.len J).2;have S:=Q.2;unfold maxLen at S;obtain⟨az,rfl⟩:=J.addr;have y:=Ej (f:=λU:ed=>U.name) f;have z:=((J.at a f).cells).ext i;have V:∀b,b<a->o5 m b=0:=λb q=>JG (g b q);refine ad ?_;refine _l (k:=.i64) (a+1) (by simp[dy,bS]) AW ?_;refine ad ?_;refine P_ (.tuple #[.I (ay (m.ay.take (a+1)) m.scalars).1,.I (ay (m.ay.take (a+1)) m.scalars).2]) (λn A=>awn _ _ (m.ay.take (a+1)) m.scalars n ((J.head (a+1) AW).ext r5.ext (i.trans A)) (M.ext (i.trans A))) ?_;refine ad ?_;intro B l;replace c:=l.obj c;replace d:=l.obj d;replace z:=z.ext l;have r:=i.trans l;rw[alm f V];refine ad ?_;apply I_<;>intro s;rotate_left
  .have j:lB m a=o5 m a:=by unfold lB;rw[if_pos s]
   have e:=JQ u K f g (by rw[j];exact s);rw[j] at e;refine ad ?_;intro B C al;refine ad ?_;exact⟨by rw[e];rfl,C.ext r AW⟩
  have t:o5 m a=0:=by simpa using s
  have bu:a<4:=by
   apply Classical.byContradiction;intro an;have h:=t;unfold o5 o.err at h;rw[if_pos AW] at h;cases h
  refine ad ?_;intro W p;replace c:=p.obj c;replace d:=p.obj d;refine ad ?_;refine J_ (Fw _ m 3 a W (ae.ext (r.trans p)) AW AW (by
   have aB:=yr 1 3 a m.vars.length;have aC:c0 2 3 a m.ay.length<=a:=by unfold c0; (repeat' split)<;>omega
   have aD:c0 3 3 a m.procs.length=0:=by unfold c0;rw[if_neg Ae]
   have aE:iJ 3 a m.props.length=0:=by unfold iJ;rw[if_neg Ae]
   omega)) ?_
  rintro _ Y ⟨⟨v,rfl,G⟩,L⟩;refine⟨L,?_⟩;rw[ajE] at G;refine ad ?_;refine J_ (GC v _ m.ay[a].name _ Y G) ?_;rintro _ aF ⟨rfl,rfl⟩;replace c:=L.obj c;replace d:=L.obj d;have aq:=p.trans L;have X:=r.trans aq;refine ad ?_;apply I_<;>intro H
  .have j:lB m a=7:=by unfold lB;rw[if_neg (by simpa using t),y,if_pos H]
   have e:=JQ u K f g (by rw[j];decide);rw[j] at e;refine ad ?_;intro Y Z aG;refine ad ?_;exact⟨by rw[e];rfl,Z.ext X AW⟩
  .refine ad ?_;refine⟨f,aZ,(),trivial,(k.trans l).trans aq,λb q=>?_⟩;by_cases ab:b=a
   .subst ab;unfold lB;rw[if_neg (by simpa using t),y,if_neg H]
   .exact g b AW
 have e:=aaC u K λb q=>g b AW;refine ad ?_;intro B C al;refine ad ?_;exact⟨by rw[e];rfl,C.ext i AW⟩
end Go.Proofs.R
namespace o
structure wN(m:Model):Prop where
 v:m.vars.length<=1000000
 c:m.ay.length<=1000000
 p:m.procs.length<=1000000
 i:∀p∈m.procs,p.vars.length<=1000000/\p.cL.length<=1000000
def bg(m:Model)(k:Nat):Int:=jG ((m.vars.take k).map λa=>cells a m.scalars)
def bj(m:Model)(k:Nat):Int:=jG ((m.ay.take k).map sf)
def i1(m:Model)(k:Nat):Int:=jG ((m.procs.take k).map (l6 m))
def i2(m:Model)(k:Nat):Int:=jG ((m.procs.take k).map λa=>l6 m a*a.cL.length)
def i3(m:Model)(k:Nat):Int:=jG ((m.procs.take k).map λa=>l6 m a*(1+a.vars.length))
def afo{α:Type}{l:C_ α}{k:Nat}{x:α}(h:x∈l.take k):x∈l:=AK6 h
def CZ{m:Model}(h:wN m)(k:Nat):0<=bg m k/\bg m k<=4000000:=by
 have:=It (λa=>cells a m.scalars) 4 Ae (m.vars.take k) λa _=>sg a _
 have b:=h.v;have c:(m.vars.take k).length<=m.vars.length:=by simp;omega
 unfold bg;omega
def Ju{m:Model}(h:wN m)(k:Nat):0<=bj m k/\bj m k<=5000000:=by
 have:=It sf 5 Ae (m.ay.take k) λa _=>by have:=Qv a;omega
 have b:=h.c;have c:(m.ay.take k).length<=m.ay.length:=by simp;omega
 unfold bj;omega
def aee{m:Model}(h:wN m)(k:Nat):0<=i1 m k/\i1 m k<=4000000:=by
 have:=It (l6 m) 4 Ae (m.procs.take k) λa _=>HY m a
 have b:=h.p;have c:(m.procs.take k).length<=m.procs.length:=by simp;omega
 unfold i1;omega
def Eg{a b:Int}(c:0<=a/\a<=4)(d:0<=b/\b<=1000001):0<=a*b/\a*b<=4000004:=by
 have:a=0\/a=1\/a=2\/a=3\/a=4:=AW
 rcases this with rfl | rfl | rfl | rfl | rfl<;>omega
def aeg{m:Model}(h:wN m)(k:Nat):0<=i2 m k/\i2 m k<=4000004000000:=by
 have:=It (λa=>l6 m a*a.cL.length) 4000004 Ae (m.procs.take k) λa b=>Eg (HY m a) (by have:=(h.i a (afo b)).2;omega)
 have c:=h.p;have d:(m.procs.take k).length<=m.procs.length:=by simp;omega
 unfold i2;omega
def aei{m:Model}(h:wN m)(k:Nat):0<=i3 m k/\i3 m k<=4000004000000:=by
 have:=It (λa=>l6 m a*(1+a.vars.length)) 4000004 Ae (m.procs.take k) λa b=>Eg (HY m a) (by have:=(h.i a (afo b)).1;omega)
 have c:=h.p;have d:(m.procs.take k).length<=m.procs.length:=by simp;omega
 unfold i3;omega
def ZU{m:Model}{k:Nat}(h:k<m.vars.length):bg m (k+1)=bg m k+cells m.vars[k] m.scalars:=Iu _ _ h
def ZV{m:Model}{k:Nat}(h:k<m.ay.length):bj m (k+1)=bj m k+sf m.ay[k]:=Iu _ _ h
def aef{m:Model}{k:Nat}(h:k<m.procs.length):i1 m (k+1)=i1 m k+l6 m m.procs[k]:=Iu _ _ h
def aeh{m:Model}{k:Nat}(h:k<m.procs.length):i2 m (k+1)=i2 m k+l6 m m.procs[k]*m.procs[k].cL.length:=Iu _ _ h
def aej{m:Model}{k:Nat}(h:k<m.procs.length):i3 m (k+1)=i3 m k+l6 m m.procs[k]*(1+m.procs[k].vars.length):=Iu _ _ h
def af7(m:Model){a b c:Nat}(d:m.vars.length<=a)(e:m.ay.length<=b)(f:m.procs.length<=c):pieces m=(i1 m c,i2 m c,bg m a+bj m b+i3 m c):=by
 unfold pieces i1 i2 i3 bg bj;rw[Im d,Im e,Im f]
end o
namespace Go.Proofs.R
open Go Go.RowKit a8 o
def avi(cs:C_ B_)(m:o.Model)(w:A_)(h:eu w cs m)(g:wN m) :
  EG F.tg #[.agg cs.toArray] w λP a=>P = .tuple #[.I (o.pieces m).1,.I (o.pieces m).2.1,.I (o.pieces m).2.2]/\Ext w a:=by
 obtain⟨ae,af,ag,bg,ah,bj,ai,aj,ak,al,rfl,z,A,B,C,an,ao,aq,ar,au,av⟩:=h.form;refine bm E.tg ?_;refine ad ?_;intro q aw ax r e;have s:=e;clear e;refine ad ?_;refine K_ 18 m.vars.length [1,5,6,16,17] (λd:Int=>[(7,.I d)]) 0 (λc d a=>Ext q a/\d=o.bg m c) aV aV ⟨Ext.refl _,by simp[o.bg,jG]⟩ ?_;rintro c _ az Q aA ⟨n,rfl⟩;have e:=n.obj s;have dm:∀{a},Ext Q a->Ext w a:=λl=>(r.trans n).trans l;refine ad ?_;apply I_<;>intro aB
 .have t:c<m.vars.length:=AW
  obtain⟨G,rfl⟩:=A.addr;have S:=((A.at c t).cells).ext (dm (Ext.refl _));refine ad ?_;intro u H I i p;replace e:=i.obj e;refine ad ?_;refine J_ (C5 m.vars[c] _ m.scalars u (z.ext (dm i))) ?_;rintro _ v ⟨rfl,j⟩;have J:=CZ g c;have K:=sg m.vars[c] m.scalars;refine ad ?_;exact⟨t,aZ,_,aV,(n.trans i).trans j,(ZU t).symm⟩
 have U:m.vars.length<=c:=AW
 refine ad ?_;refine K_ 32 m.ay.length [1,5,6,30,31] (λd:Int=>[(7,.I d)]) (o.bg m c) (λf d a=>Ext q a/\d=o.bg m c+o.bj m f) aV aV ⟨n,by simp[o.bj,jG]⟩ ?_;clear e dm;rintro f _ aC u aD ⟨i,rfl⟩;have e:=i.obj s;have g7:∀{a},Ext u a->Ext w a:=λl=>(r.trans i).trans l;refine ad ?_;apply I_<;>intro aE
 .have x:f<m.ay.length:=AW
  obtain⟨G,rfl⟩:=B.addr;have S:=((B.at f x).cells).ext (g7 (Ext.refl _));refine ad ?_;intro v H I j p;have J:=CZ g c;have K:=Ju g f;have L:=Qv m.ay[f];unfold sf at L;refine ad ?_;exact⟨x,aZ,_,aV,i.trans j,by rw[ZV x];unfold sf;omega⟩
 have V:m.ay.length<=f:=AW
 refine ad ?_;refine K_ 47 m.procs.length [1,45,46] (λd:Int×Int×Int=>[(5,.I d.1),(6,.I d.2.1),(7,.I d.2.2)]) (0,0,o.bg m c+o.bj m f)
  (λb d a=>Ext q a/\d=(o.i1 m b,o.i2 m b,o.bg m c+o.bj m f+o.i3 m b)) aV aV ⟨i,by simp[o.i1,o.i2,o.i3,jG]⟩ ?_
 clear e g7;rintro b _ aF v aG ⟨j,rfl⟩;have e:=j.obj s;have dO:∀{a},Ext v a->Ext w a:=λl=>(r.trans j).trans l;refine ad ?_;apply I_<;>intro aH
 .have k:b<m.procs.length:=AW
  obtain⟨G,rfl⟩:=C.addr;obtain⟨_,aI,dI,M,W,X⟩:=C.at b k;obtain⟨aJ,aK,rfl,aM⟩:=W.form;obtain⟨aP,aQ,rfl,aS⟩:=X.form;replace M:=M.ext (dO (Ext.refl _));have aT:=g.i _ (ID k);refine ad ?_;intro Y H I y p;replace e:=y.obj e;refine ad ?_;refine J_ (C5 ⟨⟨#[]⟩,0,m.procs[b].over,0,0,0⟩ _ m.scalars Y (z.ext (dO y))) ?_;rintro _ aU ⟨rfl,N⟩;have Z:o.cells ⟨⟨#[]⟩,0,m.procs[b].over,0,0,0⟩ m.scalars=l6 m m.procs[b]:=rfl;rw[Z];replace p:=N.obj p;have J:=CZ g c;have K:=Ju g f;have L:=aee g b;have aW:=aeg g b;have aX:=aei g b;have O:=HY m m.procs[b];have aY:=Eg O (b:=m.procs[b].cL.length) AW;have a0:=Eg O (b:=1+m.procs[b].vars.length) AW;refine ad ?_;exact⟨k,aZ,(_,_,_),(by first | exact⟨rfl,rfl,rfl,trivial⟩ | exact⟨rfl,rfl,trivial⟩ | (simp -dsimp only[c8,yl,yk,x0,xZ,xp,xo,Nat.reduceAdd,Nat.reduceEqDiff,reduceIte,and_self];exact⟨rfl,rfl,rfl,trivial⟩) | (simp -dsimp only[c8,yl,yk,x0,xZ,xp,xo,Nat.reduceAdd,Nat.reduceEqDiff,reduceIte,and_self];exact⟨rfl,rfl,trivial⟩)),(j.trans y).trans N,by rw[aef k,aeh k,aej k];exact Prod.ext rfl (Prod.ext rfl (Int.add_assoc _ _ _))⟩
 have ab:m.procs.length<=b:=AW
 refine ad ?_;exact⟨by rw[af7 m U V ab],dO (Ext.refl _)⟩
def ash(cs:C_ B_)(m:o.Model)(p:ee)(d dI:B_)(w:A_)(h:eu w cs m) :
  EG F.Nb #[.agg cs.toArray,.agg (p.enc d dI).toArray] w λe f=>e = .I (l6 m p)/\Ext w f:=by
 obtain⟨j,k,l,bg,n,bj,q,r,s,t,rfl,g,_⟩:=h.form;refine bm E.Nb ?_;refine ad ?_;intro u v x a y;refine ad ?_;intro i z A b B;refine ad ?_;refine I_ (λc=>?_) (λc=>?_)
 .refine ad ?_;exact⟨by rw[l6,if_pos c],a.trans b⟩
 refine ad ?_;refine J_ (Ew p.over _ m.scalars i (g.ext (a.trans b))) ?_;rintro _ _ ⟨rfl,rfl⟩;refine ad ?_;exact⟨by rw[l6,if_neg c],a.trans b⟩
def awq(cs:C_ B_)(m:o.Model)(w:A_)(h:eu w cs m)(f:wN m) :
  EG F.Nd #[.agg cs.toArray] w λJ a=>J = .tuple #[.I (o.pieces m).1,.I (o.pieces m).2.1,.I (o.pieces m).2.2]/\Ext w a:=by
 have K:=h;obtain⟨W,X,Y,bg,Z,bj,ab,ae,af,ag,rfl,L,x,y,z,ah,ai,aj,ak,al,an⟩:=h.form;refine bm E.Nd ?_;refine ad ?_;intro q ao aq r g;have s:=g;clear g;refine ad ?_;refine K_ 8 m.vars.length [1,5,6] (λd:Int=>[(7,.I d)]) 0 (λb d a=>Ext q a/\d=o.bg m b) aV aV ⟨Ext.refl _,by simp[o.bg,jG]⟩ ?_;rintro b _ ar M au ⟨l,rfl⟩;have g:=l.obj s;have dm:∀{a},Ext M a->Ext w a:=λi=>(r.trans l).trans i;refine ad ?_;apply I_<;>intro av
 .have t:b<m.vars.length:=AW
  obtain⟨A,rfl⟩:=x.addr;have N:=((x.at b t).cells).ext (dm (Ext.refl _));have B:=CZ f b;have C:=sg m.vars[b] m.scalars;refine ad ?_;refine P_ (.I (o.cells m.vars[b] m.scalars)) (λa i=>Ol m.vars[b] _ m.scalars a (L.ext (dm i))) ?_;refine ad ?_;intro G k;refine ad ?_;exact⟨t,aZ,_,aV,l.trans k,(ZU t).symm⟩
 have O:m.vars.length<=b:=AW
 refine ad ?_;refine K_ 9 m.ay.length [1,5,6] (λd:Int=>[(7,.I d)]) (o.bg m b) (λe d a=>Ext q a/\d=o.bg m b+o.bj m e) aV aV ⟨l,by simp[o.bj,jG]⟩ ?_;clear g dm;rintro e _ aw P ax ⟨n,rfl⟩;have g:=n.obj s;have g7:∀{a},Ext P a->Ext w a:=λi=>(r.trans n).trans i;refine ad ?_;apply I_<;>intro az
 .have u:e<m.ay.length:=AW
  obtain⟨A,rfl⟩:=y.addr;have N:=((y.at e u).cells).ext (g7 (Ext.refl _));have B:=CZ f b;have C:=Ju f e;have H:=Qv m.ay[e];unfold sf at H;refine ad ?_;exact⟨u,aZ,_,aV,n,by rw[ZV u];unfold sf;omega⟩
 have Q:m.ay.length<=e:=AW
 refine ad ?_;refine K_ 10 m.procs.length [1] (λd:Int×Int×Int=>[(5,.I d.1),(6,.I d.2.1),(7,.I d.2.2)]) (0,0,o.bg m b+o.bj m e)
  (λc d a=>Ext q a/\d=(o.i1 m c,o.i2 m c,o.bg m b+o.bj m e+o.i3 m c)) aV aV ⟨n,by simp[o.i1,o.i2,o.i3,jG]⟩ ?_
 clear g g7;rintro c _ aA G aB ⟨k,rfl⟩;have g:=k.obj s;have dO:∀{a},Ext G a->Ext w a:=λi=>(r.trans k).trans i;refine ad ?_;apply I_<;>intro aC
 .have j:c<m.procs.length:=AW
  obtain⟨A,rfl⟩:=z.addr;obtain⟨_,aD,dI,p,S,U⟩:=z.at c j;obtain⟨aE,aF,rfl,aG⟩:=S.form;obtain⟨aH,aI,rfl,aJ⟩:=U.form;replace p:=p.ext (dO (Ext.refl _));have aK:=f.i _ (ID j);refine ad ?_;refine P_ (.I (l6 m m.procs[c])) (λa i=>ash _ m m.procs[c] _ _ a (K.ext (dO i))) ?_;refine ad ?_;intro aM v;replace g:=v.obj g;replace p:=p.ext v;have B:=CZ f b;have C:=Ju f e;have H:=aee f c;have aP:=aeg f c;have aQ:=aei f c;have I:=HY m m.procs[c];have aS:=Eg I (b:=m.procs[c].cL.length) AW;have aT:=Eg I (b:=1+m.procs[c].vars.length) AW;refine ad ?_;exact⟨j,aZ,(_,_,_),(by first | exact⟨rfl,rfl,rfl,trivial⟩ | exact⟨rfl,rfl,trivial⟩ | (simp -dsimp only[c8,yl,yk,x0,xZ,xp,xo,Nat.reduceAdd,Nat.reduceEqDiff,reduceIte,and_self];exact⟨rfl,rfl,rfl,trivial⟩) | (simp -dsimp only[c8,yl,yk,x0,xZ,xp,xo,Nat.reduceAdd,Nat.reduceEqDiff,reduceIte,and_self];exact⟨rfl,rfl,trivial⟩)),k.trans v,by rw[aef j,aeh j,aej j];exact Prod.ext rfl (Prod.ext rfl (Int.add_assoc _ _ _))⟩
 have V:m.procs.length<=c:=AW
 refine ad ?_;exact⟨by rw[af7 m O Q V],dO (Ext.refl _)⟩
end Go.Proofs.R
namespace o
structure ai5(m:Model):Prop where
 s:m.scalars.length<=10
 v:m.vars.length<=30
 c:m.ay.length<=20
 p:m.procs.length<=20
 q:m.props.length<=20
 i:∀p∈m.procs,p.vars.length<=20/\p.cL.length<=30/\∀c∈p.cL,c.b6.length<=20/\c.guard.length<=60
end o
namespace Go.Proofs.R
open Go Go.RowKit a8
def apX(cs:C_ B_)(m:o.Model)(w:A_)(h:o.eu w cs m) :
  EG F.NP #[.agg cs.toArray] w λt g=>(t = .I 1\/t = .I 0/\o.ai5 m)/\Ext w g:=by
 obtain⟨C,G,H,bg,I,bj,J,K,L,M,rfl,N,O,P,u,Q,S,U,V,W,X⟩:=h.form;refine bm E.NP ?_;refine ad ?_;intro v Y Z a ab;refine ad ?_;apply I_<;>intro ae
 .refine ad ?_;exact⟨.inl (aZ),a⟩
 refine ad ?_;apply I_<;>intro af
 .refine ad ?_;exact⟨.inl (aZ),a⟩
 refine ad ?_;apply I_<;>intro ag
 .refine ad ?_;exact⟨.inl (aZ),a⟩
 refine ad ?_;apply I_<;>intro ah
 .refine ad ?_;exact⟨.inl (aZ),a⟩
 refine ad ?_;apply I_<;>intro ai
 .refine ad ?_;exact⟨.inl (aZ),a⟩
 refine ad ?_;refine K_ 3 m.procs.length [1] (λ_=>[]) () (λc _ g=>Ext v g/\∀i∈m.procs.take c,i.vars.length<=20/\i.cL.length<=30/\∀d∈i.cL,d.b6.length<=20/\d.guard.length<=60) aV aV ⟨Ext.refl _,Ah⟩ ?_;rintro c _ x aj ak ⟨f,n⟩;refine ad ?_;apply I_<;>intro al
 .have p:c<m.procs.length:=AW
  obtain⟨an,rfl⟩:=u.addr;obtain⟨_,ao,dI,b,y,q⟩:=u.at c p;obtain⟨aq,ar,rfl,au⟩:=y.form;obtain⟨av,aw,rfl,ax⟩:=q.form;refine ad ?_;intro z az aA j aB;refine ad ?_;apply I_<;>intro aC
  .refine ad ?_;exact⟨.inl (aZ),(a.trans f).trans j⟩
  refine ad ?_;apply I_<;>intro aD
  .refine ad ?_;exact⟨.inl (aZ),(a.trans f).trans j⟩
  refine ad ?_;refine K_ 5 m.procs[c].cL.length [1,3,4] (λ_=>[]) () (λk _ g=>Ext z g/\∀d∈m.procs[c].cL.take k,d.b6.length<=20/\d.guard.length<=60) aV aV ⟨Ext.refl _,Ah⟩ ?_;rintro k _ x aE aF ⟨l,r⟩;refine ad ?_;apply I_<;>intro aG
  .have s:k<m.procs[c].cL.length:=AW
   obtain⟨aH,rfl⟩:=q.addr;obtain⟨_,aI,aJ,aK,A,B⟩:=q.at k s;obtain⟨aM,aP,rfl,aQ⟩:=A.form;obtain⟨aS,aT,rfl,aU⟩:=B.form;refine ad ?_;apply I_<;>intro aW
   .refine ad ?_;exact⟨.inl (aZ),((a.trans f).trans j).trans l⟩
   refine ad ?_;apply I_<;>intro aX
   .refine ad ?_;exact⟨.inl (aZ),((a.trans f).trans j).trans l⟩
   refine ad ?_;refine⟨s,aZ,(),trivial,l,λd e=>?_⟩;rw[NZ s] at e;rcases List.mem_append.1 e with e | e
   .exact r d e
   .rw[AH0] at e;subst e;exact⟨AW,AW⟩
  .rw[Im AW] at r;refine ad ?_;refine⟨p,aZ,(),trivial,(f.trans j).trans l,λi b=>?_⟩;rw[NZ p] at b;rcases List.mem_append.1 b with b | b
   .exact n i b
   .rw[AH0] at b;subst b;exact⟨AW,AW,r⟩
 .rw[Im AW] at n;refine ad ?_;exact⟨.inr ⟨aZ,AW,AW,AW,AW,AW,n⟩,a.trans f⟩
end Go.Proofs.R
namespace a8
open Go Go.RowKit
inductive vp where
 | sP (g:Operand) (p:Nat) (a b:fg)
 | va (x:vp) (y:fg)
 | h1 (x:fg) (y:vp)
 | b0 (id:Nat) (x:vp)
def oB(P:D_)(n:Nat):Code->H_ vp
 | .rangeFunc d e f g=>match e.toList,comp P n f,comp P n g with
  | [b],some h,some i=>if b<n then some (.sP d b h i) else none
  | _,_,_=>none
 | .seq a c=>match comp P n a with
  | some j=>(oB P n c).map (.h1 j)
  | none=>match oB P n a,comp P n c with
   | some rx,some k=>some (.va rx k)
   | _,_=>none
 | .block id a=>(oB P n a).map (.b0 id)
 | _=>none
structure yP where
 n:Nat
 res:List nP
 code:vp
def y8(P:D_)(f:E_):H_ yP :=
 match P.funcs[f]? with
 | some fn=>match fn.body with
  | some a=>match oB P fn.ntmps a,y9 P fn.results.toList with
   | some lc,some b=>some ⟨fn.ntmps,b,lc⟩
   | _,_=>none
  | none=>none
 | none=>none
structure At(gY:World->World->Prop)(B:Nat):Prop where
 trans:∀{a b c:World},gY a b->gY b c->gY a c
 put:∀(W:World) (l:Nat) (af o':Obj),B<=l->l<B+2->W.heap[l]? = some af->af.isCells=false->gY W (W.putObj l o')
def qj(n0:Nat)(e:C_ F_)(a c:A_):Prop:=Below n0 a c/\∀(b:Nat) (f:Array B_) (d:F_) (g:Nat×Nat),a.heap[b]? = some (.cells f d g)->d∈e->c.heap[b]? = a.heap[b]?
def qj.ok{n0 B:Nat}(cU:C_ F_)(h:n0<=B):At (qj n0 cU) B where
 trans h k:=⟨h.1.trans k.1,λi c t f ab aE=>by rw[<-h.2 i c t f ab aE];exact k.2 i c t f ((h.2 i c t f ab aE).trans ab) aE⟩
 put W l af o' ax _ aM ag:=⟨(Below.refl n0 W).grown (grownBy_putObj' W l o') (by have:=(Array.getElem?_eq_some_iff.1 aM).1;omega) (λk e=>by cases e;omega),λk c t f J _=>by
  have dG:l≠k:=λe=>by subst e;rw[aM] at J;injection J with J;subst J;cases ag
  exact World.putObj_heap_other (Ne.symm dG)⟩
def Ext.ia{n0:Nat}{c:C_ F_}{a b:A_}(h:Ext a b)(d:n0<=a.heap.size):qj n0 c a b:=⟨Below.mono h d,λf g i j e _=>h.heap (ca e)⟩
def yT{α:Type}(P:D_)(g:Nat)(j:Array B_)(enc:α->B_)(B1:Nat)(st:Prop)(gY:A_->A_->Prop)(k:α->A_->Prop)(S l:C_ α->Prop)(m:Nat)(w:A_):Prop :=
 ∀(h:Nat) (c f:C_ α->A_->Prop) (a:A_),Below w.heap.size w a->B1<=a.heap.size->OwnFrom a.heap.size c->OwnFrom a.heap.size f ->
  (∀pre d g0,c pre g0->k d g0->pre.length<m->YieldAt Fence.wide (0 - 1) P h #[enc d] g0 λe b =>
   (e = .returned (.bool true)/\c (pre++[d]) b/\gY g0 b)\/(st/\e = .returned (.bool false)/\f (pre++[d]) b)) ->
  c [] a ->
  CallsIn Fence.wide 0 P g (#[.func (.yield h) #[] #[]]++j) a λe b=>(∃n,e = .returned n)/\((∃i,S i/\c i b)\/(∃pre,l pre/\f pre b))
def afT{β:Type}{B:Nat}{a:β->A_->Prop}(h:OwnFrom B a):AbidesFrom B a:=λe f g i j k b=>h e f g i j k λc d=>⟨(b c d).1,let ⟨l,m,n⟩:=(b c d).2; ⟨l,m,Obj.not_cells_of_walk n⟩⟩
theorem yT.of{α:Type}{P:D_}{c:Nat}{d:Array B_}{enc:α->B_}{gY:A_->A_->Prop}{e f:C_ α->Prop}{g:Nat}{w0:A_}(h:SeqStopsK Fence.wide 0 P c d (λa=>#[enc a]) gY e f g w0):yT P c d enc 0 True gY (λ_ _=>True) e f g w0 :=
 λi j k l m _ n p q r=>h i j k l m (afT n) (afT p) (λpre a g0 s t=>let ⟨fn,tmps,u,body,v,w⟩:=q pre a g0 s trivial t; ⟨fn,tmps,u,body,v,w.mono λx y b=>b.imp id λb=>b.2⟩) r
def awS{α:Type}(gY:A_->A_->Prop)(B:Nat)(cE:C_ α->A_->Prop)(c:fG->C_ α->A_->Prop)(xs:C_ α)(b:A_):fG->Fr->A_->Prop
 | .normal,_,a=>KeepsFrom B b a/\gY b a/\cE xs a
 | .ib _,_,_=>False
 | d,_,a=>KeepsFrom B b a/\c d xs a
def wT(B:Nat)(b d:A_):Prop := ∃a,B<=a/\(∃c,b.heap[a]? = some c/\c.isCells=false)/\b.grownBy d (some a)
def aji(P:D_)(g:B_)(p:Nat)(a b:fg)(Q:Nat->fG->Fr->A_->Prop)(S:Fr)(w:A_):Prop :=
 ∃(α:Type) (k:α->B_) (i:Nat) (l:Array B_) (B1:Nat) (m:Prop) (gY:A_->A_->Prop) (n:α->A_->Prop) (q r:C_ α->Prop) (s:Nat) (t:A_),g = .func (.func i) #[] l/\okF P i=true/\yT P i l k B1 m gY n q r s t/\B1<=w.heap.size+2/\Ext t w/\At gY w.heap.size /\
 ∃(e:C_ α->A_->Prop) (f:fG->C_ α->A_->Prop),OwnFrom w.heap.size e/\(∀d,OwnFrom w.heap.size (f d))/\(∀d h c,f d h c->m)/\e [] w /\
  (∀pre j c,e pre c->n j c->pre.length<s->dI P a (yp (λu g0=>KeepsFrom w.heap.size c g0/\gY c g0/\∀eT,wT w.heap.size g0 eT->dI P b (awS gY w.heap.size e f (pre++[j]) eT) u eT) (λ_ _ _=>False)) (cz S p (k j)) c) /\
  (∀D h c,w.heap.size<=D->q h->e h c->c.heap[D]? = some (.deferred (some []))->Q D .normal S c) /\
  (∀D d pre c,d≠.normal->w.heap.size<=D->r pre->f d pre c->c.heap[D]? = some (.deferred (some []))->Q D d S c)
def awU{α:Type}{enc:α->B_}{P:D_}{g:G_}{p:Nat}{S body:Code}{Q:Exit->Act->A_->Prop}{a:Act}{w w0:A_}{H:Nat}{U:Array B_}{B1:Nat}{st:Prop}{gY:A_->A_->Prop}{ag:α->A_->Prop}{ah:Nat}{ai aj:C_ α->Prop}
  (aw:a.eval g = .func (.func H) #[] U)(ax:okF P H=true)(az:yT P H U enc B1 st gY ag ai aj ah w0)(ba:B1<=w.heap.size+2)(aA:Ext w0 w)(I:At gY w.heap.size)
  (cE:C_ α->A_->Prop)(J:Code->C_ α->A_->Prop)(K:OwnFrom w.heap.size cE)(L:∀c,OwnFrom w.heap.size (J c))(ab:∀c B b,J c B b->st)(aB:cE [] w)
  (aC:∀ak pre t b,cE pre b->ag t b->pre.length<ah->S.wpIn (ou (some ak)) 1 P (Exit.then (λal g0=>KeepsFrom w.heap.size b g0/\gY b g0 /\
   ∀eT,wT w.heap.size g0 eT->body.wpIn (ou (some ak)) 1 P (ownPostG w.heap.size gY cE J (pre++[t]) eT) al eT) (λ_ _ _=>False)) { tmps:=a.tmps.setIfInBounds p (enc t),defers:=[] } b)
  (aD:∀D B b,w.heap.size<=D->ai B->cE B b->b.heap[D]? = some (.deferred (some []))->Q .normal { a with defers:={ target:=.collected D,args:=#[] } :: a.defers } b)
  (aE:∀D c pre b,w.heap.size<=D->aj pre->J c pre b->b.heap[D]? = some (.deferred (some []))->c.wpIn Fence.wide 3 P Q { a with defers:={ target:=.collected D,args:=#[] } :: a.defers } b) :
  (Code.rangeFunc g #[p] S body).wpIn Fence.wide 3 P Q a w:=by
 refine wpIn_rangeFunc λfn aF=>?_;obtain⟨d,k⟩:∃d:LoopState->H_ Code->Loop,d=λst aG=>{ state:=st,pending:=aG,fn,tmps:=a.tmps,params:=#[p],assign:=S,body,defers:=w.heap.size }:=⟨_,rfl⟩;obtain⟨e,C⟩:∃e,(w.alloc (.deferred (some []))).alloc (.loop (d .ready none))=e:=⟨_,rfl⟩;have bb:e.heap.size=w.heap.size+2:=by rw[<-C];simp
 have aH:e.heap[w.heap.size+1]? = some (.loop (d .ready none)):=by
  rw[<-C]
  have:=World.alloc_heap_new (w.alloc (.deferred (some []))) (.loop (d .ready none))
  rwa[World.size_alloc] at this
 have aI:e.heap[w.heap.size]? = some (.deferred (some [])):=by rw[<-C];exact(Below.heap_alloc _ _ _ Ah).trans (World.alloc_heap_new w _)
 have aJ:cE [] e:=by rw[<-C];exact K.alloc _ (K.alloc _ aB)
 have aK:Below w0.heap.size w0 e:=by rw[<-C];exact(aA.alloc _).alloc _
 have an:∀{l:A_} {q:H_ Nat},(∀f,q=some f->e.heap.size<=f/\∃j:Obj,l.heap[f]? = some j/\j.isCells=false)->(∀f,q=some f->w.heap.size<=f/\∃j:Obj,l.heap[f]? = some j/\j.isCells=false) :=
  λh f r=>⟨by have:=(h f r).1;omega,(h f r).2⟩
 have V:∀{l G:A_} {q:H_ Nat} {ae:Nat} {j:Obj},l.grownBy G q->(∀f,q=some f->e.heap.size<=f/\∃j:Obj,l.heap[f]? = some j/\j.isCells=false)->ae<e.heap.size->l.heap[ae]? = some j->G.heap[ae]? = some j:=λs h bf ao =>
  (s.block _ (Array.getElem?_eq_some_iff.1 ao).1 λr=>by have:=(h _ r.symm).1;omega).trans ao
 refine⟨w.heap.size+1,[{ target:=.collected w.heap.size,args:=#[] }],e,{ target:=.fn (.func H) U,args:=#[.func (.yield (w.heap.size+1)) #[] #[]] },e,H,
  #[.func (.yield (w.heap.size+1)) #[] #[]]++U,e,?_,?_,λ_ _=>trivial,?_,λ_=>Ae,?_⟩
 .rw[<-C,k];exact run_enterLoop_outer _ _ _ _ _
 .simp only[resolve,aw];simp[go_sem]
 .simp[invoke,go_sem,EC ax]
 refine CallsIn.mono (Qt (r:=none) (callsIn_wide.1 (az (w.heap.size+1)
  (λpre b=>cE pre b/\b.heap[w.heap.size+1]? = some (.loop (d .ready none))/\b.heap[w.heap.size]? = some (.deferred (some [])))
  (λpre b => ∃c,J c pre b/\b.heap[w.heap.size+1]? = some (.loop (d .done (some c)))/\b.heap[w.heap.size]? = some (.deferred (some [])))
  e aK AW ?_ ?_ ?_ ⟨aJ,aH,aI⟩))) ?_
 .exact λaf l G q M s h=>⟨K af l G q M.1 s (an h),V s h AW M.2.1,V s h AW M.2.2⟩
 .intro af l G q M s h;obtain⟨c,aM,m,v⟩:=M;exact⟨c,L c af l G q aM s (an h),V s h AW m,V s h AW v⟩
 .rintro pre t b ⟨N,m,v⟩ aP hlen;have aq:=run_yield (P:=P) (args:=#[enc t]) m (by rw[k];rfl);rw[k] at aq;refine⟨fn,_,S,body,aq,ag0 (r:=none) (m:=0 - 1) ?_⟩;refine(roundIn_of_wpIn (F:=Fence.wide) (n:=1) (l:=w.heap.size+1) aF ?_) |> λW=>⟨trivial,λc aQ _=>W.2 c aQ (room_wide _)⟩
  have aS:(#[p]:Array Tmp).zip #[enc t]=#[(p,enc t)]:=by apply Array.ext';simp[Array.toList_zip]
  have aT:=aC (w.heap.size+1) pre t b N aP hlen;simp only[aS];refine wpIn_mono aT λr al g0 W=>?_;cases r with
  | normal =>
   obtain⟨ar,aU,aW⟩:=W;have X:=ar.same _ _ AW m rfl;have aX:=ar.same _ _ (Fy _) v rfl;refine⟨_,run_beginRound X (by rw[k]),?_⟩;have aY:=(Array.getElem?_eq_some_iff.1 X).1;have a0:(g0.putObj (w.heap.size+1) (.loop { d .ready none with state:=.busy })).heap[w.heap.size+1]? = some (.loop { d .ready none with state:=.busy }):=World.putObj_heap_same aY;have a2:(g0.putObj (w.heap.size+1) (.loop { d .ready none with state:=.busy })).heap[w.heap.size]? = some (.deferred (some [])):=(World.putObj_heap_other AW).trans aX;have a5:gY g0 (g0.putObj (w.heap.size+1) (.loop { d .ready none with state:=.busy })):=I.put _ _ _ _ AW AW X rfl;refine wpIn_mono (aW _ ⟨_,AW,⟨_,X,rfl⟩,grownBy_putObj' _ _ _⟩) λr bk jd O=>?_;have Y:∀(i:H_ Code),KeepsFrom w.heap.size (g0.putObj (w.heap.size+1) (.loop { d .ready none with state:=.busy })) jd ->
     (Instr.endRound (w.heap.size+1) i).run P jd = .ok (.bool i.isNone) (jd.putObj (w.heap.size+1) (.loop (d (if i.isNone then .ready else .done) i))) /\
     jd.heap[w.heap.size+1]? = some (.loop { d .ready none with state:=.busy }) /\
     (jd.putObj (w.heap.size+1) (.loop (d (if i.isNone then .ready else .done) i))).heap[w.heap.size+1]? = some (.loop (d (if i.isNone then .ready else .done) i)) /\
     (jd.putObj (w.heap.size+1) (.loop (d (if i.isNone then .ready else .done) i))).heap[w.heap.size]? = some (.deferred (some [])):=λi au=>by
    have Z:=au.same _ _ AW a0 rfl
    have:=run_endRound (P:=P) i Z
    rw[k] at this ⊢;exact⟨this,by rw[k] at Z;exact Z,World.putObj_heap_same (Array.getElem?_eq_some_iff.1 Z).1,(World.putObj_heap_other AW).trans (au.same _ _ (Fy _) a2 rfl)⟩
   cases r with
   | normal =>
    obtain⟨x,a6,n⟩:=O;obtain⟨y,u,z,A⟩:=Y none x;exact⟨_,_,y,.inl ⟨rfl,⟨K.putObj _ n AW u rfl,z,A⟩,I.trans (I.trans (I.trans aU a5) a6) (I.put _ _ _ _ AW AW u rfl)⟩⟩
   | ret =>
    obtain⟨x,n⟩:=O;obtain⟨y,u,z,A⟩:=Y (some .ret) x;exact⟨_,_,y,.inr ⟨ab _ _ _ n,rfl,.ret,(L _).putObj _ n AW u rfl,z,A⟩⟩
   | exit id =>
    obtain⟨x,n⟩:=O;obtain⟨y,u,z,A⟩:=Y (some (.exit id)) x;exact⟨_,_,y,.inr ⟨ab _ _ _ n,rfl,.exit id,(L _).putObj _ n AW u rfl,z,A⟩⟩
   | goto av =>
    obtain⟨x,n⟩:=O;obtain⟨y,u,z,A⟩:=Y (some (.goto av)) x;exact⟨_,_,y,.inr ⟨ab _ _ _ n,rfl,.goto av,(L _).putObj _ n AW u rfl,z,A⟩⟩
   | _=>exact O.elim
  | _=>exact W.elim
 .rintro r eT ⟨⟨bn,rfl⟩,(⟨B,a7,N,m,v⟩ | ⟨pre,a9,c,N,m,v⟩)⟩
  .exact⟨none,_,by have:=run_endLoop (P:=P) m (by rw[k];simp);rw[k] at this;exact this,aD _ B _ (Fy _) a7 (K.putObj _ N AW m rfl) ((World.putObj_heap_other AW).trans v)⟩
  .exact⟨some c,_,by have:=run_endLoop (P:=P) m (by rw[k];simp);rw[k] at this;exact this,aE _ c pre _ (Fy _) a9 ((L c).putObj _ N AW m rfl) ((World.putObj_heap_other AW).trans v)⟩
def q2(P:D_):vp->(H_ Nat->fG->Fr->A_->Prop)->Fr->A_->Prop
 | .sP g h i j,c,a,b=>aji P (bq a g) h i j (λD=>c (some D)) a b
 | .va d f,c,a,b=>q2 P d (λe=>yp (λa b=>dI P f (c e) a b) (c e)) a b
 | .h1 d f,c,a,b=>dI P d (yp (λa b=>q2 P f c a b) (c none)) a b
 | .b0 id d,c,a,b=>q2 P d (λe=>AM id (c e)) a b
def marks:H_ Nat->C_ Deferred
 | none=>[]
 | some D=>[{ target:=.collected D,args:=#[] }]
def afa(n:Nat)(Q:H_ Nat->fG->Fr->A_->Prop):Exit->Act->A_->Prop
 | .normal,c,d => ∃a b,Fits (marks a) c b n/\Q a .normal b d
 | .exit e,c,d => ∃a b,Fits (marks a) c b n/\Q a (.exit e) b d
 | .ret,c,d => ∃a b,Fits (marks a) c b n/\Q a .ret b d
 | .panic f,c,d => ∃a b,Fits (marks a) c b n/\Q a (.ib f) b d
 | _,_,_=>False
theorem ath{n:Nat}{Q:H_ Nat->fG->Fr->A_->Prop}{f:H_ Nat}{e:Exit}{a:Act}{w:A_}(h:Mt (marks f) n (Q f) e a w):afa n Q e a w:=by
 cases e with
 | normal=>obtain⟨b,c,d⟩:=h;exact⟨f,b,c,d⟩
 | exit g=>obtain⟨b,c,d⟩:=h;exact⟨f,b,c,d⟩
 | ret=>obtain⟨b,c,d⟩:=h;exact⟨f,b,c,d⟩
 | panic i=>obtain⟨b,c,d⟩:=h;exact⟨f,b,c,d⟩
 | _=>exact h.elim
theorem OB{P:D_}(s:P.follows .mixedOrders=true){n:Nat}:∀(k:Code) (f:vp),oB P n k=some f->∀(t:H_ Nat->fG->Fr->A_->Prop) (h:Act) (i:Fr) (r:A_),Fits [] h i n->q2 P f t i r->k.wpIn Fence.wide 3 P (afa n t) h r
 | .rangeFunc aI N Z G,f,b,t,h,i,r,j,v=>by
  simp only[oB] at b;split at b
  .rename_i w ab ae af ag H;split at b
   .rename_i ah;injection b with b;subst b
    obtain⟨α,I,aJ,aK,B1,aM,gY,aP,aQ,aS,aT,aU,ai,aj,ak,al,an,ao,aq,O,ar,Q,S,au,av,aw,U⟩:=v;have ax:N=#[w]:=by rw[<-AI1 (xs:=N),af]
    subst ax;refine awU (by rw[j.eval];exact ai) aj ak al an ao aq (λk=>match k with | .ret=>O .ret | .exit id=>O (.exit id) | _=>λ_ _=>False) ar ?_ ?_ au ?_ ?_ ?_
    .intro k;split
     .exact Q _
     .exact Q _
     .exact λaW p az aX b _ _=>b.elim
    .intro k xs p b;split at b
     .exact S _ _ _ b
     .exact S _ _ _ b
     .exact b.elim
    .intro V pre u p l aA aB;have aC:Fits [] ({ tmps:=h.tmps.setIfInBounds w (I u),defers:=[] }:Act) (cz i w (I u)) n:=by
      refine⟨rfl,by simp[j.2.1],λy=>?_⟩
      have:=j.2.2 y
      simp only[cz];by_cases J:y=w
      .subst J;simp[j.2.1,ah]
      .have q:(h.tmps.setIfInBounds w (I u))[y]? = h.tmps[y]? := Array.getElem?_setIfInBounds_ne (Ne.symm J);rw[if_neg J,<-this];simp[Array.getD_eq_getD_getElem?,q]
     refine wpIn_mono (sound (ds:=[]) (r:=some V) s Z ab ag _ _ _ p aC (av pre u p l aA aB)) λm x az a=>?_;cases m with
     | normal =>
      obtain⟨c,d,g,q,K⟩:=a;refine⟨g,q,λeT aD=>?_⟩;refine wpIn_mono (sound (ds:=[]) (r:=some V) s G ae H _ _ _ eT d (K eT aD)) λm aY jd a=>?_;cases m with
      | normal=>obtain⟨c,_,g,q,K⟩:=a;exact⟨g,q,K⟩
      | ret=>obtain⟨c,_,g,q⟩:=a;exact⟨g,q⟩
      | exit id=>obtain⟨c,_,g,q⟩:=a;exact⟨g,q⟩
      | panic k=>obtain⟨c,_,g⟩:=a;exact g.elim
      | _=>exact a.elim
     | ret=>obtain⟨c,_,g⟩:=a;exact g.elim
     | exit id=>obtain⟨c,_,g⟩:=a;exact g.elim
     | panic k=>obtain⟨c,_,g⟩:=a;exact g.elim
     | _=>exact a.elim
    .intro D xs p z A l B;exact⟨some D,i,⟨by rw[j.1];rfl,j.2⟩,aw D xs p z A l B⟩
    .intro D k pre p z A l B;have W:Fits (marks (some D)) { h with defers:={ target:=.collected D,args:=#[] } :: h.defers } i n:=⟨by rw[j.1];rfl,j.2⟩;split at l
     .exact wpIn_ret ⟨some D,i,W,U D .ret pre p Ah z A l B⟩
     .exact wpIn_exit ⟨some D,i,W,U D (.exit _) pre p Ah z A l B⟩
     .exact l.elim
   .cases b
  .cases b
 | .seq u X,f,b,t,h,i,r,j,v=>by
  simp only[oB] at b;split at b
  .rename_i aE L;obtain⟨aF,M,rfl⟩:=Option.map_eq_some_iff.1 b;refine wpIn_seq (wpIn_mono (sound (ds:=[]) (r:=none) (m:=3) s u aE L _ h i r j v) λm x C a=>?_);cases m with
   | normal=>obtain⟨c,d,a⟩:=a;exact OB s X aF M t x c C d a
   | exit Y=>obtain⟨c,d,a⟩:=a;exact⟨none,c,d,a⟩
   | ret=>obtain⟨c,d,a⟩:=a;exact⟨none,c,d,a⟩
   | panic k=>obtain⟨c,d,a⟩:=a;exact⟨none,c,d,a⟩
   | _=>exact a.elim
  .split at b
   .rename_i rx aG L M;injection b with b;subst b
    refine wpIn_seq (wpIn_mono (OB s u rx L _ h i r j v) λm x C a=>?_);cases m with
    | normal =>
     obtain⟨e,c,d,a⟩:=a;exact wpIn_mono (sound (ds:=marks e) (r:=none) (m:=3) s X aG M (t e) x c C d a) λm a0 a2 b=>ath b
    | exit Y=>obtain⟨e,c,d,a⟩:=a;exact⟨e,c,d,a⟩
    | ret=>obtain⟨e,c,d,a⟩:=a;exact⟨e,c,d,a⟩
    | panic k=>obtain⟨e,c,d,a⟩:=a;exact⟨e,c,d,a⟩
    | _=>exact a.elim
   .cases b
 | .block id G,f,b,t,h,i,r,j,v=>by
  simp only[oB] at b;obtain⟨aH,H,rfl⟩:=Option.map_eq_some_iff.1 b;refine wpIn_block (wpIn_mono (OB s G aH H _ h i r j v) λm x C a=>?_);cases m with
  | normal=>obtain⟨e,c,d,a⟩:=a;exact⟨e,c,d,a⟩
  | ret=>obtain⟨e,c,d,a⟩:=a;exact⟨e,c,d,a⟩
  | panic k=>obtain⟨e,c,d,a⟩:=a;exact⟨e,c,d,a⟩
  | exit Y =>
   obtain⟨e,c,d,a⟩:=a;simp only[AM] at a;simp only[Exit.inBlock];split at a
   .rename_i l;rw[if_pos l];exact⟨e,c,d,a⟩
   .rename_i l;rw[if_neg l];exact⟨e,c,d,a⟩
  | _=>exact a.elim
 | .skip,f,b,_,_,_,_,_,_=>by simp[oB] at b
 | .region _ _ _,f,b,_,_,_,_,_,_=>by simp[oB] at b
 | .cond _ _ _,f,b,_,_,_,_,_,_=>by simp[oB] at b
 | .loop _,f,b,_,_,_,_,_,_=>by simp[oB] at b
 | .exit _,f,b,_,_,_,_,_,_=>by simp[oB] at b
 | .ret,f,b,_,_,_,_,_,_=>by simp[oB] at b
 | .scope _,f,b,_,_,_,_,_,_=>by simp[oB] at b
 | .label _,f,b,_,_,_,_,_,_=>by simp[oB] at b
 | .goto _,f,b,_,_,_,_,_,_=>by simp[oB] at b
 | .refuse _,f,b,_,_,_,_,_,_=>by simp[oB] at b
def F7(c:C_ nP)(R:B_->A_->Prop):H_ Nat->fG->Fr->A_->Prop
 | none,e,b,a=>F5 c R e b a
 | some D,.normal,b,a=>a.heap[D]? = some (.deferred (some []))/\qT c b (fZ a D (.deferred none)) λd=>R (j5 d) (fZ a D (.deferred none))
 | some D,.ret,b,a=>a.heap[D]? = some (.deferred (some []))/\qT c b (fZ a D (.deferred none)) λd=>R (j5 d) (fZ a D (.deferred none))
 | some _,.exit _,_,_=>False
 | some _,.ib _,_,_=>False
def Vs{P:D_}{D:Nat}{w:A_}(h:w.heap[D]? = some (.deferred (some []))):(Instr.takeDeferred D).run P w = .ok [] (fZ w D (.deferred none)):=by
 simp[Instr.takeDeferred,Sem.run_bind,getObj,setObj,Sem.run,h,Result.andThen,fZ]
def amy{P:D_}{f:E_}{j:yP}(s:P.follows .mixedOrders=true)(c:y8 P f=some j){args:C_ B_}{w:A_}{R:B_->A_->Prop}(t:args.length<=j.n)
  (h:q2 P j.code (F7 j.res R) (js args 0) w):a3 P f args.toArray w R:=by
 unfold y8 at c;split at c
 .rename_i fn u;split at c
  .rename_i p v;split at c
   .rename_i lc x y q;injection c with c;subst c
    refine(callsIn_wide (n:=3)).1 (callsIn_of_wp_marks (F:=Fence.wide) u v trivial (wpIn_mono (OB s p lc y _ _ (js args 0) w ?_ h) ?_))
    .refine⟨rfl,?_,λz=>?_⟩
     .have:=t;simp only at this;simp;omega
     .rw[Kt];simp only[Nat.zero_le,if_true,Nat.sub_zero];by_cases k:z<args.length
      .simp[Array.getD_eq_getD_getElem?,Array.getElem?_append,k]
      .simp only[Array.getD_eq_getD_getElem?,Array.getElem?_append,List.size_toArray,if_neg k,List.getElem?_eq_none (Nat.le_of_not_lt k),Option.getD_none];rw[Array.getElem?_replicate];split<;>rfl
    .have fin:∀(b:H_ Nat) (d:Fr) (i:Act) (g:A_),Fits (marks b) i d fn.ntmps->(F7 x R b .normal d g)->LeavesInM Fence.wide 3 P fn i.tmps (λl g => ∃r,l = .returned r/\R r g) i.defers .returning g:=by
      intro b d i g e a;rw[e.1];cases b with
      | none =>
       obtain⟨A,m,n⟩:=tI e _ _ _ q a;exact⟨_,yc m,_,rfl,n⟩
      | some D =>
       obtain⟨B,a⟩:=a;obtain⟨A,m,n⟩:=tI e _ _ _ q a;exact⟨Ah,.inl ⟨D,_,rfl,Vs B,⟨_,yc m,_,rfl,n⟩⟩⟩
     intro l i g a;cases l with
     | normal=>obtain⟨b,d,e,a⟩:=a;exact fin b d i g e a
     | ret =>
      obtain⟨b,d,e,a⟩:=a;refine fin b d i g e ?_;cases b<;>exact a
     | exit C=>obtain⟨b,d,e,a⟩:=a;cases b<;>exact a.elim
     | panic p=>obtain⟨b,d,e,a⟩:=a;cases b<;>exact a.elim
     | _=>exact a.elim
   .cases c
  .cases c
 .cases c
end a8
namespace a8
open Go Go.RowKit
section
variable{P:Program}{S:Fr}{w:World}
def gl.start{f:E_}{a:yP}(b:P.follows .mixedOrders=true)(c:y8 P f=some a){args:C_ B_}{w:A_}{R:B_->A_->Prop}(d:args.length<=a.n)(h:q2 P a.code (F7 a.res R) (js args 0) w):a3 P f args.toArray w R:=amy b c d h
def gl.h1{x:fg}{y:vp}{Q:H_ Nat->fG->Fr->A_->Prop}(h:fa P x (j4 (λS w=>q2 P y Q S w) (Q none) ⟨⟩) S w ⟨⟩):q2 P (.h1 x y) Q S w:=by unfold fa j4 at h;exact h
def gl.va{x:vp}{y:fg}{Q:H_ Nat->fG->Fr->A_->Prop}(h:q2 P x (λa=>j4 (λS w=>fa P y (Q a) S w ⟨⟩) (Q a) ⟨⟩) S w):q2 P (.va x y) Q S w:=by unfold fa j4 at h;exact h
def gl.b0{a:Nat}{x:vp}{Q:H_ Nat->fG->Fr->A_->Prop}(h:q2 P x (λb=>w4 a (Q b) ⟨⟩) S w):q2 P (.b0 a x) Q S w:=by unfold w4 at h;exact h
def gl.ret{a:C_ nP}{R:B_->A_->Prop}{D:Nat}(b:w.heap[D]? = some (.deferred (some [])))(h:oR a S (fZ w D (.deferred none)) (λc=>R (j5 c) (fZ w D (.deferred none))) ⟨⟩):F7 a R (some D) .ret S w:=by
 unfold oR at h;exact⟨b,h⟩
def gl.amt{a:C_ nP}{R:B_->A_->Prop}{e:fG}(h:um a R ⟨⟩ e S w):F7 a R none e S w:=by
 unfold um at h;exact h
theorem gl.agW{α:Type}{enc:α->B_}{g:G_}{p:Nat}{a b:fg}{Q:H_ Nat->fG->Fr->A_->Prop}{f:Nat}{k:Array B_}{B1:Nat}{st:Prop}{gY:A_->A_->Prop}{l:α->A_->Prop}{m r:C_ α->Prop}{n:Nat}{w0:A_}
  (u:bq S g = .func (.func f) #[] k)(v:okF P f=true)(x:yT P f k enc B1 st gY l m r n w0)(y:B1<=w.heap.size+2)(z:Ext w0 w)(A:At gY w.heap.size)
  (cE:C_ α->A_->Prop)(B:OwnFrom w.heap.size cE)(C:cE [] w)
  (G:∀pre e c,cE pre c->l e c->pre.length<n->fa P a (j4 (λs g0=>KeepsFrom w.heap.size c g0/\gY c g0/\∀eT,wT w.heap.size g0 eT ->
   fa P b (j4 (λ_ q=>KeepsFrom w.heap.size eT q/\gY eT q/\cE (pre++[e]) q) (λ_ _ _=>False) ⟨⟩) s eT ⟨⟩) (λ_ _ _=>False) ⟨⟩) (cz S p (enc e)) c ⟨⟩)
  (H:∀D t c,w.heap.size<=D->m t->cE t c->c.heap[D]? = some (.deferred (some []))->Q (some D) .normal S c):q2 P (.sP g p a b) Q S w:=by
 refine⟨α,enc,f,k,B1,st,gY,l,m,r,n,w0,u,v,x,y,z,A,cE,λ_ _ _=>False,B,λ_ _ _ _ _ d _ _=>d.elim,λ_ _ _ d=>d.elim,C,λpre e c I J K=>?_,H,λD h pre c _ _ _ d _=>d.elim⟩;have d:=G pre e c I J K;unfold fa j4 at d;refine rW a _ _ _ c (λh s g0 _ i=>?_) d;cases h with
 | normal =>
  obtain⟨L,M,N⟩:=i;refine⟨L,M,λeT O=>?_⟩;have U:=N eT O;refine rW b _ _ _ eT (λh V jd _ j=>?_) U;cases h with
  | normal=>exact j
  | exit _=>exact j.elim
  | ret=>exact j.elim
  | ib _=>exact j.elim
 | exit _=>exact i.elim
 | ret=>exact i.elim
 | ib _=>exact i.elim
def gl.sP{α:Type}{enc:α->B_}{g:G_}{p:Nat}{a b:fg}{Q:H_ Nat->fG->Fr->A_->Prop}{e:Nat}{h:Array B_}{gY:A_->A_->Prop}{i l:C_ α->Prop}{j:Nat}{w0:A_}
  (m:bq S g = .func (.func e) #[] h)(n:okF P e=true)(q:SeqStopsK Fence.wide 0 P e h (λd=>#[enc d]) gY i l j w0)(r:Ext w0 w)(s:At gY w.heap.size)
  (cE:C_ α->A_->Prop)(t:OwnFrom w.heap.size cE)(u:cE [] w)
  (v:∀pre d c,cE pre c->pre.length<j->fa P a (j4 (λx g0=>KeepsFrom w.heap.size c g0/\gY c g0/\∀eT,wT w.heap.size g0 eT ->
   fa P b (j4 (λ_ f=>KeepsFrom w.heap.size eT f/\gY eT f/\cE (pre++[d]) f) (λ_ _ _=>False) ⟨⟩) x eT ⟨⟩) (λ_ _ _=>False) ⟨⟩) (cz S p (enc d)) c ⟨⟩)
  (y:∀D k c,w.heap.size<=D->i k->cE k c->c.heap[D]? = some (.deferred (some []))->Q (some D) .normal S c):q2 P (.sP g p a b) Q S w :=
 gl.agW m n (yT.of q) (AG2 _) r s cE t u (λpre d c z _ A=>v pre d c z A) y
theorem wT.cells{B:Nat}{d e:A_}(h:wT B d e){k:Nat}{c:Array B_}{t:F_}{f:Nat×Nat}(a:d.heap[k]? = some (.cells c t f)):e.heap[k]? = some (.cells c t f):=by
 obtain⟨l,m,⟨n,g,i⟩,j⟩:=h;rw[j.block k (ca a) λb=>by injection b with b;subst b;rw[g] at a;injection a with a;subst a;cases i];exact a
def wT.mod{B:Nat}{c d:A_}(h:wT B c d):∃b,B<=b/\(∀e f g,c.heap[b]? ≠ some (.cells e f g))/\Mod (λi=>i=b) c d:=by
 obtain⟨b,j,⟨n,k,l⟩,m⟩:=h;exact⟨b,j,(λe f g a=>by rw[k] at a;injection a with a;subst a;cases l),Mod.grown m λi a=>by injection a with a;exact a.symm⟩
def Ext.keeps{a b:A_}(h:Ext a b)(B:Nat):KeepsFrom B a b:=⟨h.size,λd e _ c _=>h.obj c⟩
def Mod.keeps{A:Nat->Prop}{B:Nat}{c d:A_}(h:Mod A c d)(j:∀a,B<=a->A a->∃e f g,c.heap[a]? = some (.cells e f g)):KeepsFrom B c d :=
 ⟨h.size,λa n k i l=>h.obj (λm=>by obtain⟨e,f,g,b⟩:=j a k m;rw[i] at b;injection b with b;subst b;cases l) i⟩
def Mod.ia{A:Nat->Prop}{n0:Nat}{g:C_ F_}{b i:A_}(h:Mod A b i)(n:n0<=b.heap.size)(j:∀a,a<n0->¬A a)(k:∀a e c f,A a->b.heap[a]? = some (.cells e c f)->c∉g):qj n0 g b i :=
 ⟨⟨h.os,h.tape,h.output,h.size,λa d=>h.block a AW (j a d)⟩,λa e c f d l=>h.block a (ca d) λm=>k a e c f m d l⟩
def Mod.high{A:Nat->Prop}{w b c:A_}{row:H_ Nat}(h:Mod A w b)(f:b.grownBy c row)(g:∀d,row=some d->w.heap.size<=d):Mod A w c :=
 h.comp (Mod.grown (A:=λe=>row=some e) f λe a=>a) (λ_ _ i=>i) λj k a=>by have:=g j a;omega
def e4(d:Nat)(bs:C_ Nat)(e:C_ F_)(b f:A_):Prop:=Mod (λa=>a∈bs\/(d<=a/\∃g c h,c∈e/\b.heap[a]? = some (.cells g c h))) b f
def Ext.w7{c:Nat}{bs:C_ Nat}{d:C_ F_}{a b:A_}(h:Ext a b):e4 c bs d a b:=h.mod
def e4.trans{d:Nat}{bs:C_ Nat}{e:C_ F_}{a b c:A_}(h:e4 d bs e a b)(k:e4 d bs e b c):e4 d bs e a c :=
 ⟨k.os.trans h.os,k.tape.trans h.tape,k.output.trans h.output,T6 h.size k.size,λf g i=>by
  have j:=h.block f g i;refine(k.block f (AI8 g h.size) λa=>i ?_).trans j;rcases a with a | ⟨l,c,m,n,p,q⟩
  .exact .inl a
  .exact .inr ⟨l,c,m,n,p,by rw[<-j];exact q⟩⟩
def dY.w7{e b:Nat}{bs:C_ Nat}{f:C_ F_}{a c:A_}(h:dY b a c)(g:b∈bs):e4 e bs f a c:=(h.mod (A:=λd=>d=b) rfl).Ct λd i=>.inl (i ▸ g)
def e4.grown{α:Type}{enc:α->C_ B_}{sz c:Nat}{e:F_}{bs:C_ Nat}{d:C_ F_}{b f:A_}{v:B_}{xs:C_ α}(g:aR enc e sz c b v xs)(i:b.grownBy f v.ownBlock)(j:e∈d):e4 c bs d b f :=
 (Mod.grown (A:=λa=>v.ownBlock=some a) i λa e=>e).Ct λa h=>by
  obtain⟨l,k⟩:=g.b0 a h;exact .inr ⟨(g.lt a h).1,_,_,_,j,k⟩
def e4.keeps{d B:Nat}{bs:C_ Nat}{e:C_ F_}{b c:A_}(h:e4 d bs e b c)(f:∀g∈bs,g<B):KeepsFrom B b c :=
 Mod.keeps h λi m a=>by
  rcases a with a | ⟨_,j,k,l,_,a⟩
  .have:=f i a;omega
  .exact⟨j,k,l,a⟩
def e4.ia{j n0:Nat}{bs:C_ Nat}{k tys:C_ F_}{d l:A_}(h:e4 j bs k d l)(p:n0<=d.heap.size)(s:n0<=j)(m:∀n∈bs,n0<=n/\∀e b f,d.heap[n]? = some (.cells e b f)->b∉tys)(q:∀b∈k,b∉tys):qj n0 tys d l :=
 Mod.ia h p (λg i a=>by
  rcases a with a | ⟨a,_⟩
  .have:=(m g a).1;omega
  .omega) λg e b f a i=>by
  rcases a with a | ⟨_,t,u,v,r,c⟩
  .exact(m g a).2 e b f i
  .rw[i] at c;injection c with c;injection c with _ c;subst c;exact q _ r
theorem e4.from{bs:C_ Nat}{f:C_ F_}{w d e:A_}(h:Mod (λb=>b∈bs) w d)(c:e4 w.heap.size bs f d e):Mod (λb=>b∈bs) w e :=
 h.comp c (λ_ _ a=>a) λb g a=>by
  rcases a with a | ⟨a,_⟩
  .exact a
  .omega
theorem e4.obj{j:Nat}{bs:C_ Nat}{e:C_ F_}{g i:A_}(h:e4 j bs e g i){k:Nat}{c:Array B_}{t:F_}{f:Nat×Nat}(b:g.heap[k]? = some (.cells c t f))(l:k∉bs)(m:t∉e):i.heap[k]? = some (.cells c t f):=by
 rw[Mod.block h k (ca b) λd=>?_]
 .exact b
 .rcases d with d | ⟨_,p,q,r,n,a⟩
  .exact l d
  .rw[b] at a;injection a with a;injection a with _ a;subst a;exact m n
theorem e4.ext{b:Nat}{bs:C_ Nat}{e:C_ F_}{w c d:A_}(h:e4 b bs e c d)(f:Ext w c)(k:w.heap.size<=b)(g:∀i∈bs,w.heap.size<=i):Ext w d :=
 Mod.ext h f λj l a=>by
  rcases a with a | ⟨a,_⟩
  .have:=g j a;omega
  .omega
end
end a8
namespace Go.Proofs.R
open Go a8 Go.Proofs
def D.j:yP:=⟨37,[.tmp 2], (.h1 (.cN [dn 2 (.const hA)]) (.h1 (b2 [aL 8 0,gg 9 8,mh .eql T.a 10 9 0] (iA 10 (b2 [c6 11 (.hj T.b 0 1 [] []),c6 12 (.hj T.k 1 1 [hA] [(0,(aO 11))]),aL 2 12] .ret) .skip)) (.h1 (.cN [aL 13 0,cl 14 (.kG 2 (aO 13) (some (bQ 1)) none none),qc 15 F.j [14],c6 3 (.new T.x hA),ys 3 15]) (.h1 (.cN [c6 4 (.new T.x hA)]) (.va (.h1 (.cN [aL 16 0,cl 17 (.ph 2 (aO 16) (bQ 0)),fp 18 1 17,dD 19 18,qc 20 F.yW [19]]) (.b0 0 (.sP (aO 20) 21 (.cN [aL 5 21]) (.b0 1 (b2 [dD 22 3,gg 23 22,dn 24 (bQ 0)] (.b0 2 (.loop (b2 [gX .lss T.a 25 24 23] (oj 25 2
 (.seq (.b0 3 (b2 [gO 26 1 22 24,dD 27 26,aL 7 27] (.p7 (nL (dD 28 4) (nL (aL 29 5) (nL (aL 31 7) (.alt (c6 30 (.hj T.b 1 1 [hA] [(0,(aO 29))])) (.alt (c6 32 (.app T.k T.b 1 24 (aO 30) (aO 31))) (.alt (c6 33 (.hj T.k 1 1 [hA] [(0,(aO 32))])) (.gv (c6 34 (.app T.x T.k 1 24 (aO 28) (aO 33))) (.gv (ys 4 34) .done .nil) .nil) .nil) .nil) .nil))))))) (oi T.a 35 24))))))))))) (b2 [dD 36 4,aL 2 36] .ret))))))⟩
theorem yD.j:y8 Tryz.prog F.j=some D.j:=Cg
def D.cs:yP:=⟨37,[.tmp 2], (.h1 (.cN [c6 1 (.box T.h (aO 0)),dn 2 (.const hA)]) (.h1 (.cN [c6 3 (.new T.u hA)]) (.h1 (.cN [cl 8 (.hL [dk,dk] [(0,1),(1,1)] [(0,(bQ (-1)))]),c6 4 (.new T.a dk),c6 5 (.new T.c (.agg #[dk,dk])),hH (.st (aO 4) (bQ (-1))),sV 2 5 8]) (.va (.h1 (.cN [m9 9 5 1,qc 10 F.pF [9]]) (.b0 0 (.sP (aO 10) 11 (.cN [c6 6 (.new T.c (.agg #[dk,dk])),sV 2 6 11]) (.b0 1 (.seq (b2 [m9 12 2 6,m9 13 2 5,gX .neq T.c 14 12 13] (iA 14 (.cN [dD 15 4,mh .add T.a 16 15 1,ys 4 16]) .skip)) (b2 [m9 17 2 6,sV 2 5 17] (b2 [fp 18 3 1,dD 19 18,fp 20 0 6,dD 21 20,gO 22 5 19 21,fp 23 4 22,dD 24 23,gg 25 24,dn 26 (bQ 0)] (.b0 2 (.loop (b2 [gX .lss T.a 27 26 25] (oj 27 2
 (.seq (.b0 3 (b2 [aL 28 26,aL 7 28] (.cN [dD 29 3,dD 30 4,aL 31 7,cl 32 (.hL [dk,dk] [(0,1),(1,1)] [(0,(aO 30)),(1,(aO 31))]),c6 33 (.hj T.f 1 2 [dk,dk] [(0,(aO 32))]),c6 34 (.app T.u T.f 2 16 (aO 29) (aO 33)),ys 3 34]))) (oi T.a 35 26))))))))))))) (b2 [dD 36 3,aL 2 36] .ret)))))⟩
theorem yD.cs:y8 Tryz.prog F.cs=some D.cs:=Cg
def D.n1:yP:=⟨13,[.tmp 4], (.h1 (.cN [c6 2 (.box T.o3 (aO 0)),dn 4 (.const hA)]) (.va (.h1 (.cN [aL 6 1]) (.b0 0 (.sP (aO 6) 7 (.cN [c6 5 (.new T.c (.agg #[dk,dk])),sV 2 5 7]) (.b0 1 (.cN [dD 8 2,m9 9 2 5,c6 10 (.hj T.c 1 2 [dk,dk] [(0,(aO 9))]),c6 11 (.app T.o3 T.c 2 16 (aO 8) (aO 10)),ys 2 11]))))) (b2 [dD 12 2,aL 4 12] .ret)))⟩
theorem yD.n1:y8 Tryz.prog F.n1=some D.n1:=Cg
def D.u:yP:=⟨19,[], (.h1 (.cN [c6 2 (.box T.pE (aO 0))]) (.h1 (b2 [dD 4 1,mh .lss T.a 5 4 0,aL 6 5,Aq 6 (dD 7 1),Aq 6 (mh .gtr T.a 8 7 8),om 9 6 8] (iA 9 .ret .skip)) (.h1 (.cN [dD 10 1,qc 11 F.cX [10]]) (.b0 0 (.sP (aO 11) 12 (.cN [aL 3 12]) (.b0 1 (.seq (.p7 (nL (dD 13 2) (nL (dD 14 1) (nL (aL 15 3) (.alt (qc 16 F.cP [14,15]) (.gv (fr 17 (.val (aO 13) [(aO 16)])) (nL (cl 18 (.un .not (aO 17))) .done) .nil) .nil))))) (iA 18 .ret .skip))))))))⟩
theorem yD.u:y8 Tryz.prog F.u=some D.u:=Cg
end Go.Proofs.R
namespace o
open Go Go.RowKit a8
def aav(x:c7):tf ahB x.enc:=⟨⟨_,rfl⟩,⟨_,rfl⟩,trivial⟩
def asf(x y:c7)(h:x.enc=y.enc):x=y:=by cases x;cases y;simpa[c7.enc] using h
abbrev yU(m:Model):={a:c7 // a.of m}
end o
namespace a8
open Go Go.RowKit
def Ext.Rr{w w':A_}(h:Ext w w'):w.grownBy w' none:=⟨h.os,h.tape,h.output,h.size,λb a _=>h.heap a⟩
end a8
namespace Go.Proofs.R
open Go Go.RowKit a8 o
def amo(cs:C_ B_)(m:o.Model)(p:ee)(b dI:B_)(w:A_)(h:eu w cs m) :
  EG F.eq #[.agg cs.toArray,.agg (p.enc b dI).toArray] w λc a=>c = .I (o.elems m p)/\Ext w a:=by
 obtain⟨k,l,n,bg,q,bj,r,s,t,u,rfl,d,v,x,y,z,A,B,C,G,H⟩:=h.form;refine bm E.eq ?_;refine ad ?_;intro I J K e L;refine ad ?_;intro f M N g O;have dm:∀{a},Ext f a->Ext w a:=λi=>(e.trans g).trans i;refine ad ?_;rw[o.elems];apply I_<;>intro P
 .refine ad ?_;rw[hz (.inl AW)];exact⟨aZ,dm (Ext.refl _)⟩
 refine ad ?_;apply I_<;>intro Q
 .refine ad ?_;rw[hz (.inr AW)];exact⟨aZ,dm (Ext.refl _)⟩
 have j:(p.over - 1).toNat<m.scalars.length:=AW
 obtain⟨S,rfl⟩:=d.addr;rw[ir AW AW];refine ad ?_;refine M_ (p.over - 1).toNat AW j ?_;refine ad ?_;apply I_<;>intro U
 .refine ad ?_;refine⟨?_,dm (Ext.refl _)⟩;rw[if_pos AW];rfl
 refine ad ?_;apply I_<;>intro V
 .refine ad ?_;refine⟨?_,dm (Ext.refl _)⟩;rw[if_pos AW];rfl
 refine ad ?_;refine⟨?_,dm (Ext.refl _)⟩;rw[if_neg AW];congr 1;omega
def awp(cs:C_ B_)(m:o.Model)(p:ee)(b dI:B_)(w:A_)(h:eu w cs m) :
  EG F.M9 #[.agg cs.toArray,.agg (p.enc b dI).toArray] w λc a=>c = .I (o.elems m p)/\Ext w a:=by
 obtain⟨k,l,n,bg,q,bj,r,s,t,u,rfl,d,v,x,y,z,A,B,C,G,H⟩:=h.form;refine bm E.M9 ?_;refine ad ?_;intro I J K e L;refine ad ?_;intro f M N g O;have dm:∀{a},Ext f a->Ext w a:=λi=>(e.trans g).trans i;refine ad ?_;rw[o.elems];apply I_<;>intro P
 .refine ad ?_;rw[hz (.inl AW)];exact⟨aZ,dm (Ext.refl _)⟩
 refine ad ?_;apply I_<;>intro Q
 .refine ad ?_;rw[hz (.inr AW)];exact⟨aZ,dm (Ext.refl _)⟩
 have j:(p.over - 1).toNat<m.scalars.length:=AW
 obtain⟨S,rfl⟩:=d.addr;rw[ir AW AW];refine ad ?_;refine M_ (p.over - 1).toNat AW j ?_;refine ad ?_;apply I_<;>intro U
 .refine ad ?_;refine⟨?_,dm (Ext.refl _)⟩;rw[if_pos AW];rfl
 refine ad ?_;apply I_<;>intro V
 .refine ad ?_;refine⟨?_,dm (Ext.refl _)⟩;rw[if_pos AW];rfl
 refine ad ?_;refine⟨?_,dm (Ext.refl _)⟩;rw[if_neg AW];congr 1;omega
def aeu(x:c7):B_:=.agg x.enc.toArray
def aeA{f w0:A_}{b:Nat}{cs:C_ B_}{m:o.Model}(I:w0.heap[b]? = some (.cells cs.toArray T.h))(h:eu f cs m)(al:Ext f w0) :
  SeqStopsK Fence.wide 0 Tryz.prog F.t #[.pointer (some ⟨b,0,none⟩)] (λan:yU m=>#[aeu an.1]) (qj f.heap.size [T.af,T.h]) (λp=>p.map Subtype.val=o.insts m) (λ_=>True) (o.insts m).length w0:=by
 intro ao g aq J K ar a5 L au;have av:Ext f J:=al.trans K;have M:=Ext.obj (w:=w0) K I;obtain⟨aw,ax,az,bg,aA,bj,aB,aC,aD,aE,rfl,a6,a7,a9,N,ba,bb,bf,bk,bn,bo⟩:=h.form;refine callsIn_wide.2 (Calls.mono (show EG F.t #[.func (.yield ao) #[] #[],.pointer (some ⟨b,0,none⟩)] J (λ_ u=>(∃p,p.map Subtype.val=o.insts m/\g p u)\/(∃pre:C_ (yU m),True/\aq pre u)) from ?_) λd u ⟨aF,e,v⟩=>⟨⟨aF,e⟩,v⟩);have O:∀{pre:C_ (yU m)} {q c:A_},g pre q->Ext q c->g pre c:=λ{pre q c} P d=>ar pre q c none P d.Rr (λr d=>by cases d);refine bm E.t ?_;refine ad ?_;refine K_ 9 m.procs.length [0,1,7,8] (λ_=>[]) ([]:C_ (yU m)) (λa pre c=>(Ext f c/\c.heap[b]? = some (.cells #[.slice aw m.scalars.length ax,.slice az m.vars.length bg,.slice aA m.ay.length bj,.slice aB m.procs.length aC,.slice aD m.props.length aE] T.h)/\g pre c)/\pre.map Subtype.val++kD m (m.procs.drop a) a=o.insts m) aV aV ⟨⟨av,M,au⟩,by simp[o.insts]⟩ ?_;clear M I;rintro a pre Q bp br ⟨⟨S,U,V⟩,i⟩;refine ad ?_;apply I_<;>intro bt
 .have j:a<m.procs.length:=AW
  obtain⟨bu,rfl⟩:=N.addr;obtain⟨bw,bx,dI,bz,aG,aH⟩:=N.at a j;obtain⟨_,_,rfl,_⟩:=aG.form;obtain⟨_,_,rfl,_⟩:=aH.form;rw[aew j] at i;have bA:=ca U;refine eC ?_;simp -dsimp only[cA];refine eC ?_;simp -dsimp only[cA];refine eC ?_;intro bB w aI aJ bC;refine eC ?_;intro x aK W;have s:=aK.ext aJ aI;have X:=s.obj U;have Y:=O V s;have aM:∀(y:C_ (yU m)) (r:C_ c7),y.map Subtype.val++r=o.insts m->r≠[]->y.length<(o.insts m).length:=λy r d aP=>by
   rw[<-d,Jv,AG7]
   have:=List.length_pos_iff.2 aP
   omega
  have bE:=F3 m m.procs[a];refine eC ?_;refine S_ [0,1,3,4,7,8,9] (λ_=>[]) (λ(k:C_ (yU m)) c=>(Ext f c/\c.heap[w]? = x.heap[w]? /\ c.heap[b]? = x.heap[b]? /\ g k c)/\k.map Subtype.val=pre.map Subtype.val++jE a m.procs[a]) ?_ ?_
  .refine ad ?_;apply I_<;>intro Z
   .have e:jE a m.procs[a]=[⟨(a:Int),0⟩]:=by unfold jE;rw[if_pos Z]
    rw[e] at i;refine ad ?_;refine _v (L pre ⟨⟨(a:Int),0⟩,Ah,by simpa using j,Ah⟩ x Y (aM pre _ (by simpa[List.append_assoc] using i) Ah)) ?_;rintro d ab (⟨rfl,l,z⟩ | ⟨rfl,l⟩)
    .refine⟨.bool true,rfl,?_⟩;refine ad ?_;exact⟨_,trivial,⟨Below.trans (Ext.trans S s) z.1,z.2 w _ _ _ W Ah,z.2 b _ _ _ X Ah,l⟩,by simp[e]⟩
    .refine⟨.bool false,rfl,?_⟩;refine ad ?_;exact .inr ⟨_,trivial,l⟩
   .have e:jE a m.procs[a]=[]:=by unfold jE;rw[if_neg Z]
    refine ad ?_;exact⟨pre,trivial,⟨S.trans s,aZ,aZ,Y⟩,by simp[e]⟩
  rintro A Q ab ⟨⟨ae,aQ,af,l⟩,aS⟩;rw[W] at aQ;rw[X] at af;refine ad ?_;refine J_ (amo _ m m.procs[a] _ _ ab (h.ext ae)) ?_;rintro _ aT ⟨rfl,B⟩;have aU:=O l B;have ag:=B.obj af;have aW:=ae.trans B;have ah:A.map Subtype.val++km a (o.elems m m.procs[a])++kD m (m.procs.drop (a+1)) (a+1)=o.insts m:=by rw[aS,<-i];simp
  refine ad ?_;refine K_ 27 (o.elems m m.procs[a]) [0,1,3,7,8,9,26] (λ_=>[]) A (λn k c=>(Ext f c/\c.heap[b]? = aT.heap[b]? /\ g k c)/\k.map Subtype.val=A.map Subtype.val++km a n) aV aV ⟨⟨aW,rfl,aU⟩,by simp[km]⟩ ?_;rintro n C Q aX P ⟨⟨ai,t,aj⟩,G⟩;rw[ag] at t;refine ad ?_;apply I_<;>intro bF
  .have aY:n<o.elems m m.procs[a]:=AW
   have a0:C.length<(o.insts m).length:=by
    have e:=congrArg List.length ah;have v:=congrArg List.length G;simp only[List.length_append,List.length_map,km,List.length_range] at e v;omega
   refine ad ?_;refine _v (L C ⟨⟨(a:Int),(n:Int)+1⟩,Ah,by simpa using j,by constructor<;>simp<;>omega⟩ aX aj a0) ?_;rintro d bG (⟨rfl,H,ak⟩ | ⟨rfl,H⟩)
   .refine⟨.bool true,rfl,?_⟩;refine ad ?_;exact⟨aY,aZ,_,trivial,⟨Below.trans ai ak.1,by rw[ak.2 b _ _ _ t Ah,t,ag],H⟩,by simp[G,afS]⟩
   .refine⟨.bool false,rfl,?_⟩;refine ad ?_;exact .inr ⟨_,trivial,H⟩
  .have a2:n=o.elems m m.procs[a]:=AW
   subst a2;refine ad ?_;exact⟨j,aZ,C,trivial,⟨ai,t,aj⟩,by rw[G];exact ah⟩
 .refine ad ?_;rw[VB AW] at i;exact .inl ⟨pre,by simpa[kD] using i,V⟩
end Go.Proofs.R
namespace a8
open Go Go.RowKit
def ZC(a t:F_)(sz b:Nat)(c:Array B_):yP:=⟨13,[.tmp 4],
 (.h1 (.cN [c6 2 (.box a (aO 0)),dn 4 (.const (.slice none 0 0))])
 (.va (.h1 (.cN [aL 6 1])
 (.b0 0 (.sP (aO 6) 7 (.cN [c6 5 (.new t (.agg c)),hH (.mJ sz (aO 5) (aO 7))]) (.b0 1 (.cN [dD 8 2,na 9 (.lk sz (aO 5)),c6 10 (.hj t 1 sz c.toList [(0,(aO 9))]),c6 11 (.app a t sz b (aO 8) (aO 10)),ys 2 11])))))
 (.seq (.cN [dD 12 2,aL 4 12])
 .ret)))⟩
theorem ae0:∀(b pre a:C_ B_),b.length<=a.length->(b.zipIdx pre.length).foldl (λg (e:B_×Nat)=>g.set (0+e.2) e.1) (pre++a)=pre++b++a.drop b.length
 | [],pre,a,_=>Ah
 | c :: b,pre,[],d=>by simp at d
 | c :: b,pre,h :: a,d=>by
  have f:=ae0 b (pre++[c]) a (by simpa using d);simp only[List.length_append,List.length_cons,List.length_nil] at f;simp only[List.zipIdx_cons,List.foldl_cons,List.length_cons,List.drop_succ_cons];rw[show(pre++h :: a).set (0+pre.length) c=(pre++[c])++a from Ah,f];simp
def anh{S:Fr}{sz:Nat}{a cs:C_ B_}{t:Nat}(c:S t = .agg cs.toArray)(d:cs.length=sz)(h:a.length=sz)(i:0<sz):gu S ((List.range 1).map λb=>(b*sz,sz)) [(0,.tmp t)] a=some cs:=by
 have e:lay a 0 (.agg cs.toArray)=cs:=by
  have:=ae0 cs [] a AW
  simp only[List.nil_append,List.length_nil] at this;unfold lay;simp only[Value.cells];rw[this,VB AW,AG8]
 have f:(bq S (.tmp t)).cells.size=sz:=by
  show(S t).cells.size=sz;rw[c];simp[Value.cells,d]
 have g:((List.range 1).map λb=>(b*sz,sz))[0]? = some (0,sz):=Ah
 unfold gu;simp only[g];rw[if_pos ⟨f,AW⟩];unfold gu;show some (lay a 0 (S t))=_;rw[c,e]
section
variable{α:Type}{P:Program}{f:FuncId}{t cU:TypeId}{sz b:Nat}{enc:α->List Value}{z:Array Value}
def ajU(n:P.follows .mixedOrders=true)(an:y8 P f=some (ZC cU t sz b z))(W:z.size=sz)(A:∀g,(enc g).length=sz)(X:∀g,∀ao∈enc g,ao.oneCell'=true)(aq:0<sz)
  {J:Nat}{Y:Array B_}{n0:Nat}{tys:C_ F_}{Z ar:C_ α->Prop}{B:Nat}{w0 w:A_}(au:okF P J=true)
  (av:SeqStopsK Fence.wide 0 P J Y (λg=>#[.agg (enc g).toArray]) (qj n0 tys) Z ar B w0)(aw:Ext w0 w)(ax:n0<=w.heap.size)(az:t∉tys)(aA:cU∉tys)(ab:cU≠t)(aB:B*b<=140737488355328)(a6:B<=maxLen) :
  a3 P f #[.slice none 0 0,.func (.func J) #[] Y] w λaC ae=>(∃C,Z C/\aR enc t sz w.heap.size ae aC C)/\Ext w ae:=by
 refine gl.start n an (args:=[_,_]) (Nat.le_of_ble_eq_true rfl) ?_;dsimp only[ZC,aO,bQ,h3,cl,na,c6,fr,hH,cK,aL,dn,fp,dD,gO,ys,gg];refine gl.h1 ?_;refine ad ?_;intro G h a7 u af;refine ad ?_;refine gl.va (gl.h1 ?_);simp -dsimp only[c8,cA,Nat.reduceAdd,Nat.reduceEqDiff,reduceIte,reduceCtorEq,dq];refine gl.b0 (gl.sP (w0:=w0) (enc:=λg=>.agg (enc g).toArray) (by simp[dy,bS]) au av (aw.trans u) (qj.ok tys (T6 ax u.size))
  (λpre r=>Mod (λc=>c=h) G r/\∃(i:H_ Addr) (j k:Nat),r.heap[h]? = some (.cells #[.slice i j k] cU)/\aR enc t sz G.heap.size r (.slice i j k) pre) ?_ ⟨Mod.refl _ _,none,0,0,af,aR.nil _ _ _ _ _⟩ ?_ ?_)
 .rintro pre r a9 row ⟨n,i,j,k,K,p⟩ L M;refine⟨n.high L λaD l=>(M aD l).1,i,j,k,?_,p.mod (Mod.grown (A:=λc=>row=some c) L λc l=>l) λc d a=>?_⟩
  .rw[L.block h (ca K) λl=>?_]
   .exact K
   .obtain⟨aE,m,N⟩:=(M h l.symm).2;rw[K] at m;injection m with m;subst m;cases N
  .obtain⟨v,e⟩:=p.b0 c d;obtain⟨aE,m,N⟩:=(M c a).2;rw[e] at m;injection m with m;subst m;cases N
 .rintro pre g r ⟨n,i,j,k,O,p⟩ aF;have ba:=ca af;have bb:=n.size
  try (simp -dsimp only[c8,cA,Nat.reduceAdd,Nat.reduceEqDiff,reduceIte,reduceCtorEq,dq])
  refine O_ λg0 bf aG aH aI=>?_
  try (simp -dsimp only[c8,cA,Nat.reduceAdd,Nat.reduceEqDiff,reduceIte,reduceCtorEq,dq])
  refine X_ aI W (by simpa using A g) (by simpa using X g) λeT aJ aK=>?_
  try (simp -dsimp only[c8,cA,Nat.reduceAdd,Nat.reduceEqDiff,reduceIte,reduceCtorEq,dq])
  have q:=aJ.ext aH aG;refine⟨q.keeps _,q.ia AW,λjd Q=>?_⟩;obtain⟨aM,bk,aP,H⟩:=Q.mod;have aQ:=Q.cells aK;have I:=Q.cells (q.obj O);have x:aR enc t sz G.heap.size jd (.slice i j k) pre:=(p.ext q).mod H λc d a=>by
   subst a;obtain⟨v,e⟩:=(p.ext q).b0 c d;exact aP _ _ _ e
  try (simp -dsimp only[c8,cA,Nat.reduceAdd,Nat.reduceEqDiff,reduceIte,reduceCtorEq,dq])
  refine _C I (Ext.refl _) rfl ?_
  try (simp -dsimp only[c8,cA,Nat.reduceAdd,Nat.reduceEqDiff,reduceIte,reduceCtorEq,dq])
  refine Y_ (gP aQ) (A g) ?_
  try (simp -dsimp only[c8,cA,Nat.reduceAdd,Nat.reduceEqDiff,reduceIte,reduceCtorEq,dq])
  refine _E (anh (cs:=enc g) (by simp[bS]) (A g) (by simpa using W) aq) λo2 bn bo y aS=>?_
  try (simp -dsimp only[c8,cA,Nat.reduceAdd,Nat.reduceEqDiff,reduceIte,reduceCtorEq,dq])
  have aT:pre.length+1<=B:=aF;refine _J (ys:=[g]) (x.ext y) A (by simpa using gP aS) rfl X (T6 (AJ0 b aT) aB) (by simp only[List.length_cons,List.length_nil];omega) (by have:=H.size;have:=y.size;have:=q.size;omega) λbp j7 S ag br=>?_;obtain⟨aU,aW,rfl,_⟩:=S.form;have U:=y.obj I;have ah:j7.heap[h]? = some (.cells #[.slice i j k] cU):=by
   rw[ag.block h (ca U) λl=>?_]
   .exact U
   .obtain⟨v,e⟩:=(x.ext y).b0 h l.symm;rw[U] at e;injection e with e;injection e with _ e;exact ab e
  try (simp -dsimp only[c8,cA,Nat.reduceAdd,Nat.reduceEqDiff,reduceIte,reduceCtorEq,dq])
  refine _j ah Ah rfl λj8 ai aX=>?_
  try (simp -dsimp only[c8,cA,Nat.reduceAdd,Nat.reduceEqDiff,reduceIte,reduceCtorEq,dq])
  have aj:∀c,(Value.slice i j k).ownBlock=some c->G.heap.size<=c:=λc d=>(x.lt c d).1;have aY:Mod (λc=>(Value.slice i j k).ownBlock=some c\/c=h) o2 j8:=(Mod.grown (A:=λc=>(Value.slice i j k).ownBlock=some c) ag λc l=>l).comp (A':=λc=>c=h) (ai.mod rfl) (λ_ _ a=>.inl a) (λ_ _ a=>.inr a);have V:Mod (λc=>(Value.slice i j k).ownBlock=some c\/c=h) jd j8:=y.mod.comp aY (A:=λ_=>False) (λ_ _ s=>s.elim) (λ_ _ s=>s);refine⟨V.keeps λc d a=>?_,V.ia (by have:=H.size;have:=q.size;omega) (λc d a=>?_) (λc bt bu bw a d ak=>?_),?_,aU,_,aW,aX,?_⟩
  .rcases a with a | a
   .obtain⟨v,e⟩:=x.b0 c a;exact⟨_,_,_,e⟩
   .subst a;exact⟨_,_,_,I⟩
  .rcases a with a | a
   .have:=aj c a;have:=u.size;omega
   .omega
  .rcases a with a | a
   .obtain⟨v,e⟩:=x.b0 c a;rw[e] at d;injection d with d;injection d with _ d;subst d;exact az ak
   .subst a;rw[I] at d;injection d with d;injection d with _ d;subst d;exact aA ak
  .refine(n.comp (B:=λc=>c=h) (A':=λc=>(Value.slice i j k).ownBlock=some c\/c=h\/c=aM) ?_ (λ_ _ a=>a) λc d a=>?_)
   .exact(q.mod (A:=λ_=>False)).comp (H.comp V (λ_ _ a=>(Or.inr (Or.inr a):_\/_\/_)) (λ_ _ a=>by rcases a with a | a;exact .inl a;exact .inr (.inl a))) (λ_ _ s=>s.elim) (λ_ _ s=>s)
   .rcases a with a | a | a
    .have:=aj c a;omega
    .exact a
    .omega
  .refine S.mod (ai.mod (A:=λc=>c=h) rfl) λc d a=>?_;subst a;obtain⟨v,e⟩:=S.b0 c d;rw[ah] at e;injection e with e;injection e with _ e;exact ab e
 .rintro D C r a0 a2 ⟨n,i,j,k,O,p⟩ al;simp -dsimp only[c8,cA,Nat.reduceAdd,Nat.reduceEqDiff,reduceIte,reduceCtorEq,dq];refine _C O (Ext.refl _) rfl ?_;simp -dsimp only[c8,cA,Nat.reduceAdd,Nat.reduceEqDiff,reduceIte,reduceCtorEq,dq];refine gl.ret al ?_;simp -dsimp only[c8,cA,Nat.reduceAdd,Nat.reduceEqDiff,reduceIte,reduceCtorEq,dq];have a5:Ext w r:=n.ext u λc d l=>AW
  refine⟨⟨C,a2,(p.mod (A:=λc=>c=D) ((dY.fZ _ _ _).mod rfl) λc d a=>?_).low u.size⟩,a5.fZ (T6 u.size a0) _⟩;subst a;obtain⟨v,e⟩:=p.b0 c d;rw[al] at e;injection e with e;cases e
end
end a8