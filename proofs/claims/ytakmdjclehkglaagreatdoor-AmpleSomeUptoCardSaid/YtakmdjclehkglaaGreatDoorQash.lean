/- Parts. -/
import Derived.Test.YtakmdjclehkglaaGreatDoorQasg
import Derived.RangeFuncWrites
set_option linter.all false
set_option maxRecDepth 100000
set_option maxHeartbeats 16000000
section
namespace Go.Proofs.R
open Go Go.RowKit ba
theorem acC(aR U:Int)(w:A_):DD F.FP #[.I aR,.I U] w fun v w'=>v = .bool (o.narrow aR U)/\w'=w:=by
 refine br E.FP ?_
 (repeat' first
  | (refine I_ (fun _=>?_) (fun _=>?_)<;>try (exfalso;omega))
  | (refine N_ (fun _=>?_) (fun _=>?_))
  | (refine Q_ AK ?_)
  | (refine M_ Bz ?_)
  | (refine _a AK ?_)
  | simp -dsimp only[c7,cB,Nat.reduceAdd,Nat.reduceEqDiff,reduceIte,reduceCtorEq,df])
 all_goals (refine⟨?_,by first | rfl | trivial⟩;congr 1;rw[AG4];simp[o.narrow];omega)
def LU(v:o.Var)(s:C_ o.Scalar):Int :=
 if (v.scalar≠0/\o.size v.scalar s=0)\/(v.over≠0/\o.size v.over s=0) then 8
 else if v.scalar=0/\(o.narrow v.aR v.U=false\/v.init<v.aR\/v.init > v.U) then 10
 else if v.scalar≠0/\(v.init<0\/v.init > o.size v.scalar s) then 10 else 0
theorem arD(l:C_ o.Var)(s:C_ o.Scalar)(i:Nat)(h:i<l.length):o.p7 l s i=LU l[i] s:=by
 rw[o.p7,List.getElem?_eq_getElem h];simp only[LU,o.there,o.bounds,decide_eq_false_iff_not];by_cases af:l[i].scalar=0
 .simp only[af,if_true];by_cases h1:l[i].over=0
  .simp[h1]
  .simp[h1]
 .simp only[af,if_false];by_cases h1:l[i].over=0
  .simp[af,h1]
  .simp[af,h1]
theorem apE(x:o.Var)(v:B_)(l:C_ o.Scalar)(w:A_)(aC:o.ih w v l) :
  DD F.KF #[.agg x.enc.toArray,v] w fun v w'=>v = .I (LU x l)/\Ext w w':=by
 obtain⟨aQ,cap,rfl,hlen⟩:=aC.form;refine br E.KF ?_;simp -dsimp only[c7,cB,Nat.reduceAdd,Nat.reduceEqDiff,reduceIte,reduceCtorEq,df];refine O_ fun w1 b ao ai al=>?_;have nf:=bn.ext o.kd.ext ai aC;have c1:w1.cell? (Addr.add ⟨b,0,none⟩ 1)=some (.I x.scalar):=fW al rfl;have c2:w1.cell? (Addr.add ⟨b,0,none⟩ 2)=some (.I x.over):=fW al rfl;have bu:w1.cell? (Addr.add ⟨b,0,none⟩ 3)=some (.I x.aR):=fW al rfl;have bC:w1.cell? (Addr.add ⟨b,0,none⟩ 4)=some (.I x.U):=fW al rfl;have r5:w1.cell? (Addr.add ⟨b,0,none⟩ 5)=some (.I x.init):=fW al rfl;have ar:∀k w',Ext w1 w'->DD F.FO #[.slice aQ l.length cap,.I k] w' fun u bO=>u = .I (o.size k l)/\Ext w' bO:=fun k w' he =>
  (CG k _ l w' (bn.ext o.kd.ext he nf)).mono fun v bO h=>⟨h.1,h.2 ▸ Ext.refl _⟩
 (repeat' first
  | (refine I_ (fun _=>?_) (fun _=>?_)<;>try (exfalso;omega))
  | (refine N_ (fun _=>?_) (fun _=>?_))
  | (refine M_ Bz ?_)
  | (refine J_ (CG _ _ l _ nf) ?_;rintro _ w1 ⟨rfl,rfl⟩)
  | (refine J_ (acC _ _ _) ?_;rintro _ w1 ⟨rfl,rfl⟩)
  | (refine P_ _ (ar _) ?_)
  | simp -dsimp only[c7,cB,Nat.reduceAdd,Nat.reduceEqDiff,reduceIte,reduceCtorEq,df]
  | (intro aD aj;replace aj:=ai.trans aj))
 all_goals (refine⟨?_,Bz⟩;congr 1;unfold LU;simp only[o.narrow,decide_eq_false_iff_not])
 all_goals (repeat' split)
 all_goals first | rfl | (exfalso;omega)
theorem abM(v v2:B_)(l:C_ o.Var)(s:C_ o.Scalar)(fP:Int)(w:A_)(aC:o.h3 w v l)(ak:o.ih w v2 s) :
  DD F.KE #[v,v2,.I fP] w fun v w'=>v = .tuple #[.I (o.vars l s fP).1,.I (o.vars l s fP).2]/\Ext w w':=by
 obtain⟨aQ,cap,rfl,hlen⟩:=aC.form;refine br E.KE ?_;simp -dsimp only[c7,cB,Nat.reduceAdd,Nat.reduceEqDiff,reduceIte,reduceCtorEq,df];refine _A (fun S w' => ∃i:Nat,i<=l.length/\S 8 = .I i/\(∀j,j<i->o.err (max fP 0) (o.nameAt (·.name) l) (o.p7 l s) j=0)/\Ext w w')
  (fun S _=>(l.length - intOf (S 8)).toNat) ⟨0,AK,by simp -dsimp only[c7,cB,Nat.reduceAdd,Nat.reduceEqDiff,reduceIte,reduceCtorEq,df];rfl,fun _ h=>absurd h (K8 _),Ext.refl _⟩ ?_
 rintro S w' cc ⟨i,U,dS,dI,he⟩;have af:=cc 0 rfl;have h1:=cc 1 rfl;have I:=cc 2 rfl;simp only[bN,Nat.reduceAdd,Nat.reduceEqDiff,reduceIte,kh,nG] at af h1 I;clear cc;refine ck (i_ af (i_ h1 (i_ I dS))) ?_;apply I_<;>intro g1;rotate_left
 .refine ck (i_ af (i_ h1 (i_ I dS))) ?_;rw[o.vars,o.pO (fun j aF=>dI j AK)];exact⟨rfl,he⟩
 have cH:i<l.length:=AK
 obtain⟨a,rfl⟩:=aC.addr;have iK:=bn.ext o.qX.ext he aC;have tr:=(iK.at i cH).cells 0 _ rfl;have dh:o.jN l[i].name:=(iK.at i cH).ok;have gf:o.nameAt (fun x:o.Var=>x.name) l i=l[i].name:=sx _ _ _ cH;refine ck (i_ af (i_ h1 (i_ I dS))) ?_;apply I_<;>intro g2
 .refine ck (i_ af (i_ h1 (i_ I dS))) ?_;rw[o.vars,o.jH cH dI (by rw[zC AK];decide),zC AK];exact⟨rfl,he⟩
 have hm:¬(max fP 0:Int)<=(i:Int):=AK
 refine ck (i_ af (i_ h1 (i_ I dS))) ?_;refine K_ i rfl cH ?_;refine ck (i_ af (i_ h1 (i_ I dS))) ?_;refine M_ tr ?_;refine ck (i_ af (i_ h1 (i_ I dS))) ?_;refine J_ (CK _ _ dh) ?_;rintro _ aD ⟨rfl,aj⟩;refine ck (i_ af (i_ h1 (i_ I dS))) ?_;refine N_ (fun g3=>?_) (fun g3=>?_);rotate_left
 .refine ck (i_ af (i_ h1 (i_ I dS))) ?_;rw[<-gf] at g3;rw[o.vars,o.jH cH dI (by rw[BG hm g3];decide),BG hm g3];exact⟨rfl,he.trans aj⟩
 have rb:=g3;rw[<-gf] at rb;replace aj:=he.trans aj;clear he iK;refine ck (i_ af (i_ h1 (i_ I dS))) ?_;refine _A (fun a6 w' => ∃k:Nat,k<=i/\a6 9 = .I k/\(∀j,j<k->o.nameAt (fun x:o.Var=>x.name) l j≠o.nameAt (fun x:o.Var=>x.name) l i)/\Ext w w')
  (fun S _=>(i - intOf (S 9)).toNat) ⟨0,AK,by simp -dsimp only[c7,cB,Nat.reduceAdd,Nat.reduceEqDiff,reduceIte,reduceCtorEq,df];rfl,fun _ h=>absurd h (K8 _),aj⟩ ?_
 rintro k7 aN kS ⟨k,hk,jI,cz,ah⟩;have b6:=af;have bR:=h1;have bX:=I;have aaV:=dS;have af:=kS 0 rfl;have h1:=kS 1 rfl;have I:=kS 2 rfl;have dS:=kS 8 rfl;simp only[bN,Nat.reduceAdd,Nat.reduceEqDiff,reduceIte,kh,nG] at af h1 I dS;clear kS;rw[b6] at af;rw[bR] at h1;rw[bX] at I;rw[aaV] at dS;have iK:=bn.ext o.qX.ext ah aC;have tr:=(iK.at i cH).cells 0 _ rfl;refine ck (i_ af (i_ h1 (i_ I (i_ dS jI)))) ?_;apply I_<;>intro g4
 .have a1:k<l.length:=AK
  have l7:=(iK.at k a1).cells 0 _ rfl;have mF:o.nameAt (fun x:o.Var=>x.name) l k=l[k].name:=sx _ _ _ a1;refine ck (i_ af (i_ h1 (i_ I (i_ dS jI)))) ?_;refine K_ k rfl a1 ?_;refine ck (i_ af (i_ h1 (i_ I (i_ dS jI)))) ?_;refine M_ l7 ?_;refine ck (i_ af (i_ h1 (i_ I (i_ dS jI)))) ?_;refine K_ i rfl cH ?_;refine ck (i_ af (i_ h1 (i_ I (i_ dS jI)))) ?_;refine M_ tr ?_;refine ck (i_ af (i_ h1 (i_ I (i_ dS jI)))) ?_;intro aU ax;apply I_<;>intro g5
  .refine ck (i_ af (i_ h1 (i_ I (i_ dS jI)))) ?_;have aB:=NM (mo:=o.p7 l s) hm rb (show k<i by omega) (by rw[mF,gf];exact g5);rw[o.vars,o.jH cH dI (by rw[aB];decide),aB];exact⟨rfl,ah.trans ax⟩
  .refine ck (i_ af (i_ h1 (i_ I (i_ dS jI)))) ?_;refine Q_ AK ?_;refine ck (i_ af (i_ h1 (i_ I (i_ dS jI)))) ?_;refine⟨⟨k+1,AK,rfl,fun j aF=>?_,ah.trans ax⟩,by simp[intOf];omega⟩;by_cases hh:j<k
   .exact cz j hh
   .have:j=k:=AK
    subst this;rw[mF,gf];exact g5
 have hA:=NL (mo:=o.p7 l s) hm rb (fun j aF=>cz j AK);rw[arD l s i cH] at hA;have Ah:=bn.ext o.kd.ext ah ak;have kl:=(iK.at i cH).cells;generalize l[i]=x at kl hA;refine ck (i_ af (i_ h1 (i_ I (i_ dS jI)))) ?_;refine K_ i rfl cH ?_;refine ck (i_ af (i_ h1 (i_ I (i_ dS jI)))) ?_;refine Z_ kl rfl ?_;refine ck (i_ af (i_ h1 (i_ I (i_ dS jI)))) ?_;refine J_ (apE x _ s _ Ah) ?_;rintro _ aU ⟨rfl,ax⟩;replace ax:=ah.trans ax;refine ck (i_ af (i_ h1 (i_ I (i_ dS jI)))) ?_;apply I_<;>intro g6;rotate_left
 .refine ck (i_ af (i_ h1 (i_ I (i_ dS jI)))) ?_;rw[o.vars,o.jH cH dI (by rw[hA];exact g6),hA];exact⟨rfl,ax⟩
 .refine ck (i_ af (i_ h1 (i_ I (i_ dS jI)))) ?_;rw[g6] at hA;refine Q_ AK ?_;refine ck (i_ af (i_ h1 (i_ I (i_ dS jI)))) ?_;refine⟨⟨i+1,AK,rfl,fun j aF=>?_,ax⟩,by simp[intOf,aaV];omega⟩;by_cases hM:j<i
  .exact dI j hM
  .have:j=i:=AK
   subst this;exact hA
end Go.Proofs.R
end
section
namespace Go.Proofs.R
open Go Go.RowKit ba
theorem aps(v v2:B_)(l:C_ o.dB)(s:C_ o.Scalar)(w:A_)(aC:o.mT w v l)(ak:o.ih w v2 s) :
  DD F.KC #[v,v2] w fun v w'=>v = .tuple #[.I (o.aw l s).1,.I (o.aw l s).2]/\Ext w w':=by
 obtain⟨aQ,cap,rfl,hlen⟩:=aC.form;refine br E.KC ?_;refine aT ?_;refine _A (fun S w' => ∃i:Nat,i<=l.length/\S 6 = .I i/\(∀j,j<i->o.err 4 (o.nameAt (·.name) l) (o.pL l s) j=0)/\Ext w w')
  (fun S _=>(l.length - intOf (S 6)).toNat) ⟨0,AK,by refine aT ?_;rfl,fun _ h=>absurd h (K8 _),Ext.refl _⟩ ?_
 rintro S w' cc ⟨i,U,bE,dI,he⟩;have af:=cc 0 rfl;have h1:=cc 1 rfl;simp only[bN,Nat.reduceAdd,Nat.reduceEqDiff,reduceIte,kh,nG] at af h1;clear cc;have qA:=aaB AK dI;simp -dsimp only[c7,cB,Nat.reduceAdd,Nat.reduceEqDiff,reduceIte,reduceCtorEq,df,af,h1,bE];apply I_<;>intro g1;rotate_left
 .simp -dsimp only[c7,cB,Nat.reduceAdd,Nat.reduceEqDiff,reduceIte,reduceCtorEq,df,af,h1,bE];rw[o.aw,o.pO (fun j aF=>dI j AK)];exact⟨rfl,he⟩
 have cH:i<l.length:=AK
 obtain⟨a,rfl⟩:=aC.addr;have iK:=bn.ext o.qW.ext he aC;have tr:=(iK.at i cH).cells 0 _ rfl;have dh:o.jN l[i].name:=(iK.at i cH).ok;have gf:o.nameAt (fun x:o.dB=>x.name) l i=l[i].name:=sx _ _ _ cH;simp -dsimp only[c7,cB,Nat.reduceAdd,Nat.reduceEqDiff,reduceIte,reduceCtorEq,df,af,h1,bE];apply I_<;>intro g2
 .simp -dsimp only[c7,cB,Nat.reduceAdd,Nat.reduceEqDiff,reduceIte,reduceCtorEq,df,af,h1,bE];rw[o.aw,o.jH cH dI (by rw[zC AK];decide),zC AK];exact⟨rfl,he⟩
 have hm:¬(4:Int)<=(i:Int):=AK
 simp -dsimp only[c7,cB,Nat.reduceAdd,Nat.reduceEqDiff,reduceIte,reduceCtorEq,df,af,h1,bE];refine K_ i rfl cH ?_;simp -dsimp only[c7,cB,Nat.reduceAdd,Nat.reduceEqDiff,reduceIte,reduceCtorEq,df,af,h1,bE];refine M_ tr ?_;simp -dsimp only[c7,cB,Nat.reduceAdd,Nat.reduceEqDiff,reduceIte,reduceCtorEq,df,af,h1,bE];refine J_ (CK _ _ dh) ?_;rintro _ aD ⟨rfl,aj⟩;simp -dsimp only[c7,cB,Nat.reduceAdd,Nat.reduceEqDiff,reduceIte,reduceCtorEq,df,af,h1,bE];refine N_ (fun g3=>?_) (fun g3=>?_);rotate_left
 .simp -dsimp only[c7,cB,Nat.reduceAdd,Nat.reduceEqDiff,reduceIte,reduceCtorEq,df,af,h1,bE];rw[<-gf] at g3;rw[o.aw,o.jH cH dI (by rw[BG hm g3];decide),BG hm g3];exact⟨rfl,he.trans aj⟩
 have rb:=g3;rw[<-gf] at rb;replace aj:=he.trans aj;clear he iK;simp -dsimp only[c7,cB,Nat.reduceAdd,Nat.reduceEqDiff,reduceIte,reduceCtorEq,df,af,h1,bE];refine _A (fun a6 w' => ∃k:Nat,k<=i/\a6 7 = .I k/\(∀j,j<k->o.nameAt (fun x:o.dB=>x.name) l j≠o.nameAt (fun x:o.dB=>x.name) l i)/\Ext w w')
  (fun S _=>(i - intOf (S 7)).toNat) ⟨0,AK,by refine aT ?_;rfl,fun _ h=>absurd h (K8 _),aj⟩ ?_
 rintro k7 aN kS ⟨k,hk,cj,cz,ah⟩;have b6:=af;have bR:=h1;have QU:=bE;have af:=kS 0 rfl;have h1:=kS 1 rfl;have bE:=kS 6 rfl;simp only[bN,Nat.reduceAdd,Nat.reduceEqDiff,reduceIte,kh,nG] at af h1 bE;clear kS;rw[b6] at af;rw[bR] at h1;rw[QU] at bE;have iK:=bn.ext o.qW.ext ah aC;have tr:=(iK.at i cH).cells 0 _ rfl;simp -dsimp only[c7,cB,Nat.reduceAdd,Nat.reduceEqDiff,reduceIte,reduceCtorEq,df,af,h1,bE,cj];apply I_<;>intro g4
 .have a1:k<l.length:=AK
  have l7:=(iK.at k a1).cells 0 _ rfl;have mF:o.nameAt (fun x:o.dB=>x.name) l k=l[k].name:=sx _ _ _ a1;simp -dsimp only[c7,cB,Nat.reduceAdd,Nat.reduceEqDiff,reduceIte,reduceCtorEq,df,af,h1,bE,cj];refine K_ k rfl a1 ?_;simp -dsimp only[c7,cB,Nat.reduceAdd,Nat.reduceEqDiff,reduceIte,reduceCtorEq,df,af,h1,bE,cj];refine M_ l7 ?_;simp -dsimp only[c7,cB,Nat.reduceAdd,Nat.reduceEqDiff,reduceIte,reduceCtorEq,df,af,h1,bE,cj];refine K_ i rfl cH ?_;simp -dsimp only[c7,cB,Nat.reduceAdd,Nat.reduceEqDiff,reduceIte,reduceCtorEq,df,af,h1,bE,cj];refine M_ tr ?_;simp -dsimp only[c7,cB,Nat.reduceAdd,Nat.reduceEqDiff,reduceIte,reduceCtorEq,df,af,h1,bE,cj];intro aU ax;apply I_<;>intro g5
  .simp -dsimp only[c7,cB,Nat.reduceAdd,Nat.reduceEqDiff,reduceIte,reduceCtorEq,df,af,h1,bE,cj];have aB:=NM (mo:=o.pL l s) hm rb (show k<i by omega) (by rw[mF,gf];exact g5);rw[o.aw,o.jH cH dI (by rw[aB];decide),aB];exact⟨rfl,ah.trans ax⟩
  .simp -dsimp only[c7,cB,Nat.reduceAdd,Nat.reduceEqDiff,reduceIte,reduceCtorEq,df,af,h1,bE,cj];refine Q_ AK ?_;simp -dsimp only[c7,cB,Nat.reduceAdd,Nat.reduceEqDiff,reduceIte,reduceCtorEq,df,af,h1,bE,cj];refine⟨⟨k+1,AK,rfl,fun j aF=>?_,ah.trans ax⟩,by simp[intOf];omega⟩;by_cases hh:j<k
   .exact cz j hh
   .have:j=k:=AK
    subst this;rw[mF,gf];exact g5
 have hA:=NL (mo:=o.pL l s) hm rb (fun j aF=>cz j AK);have e0:o.pL l s i=if o.there l[i].scalar s=false then 8 else if l[i].cap<1\/l[i].cap > 4\/(l[i].scalar=0/\o.narrow l[i].aR l[i].U=false) then 10 else 0:=by simp[o.pL,cH]
 rw[e0] at hA;have Ah:=bn.ext o.kd.ext ah ak;have c1:=(iK.at i cH).cells 1 _ rfl;have c2:=(iK.at i cH).cells 2 _ rfl;have bu:=(iK.at i cH).cells 3 _ rfl;have bC:=(iK.at i cH).cells 4 _ rfl;simp only[o.there,o.narrow,decide_eq_false_iff_not] at hA;generalize l[i].scalar=xs at c1 hA;generalize l[i].cap=avw at c2 hA;generalize l[i].aR=Sj at bu hA;generalize l[i].U=Si at bC hA;clear e0;have ar:∀w',Ext aN w'->DD F.FP #[.I Sj,.I Si] w' fun u bO=>u = .bool (o.narrow Sj Si)/\Ext w' bO:=fun w' he =>
  (acC Sj Si w').mono fun v bO h=>⟨h.1,h.2 ▸ Ext.refl _⟩
 simp -dsimp only[c7,cB,Nat.reduceAdd,Nat.reduceEqDiff,reduceIte,reduceCtorEq,df,af,h1,bE,cj]
 (repeat' first
  | (refine I_ (fun _=>?_) (fun _=>?_)<;>try (exfalso;omega))
  | (refine N_ (fun _=>?_) (fun _=>?_))
  | (refine K_ i rfl cH ?_)
  | (refine M_ Bz ?_)
  | (refine J_ (CG _ _ s _ Ah) ?_;rintro _ aN ⟨rfl,rfl⟩)
  | (refine P_ _ ar ?_)
  | simp -dsimp only[c7,cB,Nat.reduceAdd,Nat.reduceEqDiff,reduceIte,reduceCtorEq,df,af,h1,bE,cj]
  | (intro aU ax;replace ax:=ah.trans ax))
 all_goals first
  | (rw[if_pos AK] at hA
     rw[o.aw,o.jH cH dI (by rw[hA];decide),hA];exact⟨rfl,Bz⟩)
  | (rw[if_neg AK,if_pos AK] at hA
     rw[o.aw,o.jH cH dI (by rw[hA];decide),hA];exact⟨rfl,Bz⟩)
  | (rw[if_neg AK,if_neg AK] at hA
     refine Q_ AK ?_;simp -dsimp only[c7,cB,Nat.reduceAdd,Nat.reduceEqDiff,reduceIte,reduceCtorEq,df,af,h1,bE,cj];refine⟨⟨i+1,AK,rfl,fun j aF=>?_,Bz⟩,by simp[intOf,QU];omega⟩;by_cases hM:j<i
     .exact dI j hM
     .have:j=i:=AK
      subst this;exact hA)
end Go.Proofs.R
end
section
namespace o
theorem aec(m:Model)(i:Nat):vI m 2 i=sw m i:=by
 have bB:cS 1 2 i m.vars.length=min m.vars.length i:=by unfold cS;rw[if_pos BN,if_neg BN];simp
 have aJ:cS 2 2 i m.aw.length=0:=by unfold cS;rw[if_neg BN]
 have a7:cS 3 2 i m.procs.length=0:=by unfold cS;rw[if_neg BN]
 have bD:ie 2 i m.props.length=0:=by unfold ie;rw[if_neg BN]
 unfold vI;rw[bB,aJ,a7,bD];simp only[sw,Ga,AB,List.take_zero,List.map_nil,List.append_nil];rw[AJ8,<-AI8];simp only[List.take_length]
theorem aea(m:Model)(i:Nat):vI m 3 i=nU m i:=by
 have bB:cS 1 3 i m.vars.length=m.vars.length:=by unfold cS;rw[if_pos BN,if_pos BN]
 have aJ:cS 2 3 i m.aw.length=min m.aw.length i:=by unfold cS;rw[if_pos BN,if_neg BN];simp
 have a7:cS 3 3 i m.procs.length=0:=by unfold cS;rw[if_neg BN]
 have bD:ie 3 i m.props.length=0:=by unfold ie;rw[if_neg BN]
 unfold vI;rw[bB,aJ,a7,bD];simp only[nU,sw,Ga,AB,AA,List.take_zero,List.map_nil,List.append_nil];rw[AJ8,<-AI8];simp only[List.take_length]
theorem aeb(m:Model)(i:Nat):vI m 4 i=jz m i:=by
 have bB:cS 1 4 i m.vars.length=m.vars.length:=by unfold cS;rw[if_pos BN,if_pos BN]
 have aJ:cS 2 4 i m.aw.length=m.aw.length:=by unfold cS;rw[if_pos BN,if_pos BN]
 have a7:cS 3 4 i m.procs.length=min m.procs.length i:=by unfold cS;rw[if_pos BN,if_neg BN];simp
 have bD:ie 4 i m.props.length=0:=by unfold ie;rw[if_neg BN]
 unfold vI;rw[bB,aJ,a7,bD];simp only[jz,nU,sw,Ga,AB,AA,yE,List.take_zero,List.map_nil,List.append_nil];rw[AJ8,<-AI8];simp only[List.take_length]
theorem Vo(m:Model)(i:Nat):vI m 5 i=sv m i:=by
 have bB:cS 1 5 i m.vars.length=m.vars.length:=by unfold cS;rw[if_pos BN,if_pos BN]
 have aJ:cS 2 5 i m.aw.length=m.aw.length:=by unfold cS;rw[if_pos BN,if_pos BN]
 have a7:cS 3 5 i m.procs.length=m.procs.length:=by unfold cS;rw[if_pos BN,if_pos BN]
 have bD:ie 5 i m.props.length=min m.props.length i:=by unfold ie;rw[if_pos BN];simp
 unfold vI;rw[bB,aJ,a7,bD];simp only[sv,jz,nU,sw,Ga,AB,AA,yE,QJ];rw[AJ8,<-AI8];simp only[List.take_length]
theorem xq(q p i:Int)(len:Nat):cS q p i len<=len:=by unfold cS; (repeat' split)<;>omega
end o
namespace Go.Proofs.R
open Go Go.RowKit ba
def BL(f:o.sL):B_:=.agg #[.int .i64 f.cN,.int .i64 f.part,.int .i64 f.item,.int .i64 f.sub]
theorem apu(cs:C_ B_)(m:o.Model)(w:A_)(h:o.eh w cs m) :
  DD F.KQ #[.agg cs.toArray] w fun v w'=>v=BL (o.data m)/\Ext w w':=by
 have aW:=h;obtain⟨b6,bx,bR,c1,bX,c2,bZ,bu,ca,bC,rfl,af,h1,I,ab,aH,e2,eE,eJ,er,eH⟩:=h.form;refine br E.KQ ?_;refine aa ?_;intro w1 bw cM ai al;refine aa ?_;intro aD bS dm aj av;replace al:=aj.obj al;have aJ:=ai.trans aj;have gz:=cA al;have z2:=ai.size;refine aa ?_;refine J_ (apC _ m.scalars aD (af.ext aJ)) ?_;rintro _ aN ⟨rfl,ah⟩;replace al:=ah.obj al;replace av:=ah.obj av;have a7:=aJ.trans ah;clear aJ;refine aa ?_;apply I_<;>intro g1;rotate_left
 .have bb:=o.Wh g1;refine aa ?_;intro aU dE bp;refine aa ?_;exact⟨by rw[bb];rfl,dE.ext a7 AK⟩
 have cc:(o.scalars m.scalars).2=0:=by simpa using g1
 have kS:=o.ack cc;have yg:=al;have zS:=av;refine aa ?_;refine L_ 5 m.vars.length [1,2] (fun _:Unit=>[]) () (fun k _ w'=>Ext aN w'/\∀j,j<k->o.jW m j=0) bc bc ⟨Ext.refl _,fun j h=>absurd h (K8 _)⟩ ?_;clear al av;rintro k _ S aU hk ⟨ax,bI⟩;have al:=ax.obj yg;have av:=ax.obj zS;have bD:=a7.trans ax;refine aa ?_;apply I_<;>intro g2
 .have a1:k<m.vars.length:=AK
  have iu:=(bn.len h1).2;have OH:=iu.2;unfold maxLen at OH;obtain⟨a,rfl⟩:=h1.addr;have gf:=o.Cy (f:=fun x:o.Var=>x.name) a1;have ej:=((h1.at k a1).cells).ext bD;have P3:∀j,j<k->o.oN m j=0:=fun j aF=>o.L1 (bI j aF);refine aa ?_;refine _N (k:=.i64) (k+1) (by simp[de,bN]) AK ?_;refine aa ?_;refine P_ (.tuple #[.I (o.vars (m.vars.take (k+1)) m.scalars 12).1,.I (o.vars (m.vars.take (k+1)) m.scalars 12).2]) (fun w' e=>abM _ _ (m.vars.take (k+1)) m.scalars 12 w' ((h1.head (k+1) AK).ext o.qX.ext (bD.trans e)) (af.ext (bD.trans e))) ?_;refine aa ?_;intro bt aI;replace al:=aI.obj al;replace av:=aI.obj av;replace ej:=ej.ext aI;have bJ:=bD.trans aI;rw[o.arI a1 P3];refine aa ?_;apply I_<;>intro g3;rotate_left
  .have lu:o.jW m k=o.oN m k:=by unfold o.jW;rw[if_pos g3]
   have bb:=o.H2 cc a1 bI (by rw[lu];exact g3);rw[lu] at bb;refine aa ?_;intro bz gV cb;refine aa ?_;exact⟨by rw[bb];rfl,gV.ext bJ AK⟩
  have jb:o.oN m k=0:=by simpa using g3
  have atN:k<12:=by
   apply Classical.byContradiction;intro az;have h:=jb;unfold o.oN o.err at h;rw[if_pos AK] at h;cases h
  refine aa ?_;intro bz aM;replace al:=aM.obj al;replace av:=aM.obj av;refine aa ?_;refine J_ (DA _ m 2 k bz (aW.ext (bJ.trans aM)) AK AK (by
   have cZ:o.cS 1 2 k m.vars.length<=k:=by unfold o.cS; (repeat' split)<;>omega
   have dt:o.cS 2 2 k m.aw.length=0:=by unfold o.cS;rw[if_neg BN]
   have ef:o.cS 3 2 k m.procs.length=0:=by unfold o.cS;rw[if_neg BN]
   have gP:o.ie 2 k m.props.length=0:=by unfold o.ie;rw[if_neg BN]
   omega)) ?_
  rintro _ bK ⟨⟨v,rfl,fO⟩,bq⟩;refine⟨bq,?_⟩;rw[o.aec] at fO;refine aa ?_;refine J_ (EA v _ m.vars[k].name _ bK fO) ?_;rintro _ oO ⟨rfl,rfl⟩;replace al:=bq.obj al;replace av:=bq.obj av;have Yu:=aM.trans bq;have dz:=bJ.trans Yu;refine aa ?_;apply I_<;>intro g4
  .have lu:o.jW m k=7:=by unfold o.jW;rw[if_neg (by simpa using jb),gf,if_pos g4]
   have bb:=o.H2 cc a1 bI (by rw[lu];decide);rw[lu] at bb;refine aa ?_;intro c4 jc cG;refine aa ?_;exact⟨by rw[bb];rfl,jc.ext dz AK⟩
  .refine aa ?_;refine⟨a1,aL,(),trivial,(ax.trans aI).trans Yu,fun j aF=>?_⟩;by_cases hh:j=k
   .subst hh;unfold o.jW;rw[if_neg (by simpa using jb),gf,if_neg g4]
   .exact bI j AK
 have nb:∀j,j<m.vars.length->o.jW m j=0:=fun j aF=>bI j AK;have as9:m.vars.length<=12:=by
  apply Classical.byContradiction;intro az
  have:=o.WJ (nb 12 AK)
  omega
 clear al av;refine aa ?_;refine L_ 8 m.aw.length [1,2] (fun _:Unit=>[]) () (fun k _ w'=>Ext aN w'/\∀j,j<k->o.kQ m j=0) bc bc ⟨ax,fun j h=>absurd h (K8 _)⟩ ?_;clear bD;rintro k _ a6 bt hk ⟨aI,bI⟩;have al:=aI.obj yg;have av:=aI.obj zS;have bD:=a7.trans aI;refine aa ?_;apply I_<;>intro g2
 .have a1:k<m.aw.length:=AK
  have iu:=(bn.len I).2;have OH:=iu.2;unfold maxLen at OH;obtain⟨a,rfl⟩:=I.addr;have gf:=o.Cy (f:=fun x:o.dB=>x.name) a1;have ej:=((I.at k a1).cells).ext bD;have P3:∀j,j<k->o.oq m j=0:=fun j aF=>o.HR (bI j aF);refine aa ?_;refine _N (k:=.i64) (k+1) (by simp[de,bN]) AK ?_;refine aa ?_;refine P_ (.tuple #[.I (o.aw (m.aw.take (k+1)) m.scalars).1,.I (o.aw (m.aw.take (k+1)) m.scalars).2]) (fun w' e=>aps _ _ (m.aw.take (k+1)) m.scalars w' ((I.head (k+1) AK).ext o.qW.ext (bD.trans e)) (af.ext (bD.trans e))) ?_;refine aa ?_;intro bz aM;replace al:=aM.obj al;replace av:=aM.obj av;replace ej:=ej.ext aM;have bJ:=bD.trans aM;rw[o.afz a1 P3];refine aa ?_;apply I_<;>intro g3;rotate_left
  .have lu:o.kQ m k=o.oq m k:=by unfold o.kQ;rw[if_pos g3]
   have bb:=o.HZ cc nb a1 bI (by rw[lu];exact g3);rw[lu] at bb;refine aa ?_;intro bz gV cb;refine aa ?_;exact⟨by rw[bb];rfl,gV.ext bJ AK⟩
  have jb:o.oq m k=0:=by simpa using g3
  have atO:k<4:=by
   apply Classical.byContradiction;intro az;have h:=jb;unfold o.oq o.err at h;rw[if_pos AK] at h;cases h
  refine aa ?_;intro bK bq;replace al:=bq.obj al;replace av:=bq.obj av;refine aa ?_;refine J_ (DA _ m 3 k bK (aW.ext (bJ.trans bq)) AK AK (by
   have cZ:=o.xq 1 3 k m.vars.length;have dt:o.cS 2 3 k m.aw.length<=k:=by unfold o.cS; (repeat' split)<;>omega
   have ef:o.cS 3 3 k m.procs.length=0:=by unfold o.cS;rw[if_neg BN]
   have gP:o.ie 3 k m.props.length=0:=by unfold o.ie;rw[if_neg BN]
   omega)) ?_
  rintro _ c4 ⟨⟨v,rfl,fO⟩,bG⟩;refine⟨bG,?_⟩;rw[o.aea] at fO;refine aa ?_;refine J_ (EA v _ m.aw[k].name _ c4 fO) ?_;rintro _ oO ⟨rfl,rfl⟩;replace al:=bG.obj al;replace av:=bG.obj av;have wC:=bq.trans bG;have dz:=bJ.trans wC;refine aa ?_;apply I_<;>intro g4
  .have lu:o.kQ m k=7:=by unfold o.kQ;rw[if_neg (by simpa using jb),gf,if_pos g4]
   have bb:=o.HZ cc nb a1 bI (by rw[lu];decide);rw[lu] at bb;refine aa ?_;intro c4 jc cG;refine aa ?_;exact⟨by rw[bb];rfl,jc.ext dz AK⟩
  .refine aa ?_;refine⟨a1,aL,(),trivial,(aI.trans aM).trans wC,fun j aF=>?_⟩;by_cases hh:j=k
   .subst hh;unfold o.kQ;rw[if_neg (by simpa using jb),gf,if_neg g4]
   .exact bI j AK
 have bb:=o.Wf cc nb fun j aF=>bI j AK;refine aa ?_;intro bz gV cb;refine aa ?_;exact⟨by rw[bb];rfl,gV.ext bD AK⟩
end Go.Proofs.R
end
section
namespace o
structure vy(m:Model):Prop where
 v:m.vars.length<=1000000
 c:m.aw.length<=1000000
 p:m.procs.length<=1000000
 i:∀p∈m.procs,p.vars.length<=1000000/\p.cQ.length<=1000000
def c1(m:Model)(k:Nat):Int:=jh ((m.vars.take k).map fun v=>cells v m.scalars)
def c2(m:Model)(k:Nat):Int:=jh ((m.aw.take k).map q4)
def i1(m:Model)(k:Nat):Int:=jh ((m.procs.take k).map (lA m))
def i2(m:Model)(k:Nat):Int:=jh ((m.procs.take k).map fun p=>lA m p*p.cQ.length)
def i3(m:Model)(k:Nat):Int:=jh ((m.procs.take k).map fun p=>lA m p*(1+p.vars.length))
theorem aaF{α:Type}{l:C_ α}{k:Nat}{x:α}(h:x∈l.take k):x∈l:=AJ9 h
theorem Bx{m:Model}(h:vy m)(k:Nat):0<=c1 m k/\c1 m k<=4000000:=by
 have:=GH (fun v=>cells v m.scalars) 4 BN (m.vars.take k) fun v _=>r7 v _
 have h1:=h.v;have I:(m.vars.take k).length<=m.vars.length:=by simp;omega
 unfold c1;omega
theorem HN{m:Model}(h:vy m)(k:Nat):0<=c2 m k/\c2 m k<=5000000:=by
 have:=GH q4 5 BN (m.aw.take k) fun c _=>by have:=M8 c;omega
 have h1:=h.c;have I:(m.aw.take k).length<=m.aw.length:=by simp;omega
 unfold c2;omega
theorem Zx{m:Model}(h:vy m)(k:Nat):0<=i1 m k/\i1 m k<=4000000:=by
 have:=GH (lA m) 4 BN (m.procs.take k) fun p _=>Gg m p
 have h1:=h.p;have I:(m.procs.take k).length<=m.procs.length:=by simp;omega
 unfold i1;omega
theorem Cx{a b:Int}(aV:0<=a/\a<=4)(ao:0<=b/\b<=1000001):0<=a*b/\a*b<=4000004:=by
 have:a=0\/a=1\/a=2\/a=3\/a=4:=AK
 rcases this with rfl | rfl | rfl | rfl | rfl<;>omega
theorem Zz{m:Model}(h:vy m)(k:Nat):0<=i2 m k/\i2 m k<=4000004000000:=by
 have:=GH (fun p=>lA m p*p.cQ.length) 4000004 BN (m.procs.take k) fun p au=>Cx (Gg m p) (by have:=(h.i p (aaF au)).2;omega)
 have h1:=h.p;have I:(m.procs.take k).length<=m.procs.length:=by simp;omega
 unfold i2;omega
theorem ZB{m:Model}(h:vy m)(k:Nat):0<=i3 m k/\i3 m k<=4000004000000:=by
 have:=GH (fun p=>lA m p*(1+p.vars.length)) 4000004 BN (m.procs.take k) fun p au=>Cx (Gg m p) (by have:=(h.i p (aaF au)).1;omega)
 have h1:=h.p;have I:(m.procs.take k).length<=m.procs.length:=by simp;omega
 unfold i3;omega
theorem VK{m:Model}{k:Nat}(h:k<m.vars.length):c1 m (k+1)=c1 m k+cells m.vars[k] m.scalars:=GI _ _ h
theorem VL{m:Model}{k:Nat}(h:k<m.aw.length):c2 m (k+1)=c2 m k+q4 m.aw[k]:=GI _ _ h
theorem Zy{m:Model}{k:Nat}(h:k<m.procs.length):i1 m (k+1)=i1 m k+lA m m.procs[k]:=GI _ _ h
theorem ZA{m:Model}{k:Nat}(h:k<m.procs.length):i2 m (k+1)=i2 m k+lA m m.procs[k]*m.procs[k].cQ.length:=GI _ _ h
theorem ZC{m:Model}{k:Nat}(h:k<m.procs.length):i3 m (k+1)=i3 m k+lA m m.procs[k]*(1+m.procs[k].vars.length):=GI _ _ h
theorem abc(m:Model){a b c:Nat}(aV:m.vars.length<=a)(ao:m.aw.length<=b)(an:m.procs.length<=c):pieces m=(i1 m c,i2 m c,c1 m a+c2 m b+i3 m c):=by
 unfold pieces i1 i2 i3 c1 c2;rw[LJ aV,LJ ao,LJ an]
end o
namespace Go.Proofs.R
open Go Go.RowKit ba
theorem aov(cs:C_ B_)(m:o.Model)(w:A_)(h:o.eh w cs m)(ay:o.vy m) :
  DD F.H8 #[.agg cs.toArray] w fun v w'=>v = .tuple #[.I (o.pieces m).1,.I (o.pieces m).2.1,.I (o.pieces m).2.2]/\Ext w w':=by
 obtain⟨b6,bx,bR,c1,bX,c2,bZ,bu,ca,bC,rfl,af,h1,I,ab,aH,e2,eE,eJ,er,eH⟩:=h.form;refine br E.H8 ?_;refine aa ?_;intro w1 bw cM ai al;have uN:=al;clear al;refine aa ?_;refine L_ 18 m.vars.length [1,5,6,16,17] (fun s:Int=>[(7,.I s)]) 0 (fun k s w'=>Ext w1 w'/\s=o.c1 m k) bc bc ⟨Ext.refl _,by simp[o.c1,o.jh]⟩ ?_;rintro k _ S aD hk ⟨aj,rfl⟩;have al:=aj.obj uN;have da:∀{w'},Ext aD w'->Ext w w':=fun e=>(ai.trans aj).trans e;refine aa ?_;apply I_<;>intro g1
 .have a1:k<m.vars.length:=AK
  obtain⟨a,rfl⟩:=h1.addr;have ej:=((h1.at k a1).cells).ext (da (Ext.refl _));refine aa ?_;intro aN bW fe ah bl;replace al:=ah.obj al;refine aa ?_;refine J_ (BC m.vars[k] _ m.scalars aN (af.ext (da ah))) ?_;rintro _ aU ⟨rfl,ax⟩;have cZ:=o.Bx ay k;have dt:=o.r7 m.vars[k] m.scalars;refine aa ?_;exact⟨a1,aL,_,bc,(aj.trans ah).trans ax,(o.VK a1).symm⟩
 have l8:m.vars.length<=k:=AK
 refine aa ?_;refine L_ 32 m.aw.length [1,5,6,30,31] (fun s:Int=>[(7,.I s)]) (o.c1 m k) (fun j s w'=>Ext w1 w'/\s=o.c1 m k+o.c2 m j) bc bc ⟨aj,by simp[o.c2,o.jh]⟩ ?_;clear al da;rintro j _ a6 aN aF ⟨ah,rfl⟩;have al:=ah.obj uN;have fJ:∀{w'},Ext aN w'->Ext w w':=fun e=>(ai.trans ah).trans e;refine aa ?_;apply I_<;>intro g2
 .have ek:j<m.aw.length:=AK
  obtain⟨a,rfl⟩:=I.addr;have ej:=((I.at j ek).cells).ext (fJ (Ext.refl _));refine aa ?_;intro aU bW fe ax bl;have cZ:=o.Bx ay k;have dt:=o.HN ay j;have ef:=o.M8 m.aw[j];unfold o.q4 at ef;refine aa ?_;exact⟨ek,aL,_,bc,ah.trans ax,by rw[o.VL ek];unfold o.q4;omega⟩
 have Pg:m.aw.length<=j:=AK
 refine aa ?_;refine L_ 47 m.procs.length [1,45,46] (fun s:Int×Int×Int=>[(5,.I s.1),(6,.I s.2.1),(7,.I s.2.2)]) (0,0,o.c1 m k+o.c2 m j)
  (fun i s w'=>Ext w1 w'/\s=(o.i1 m i,o.i2 m i,o.c1 m k+o.c2 m j+o.i3 m i)) bc bc ⟨ah,by simp[o.i1,o.i2,o.i3,o.jh]⟩ ?_
 clear al fJ;rintro i _ fT aU U ⟨ax,rfl⟩;have al:=ax.obj uN;have eo:∀{w'},Ext aU w'->Ext w w':=fun e=>(ai.trans ax).trans e;refine aa ?_;apply I_<;>intro g3
 .have cH:i<m.procs.length:=AK
  obtain⟨a,rfl⟩:=ab.addr;obtain⟨_,b2,dV,au,e7,dP⟩:=ab.at i cH;obtain⟨eF,fB,rfl,fm⟩:=e7.form;obtain⟨oJ,lb,rfl,lc⟩:=dP.form;replace au:=au.ext (eo (Ext.refl _));have O4:=ay.i _ (GR cH);refine aa ?_;intro bt bW fe aI bl;replace al:=aI.obj al;refine aa ?_;refine J_ (BC ⟨⟨#[]⟩,0,m.procs[i].over,0,0,0⟩ _ m.scalars bt (af.ext (eo aI))) ?_;rintro _ bz ⟨rfl,aM⟩;have akN:o.cells ⟨⟨#[]⟩,0,m.procs[i].over,0,0,0⟩ m.scalars=o.lA m m.procs[i]:=rfl;rw[akN];replace bl:=aM.obj bl;have cZ:=o.Bx ay k;have dt:=o.HN ay j;have ef:=o.Zx ay i;have gP:=o.Zz ay i;have rJ:=o.ZB ay i;have tW:=o.Gg m m.procs[i];have Rc:=o.Cx tW (b:=m.procs[i].cQ.length) AK;have CF:=o.Cx tW (b:=1+m.procs[i].vars.length) AK;refine aa ?_;exact⟨cH,aL,(_,_,_),(by first | exact⟨rfl,rfl,rfl,trivial⟩ | exact⟨rfl,rfl,trivial⟩ | (simp -dsimp only[c7,xm,xl,wZ,wY,wq,wo,Nat.reduceAdd,Nat.reduceEqDiff,reduceIte,and_self];exact⟨rfl,rfl,rfl,trivial⟩) | (simp -dsimp only[c7,xm,xl,wZ,wY,wq,wo,Nat.reduceAdd,Nat.reduceEqDiff,reduceIte,and_self];exact⟨rfl,rfl,trivial⟩)),(ax.trans aI).trans aM,by rw[o.Zy cH,o.ZA cH,o.ZC cH];exact Prod.ext rfl (Prod.ext rfl (Int.add_assoc _ _ _))⟩
 have oB:m.procs.length<=i:=AK
 refine aa ?_;exact⟨by rw[o.abc m l8 Pg oB],eo (Ext.refl _)⟩
theorem alP(cs:C_ B_)(m:o.Model)(p:o.dJ)(b2 dV:B_)(w:A_)(h:o.eh w cs m) :
  DD F.KO #[.agg cs.toArray,.agg (p.enc b2 dV).toArray] w fun v w'=>v = .I (o.lA m p)/\Ext w w':=by
 obtain⟨b6,bx,bR,c1,bX,c2,bZ,bu,ca,bC,rfl,af,_⟩:=h.form;refine br E.KO ?_;refine aa ?_;intro w1 bw cM ai al;refine aa ?_;intro aD bS dm aj av;refine aa ?_;refine I_ (fun g=>?_) (fun g=>?_)
 .refine aa ?_;exact⟨by rw[o.lA,if_pos g],ai.trans aj⟩
 refine aa ?_;refine J_ (CG p.over _ m.scalars aD (af.ext (ai.trans aj))) ?_;rintro _ _ ⟨rfl,rfl⟩;refine aa ?_;exact⟨by rw[o.lA,if_neg g],ai.trans aj⟩
theorem apy(cs:C_ B_)(m:o.Model)(w:A_)(h:o.eh w cs m)(ay:o.vy m) :
  DD F.KP #[.agg cs.toArray] w fun v w'=>v = .tuple #[.I (o.pieces m).1,.I (o.pieces m).2.1,.I (o.pieces m).2.2]/\Ext w w':=by
 have aW:=h;obtain⟨b6,bx,bR,c1,bX,c2,bZ,bu,ca,bC,rfl,af,h1,I,ab,aH,e2,eE,eJ,er,eH⟩:=h.form;refine br E.KP ?_;refine aa ?_;intro w1 bw cM ai al;have uN:=al;clear al;refine aa ?_;refine L_ 8 m.vars.length [1,5,6] (fun s:Int=>[(7,.I s)]) 0 (fun k s w'=>Ext w1 w'/\s=o.c1 m k) bc bc ⟨Ext.refl _,by simp[o.c1,o.jh]⟩ ?_;rintro k _ S aD hk ⟨aj,rfl⟩;have al:=aj.obj uN;have da:∀{w'},Ext aD w'->Ext w w':=fun e=>(ai.trans aj).trans e;refine aa ?_;apply I_<;>intro g1
 .have a1:k<m.vars.length:=AK
  obtain⟨a,rfl⟩:=h1.addr;have ej:=((h1.at k a1).cells).ext (da (Ext.refl _));have cZ:=o.Bx ay k;have dt:=o.r7 m.vars[k] m.scalars;refine aa ?_;refine P_ (.I (o.cells m.vars[k] m.scalars)) (fun w' e=>Rr m.vars[k] _ m.scalars w' (af.ext (da e))) ?_;refine aa ?_;intro aU ax;refine aa ?_;exact⟨a1,aL,_,bc,aj.trans ax,(o.VK a1).symm⟩
 have l8:m.vars.length<=k:=AK
 refine aa ?_;refine L_ 9 m.aw.length [1,5,6] (fun s:Int=>[(7,.I s)]) (o.c1 m k) (fun j s w'=>Ext w1 w'/\s=o.c1 m k+o.c2 m j) bc bc ⟨aj,by simp[o.c2,o.jh]⟩ ?_;clear al da;rintro j _ a6 aN aF ⟨ah,rfl⟩;have al:=ah.obj uN;have fJ:∀{w'},Ext aN w'->Ext w w':=fun e=>(ai.trans ah).trans e;refine aa ?_;apply I_<;>intro g2
 .have ek:j<m.aw.length:=AK
  obtain⟨a,rfl⟩:=I.addr;have ej:=((I.at j ek).cells).ext (fJ (Ext.refl _));have cZ:=o.Bx ay k;have dt:=o.HN ay j;have ef:=o.M8 m.aw[j];unfold o.q4 at ef;refine aa ?_;exact⟨ek,aL,_,bc,ah,by rw[o.VL ek];unfold o.q4;omega⟩
 have Pg:m.aw.length<=j:=AK
 refine aa ?_;refine L_ 10 m.procs.length [1] (fun s:Int×Int×Int=>[(5,.I s.1),(6,.I s.2.1),(7,.I s.2.2)]) (0,0,o.c1 m k+o.c2 m j)
  (fun i s w'=>Ext w1 w'/\s=(o.i1 m i,o.i2 m i,o.c1 m k+o.c2 m j+o.i3 m i)) bc bc ⟨ah,by simp[o.i1,o.i2,o.i3,o.jh]⟩ ?_
 clear al fJ;rintro i _ fT aU U ⟨ax,rfl⟩;have al:=ax.obj uN;have eo:∀{w'},Ext aU w'->Ext w w':=fun e=>(ai.trans ax).trans e;refine aa ?_;apply I_<;>intro g3
 .have cH:i<m.procs.length:=AK
  obtain⟨a,rfl⟩:=ab.addr;obtain⟨_,b2,dV,au,e7,dP⟩:=ab.at i cH;obtain⟨eF,fB,rfl,fm⟩:=e7.form;obtain⟨oJ,lb,rfl,lc⟩:=dP.form;replace au:=au.ext (eo (Ext.refl _));have O4:=ay.i _ (GR cH);refine aa ?_;refine P_ (.I (o.lA m m.procs[i])) (fun w' e=>alP _ m m.procs[i] _ _ w' (aW.ext (eo e))) ?_;refine aa ?_;intro bz aM;replace al:=aM.obj al;replace au:=au.ext aM;have cZ:=o.Bx ay k;have dt:=o.HN ay j;have ef:=o.Zx ay i;have gP:=o.Zz ay i;have rJ:=o.ZB ay i;have tW:=o.Gg m m.procs[i];have Rc:=o.Cx tW (b:=m.procs[i].cQ.length) AK;have CF:=o.Cx tW (b:=1+m.procs[i].vars.length) AK;refine aa ?_;exact⟨cH,aL,(_,_,_),(by first | exact⟨rfl,rfl,rfl,trivial⟩ | exact⟨rfl,rfl,trivial⟩ | (simp -dsimp only[c7,xm,xl,wZ,wY,wq,wo,Nat.reduceAdd,Nat.reduceEqDiff,reduceIte,and_self];exact⟨rfl,rfl,rfl,trivial⟩) | (simp -dsimp only[c7,xm,xl,wZ,wY,wq,wo,Nat.reduceAdd,Nat.reduceEqDiff,reduceIte,and_self];exact⟨rfl,rfl,trivial⟩)),ax.trans aM,by rw[o.Zy cH,o.ZA cH,o.ZC cH];exact Prod.ext rfl (Prod.ext rfl (Int.add_assoc _ _ _))⟩
 have oB:m.procs.length<=i:=AK
 refine aa ?_;exact⟨by rw[o.abc m l8 Pg oB],eo (Ext.refl _)⟩
end Go.Proofs.R
end
section
namespace o
structure asl(m:Model):Prop where
 s:m.scalars.length<=10
 v:m.vars.length<=30
 c:m.aw.length<=20
 p:m.procs.length<=20
 q:m.props.length<=20
 i:∀p∈m.procs,p.vars.length<=20/\p.cQ.length<=30/\∀c∈p.cQ,c.bQ.length<=20/\c.guard.length<=60
end o
end
section
namespace ba
open Go Go.RowKit
inductive sO where
 | tY (g:Operand) (p:Nat) (a b:eN)
 | ub (x:sO) (y:eN)
 | jg (x:eN) (y:sO)
 | cx (id:Nat) (x:sO)
def nE(P:D_)(n:Nat):Code->H_ sO
 | .rangeFunc g dd a b=>match dd.toList,comp P n a,comp P n b with
  | [p],some hT,some hU=>if p<n then some (.tY g p hT hU) else none
  | _,_,_=>none
 | .seq x y=>match comp P n x with
  | some w8=>(nE P n y).map (.jg w8)
  | none=>match nE P n x,comp P n y with
   | some rx,some w9=>some (.ub rx w9)
   | _,_=>none
 | .block id x=>(nE P n x).map (.cx id)
 | _=>none
structure zc where
 n:Nat
 res:List mX
 code:sO
def zu(P:D_)(f:E_):H_ zc :=
 match P.funcs[f]? with
 | some fn=>match fn.body with
  | some c=>match nE P fn.ntmps c,x1 P fn.results.toList with
   | some lc,some r=>some ⟨fn.ntmps,r,lc⟩
   | _,_=>none
  | none=>none
 | none=>none
structure Dj(iG:World->World->Prop)(B:Nat):Prop where
 trans:∀{a b c:World},iG a b->iG b c->iG a c
 put:∀(W:World) (l:Nat) (ae o':Obj),B<=l->W.heap[l]? = some ae->ae.isCells=false->iG W (W.putObj l o')
def mV(hV:Nat)(cD:C_ F_)(W b8:A_):Prop:=Below hV W b8/\∀(k:Nat) (c:Array B_) (t:F_) (f:Nat×Nat),W.heap[k]? = some (.cells c t f)->t∈cD->b8.heap[k]? = W.heap[k]?
theorem mV.ok{hV B:Nat}(cD:C_ F_)(h:hV<=B):Dj (mV hV cD) B where
 trans h k:=⟨h.1.trans k.1,fun i c t f U aB=>by rw[<-h.2 i c t f U aB];exact k.2 i c t f ((h.2 i c t f U aB).trans U) aB⟩
 put W l ae o' aC aO an:=⟨(Below.refl hV W).grown (grownBy_putObj' W l o') (by have:=(Array.getElem?_eq_some_iff.1 aO).1;omega) (fun k e=>by cases e;omega),fun k c t f hk _=>by
  have cz:l≠k:=fun e=>by subst e;rw[aO] at hk;injection hk with hk;subst hk;cases an
  exact World.putObj_heap_other (Ne.symm cz)⟩
theorem Ext.iB{hV:Nat}{cD:C_ F_}{W b8:A_}(h:Ext W b8)(az:hV<=W.heap.size):mV hV cD W b8:=⟨Below.mono h az,fun k c t f hk _=>h.heap (cA hk)⟩
def apR{α:Type}(iG:A_->A_->Prop)(B:Nat)(c8:C_ α->A_->Prop)(qR:eu->C_ α->A_->Prop)(xs:C_ α)(W:A_):eu->Fr->A_->Prop
 | .normal,_,b8=>KeepsFrom B W b8/\iG W b8/\c8 xs b8
 | .gx _,_,_=>False
 | e,_,b8=>KeepsFrom B W b8/\qR e xs b8
def um(B:Nat)(W b8:A_):Prop := ∃l,B<=l/\(∃ae,W.heap[l]? = some ae/\ae.isCells=false)/\W.grownBy b8 (some l)
def adT(P:D_)(g:B_)(p:Nat)(a b:eN)(Q:Nat->eu->Fr->A_->Prop)(S:Fr)(w:A_):Prop :=
 ∃(α:Type) (enc:α->B_) (jq:Nat) (hU:Array B_) (iG:A_->A_->Prop) (od qh:C_ α->Prop) (N:Nat) (w0:A_),g = .func (.func jq) #[] hU/\okF P jq=true/\SeqStopsK Fence.wide 0 P jq hU (fun x=>#[enc x]) iG od qh N w0/\Ext w0 w/\Dj iG w.heap.size /\
 ∃(c8:C_ α->A_->Prop) (qR:eu->C_ α->A_->Prop),OwnFrom w.heap.size c8/\(∀e,OwnFrom w.heap.size (qR e))/\c8 [] w /\
  (∀pre x W,c8 pre W->pre.length<N->dV P a (vm (fun uo iU=>KeepsFrom w.heap.size W iU/\iG W iU/\∀e5,um w.heap.size iU e5->dV P b (apR iG w.heap.size c8 qR (pre++[x]) e5) uo e5) (fun _ _ _=>False)) (b4 S p (enc x)) W) /\
  (∀D xs W,w.heap.size<=D->od xs->c8 xs W->W.heap[D]? = some (.deferred (some []))->Q D .normal S W) /\
  (∀D e pre W,e≠.normal->w.heap.size<=D->qh pre->qR e pre W->W.heap[D]? = some (.deferred (some []))->Q D e S W)
theorem apT{α:Type}{enc:α->B_}{P:D_}{g:G_}{p:Nat}{zj body:Code}{Q:Exit->Act->A_->Prop}{a:Act}{w w0:A_}{jq:Nat}{hU:Array B_}{iG:A_->A_->Prop}{N:Nat}{od qh:C_ α->Prop}
  (aK:a.eval g = .func (.func jq) #[] hU)(dh:okF P jq=true)(tD:SeqStopsK Fence.wide 0 P jq hU (fun x=>#[enc x]) iG od qh N w0)(he:Ext w0 w)(tp:Dj iG w.heap.size)
  (c8:C_ α->A_->Prop)(qR:Code->C_ α->A_->Prop)(aZ:OwnFrom w.heap.size c8)(yb:∀c,OwnFrom w.heap.size (qR c))(af:c8 [] w)
  (Fj:∀l pre x W,c8 pre W->pre.length<N->zj.wpIn (n4 (some l)) 1 P (Exit.then (fun db iU=>KeepsFrom w.heap.size W iU/\iG W iU /\
   ∀e5,um w.heap.size iU e5->body.wpIn (n4 (some l)) 1 P (ownPostG w.heap.size iG c8 qR (pre++[x]) e5) db e5) (fun _ _ _=>False)) { tmps:=a.tmps.setIfInBounds p (enc x),defers:=[] } W)
  (zU:∀D xs W,w.heap.size<=D->od xs->c8 xs W->W.heap[D]? = some (.deferred (some []))->Q .normal { a with defers:={ target:=.collected D,args:=#[] } :: a.defers } W)
  (JO:∀D c pre W,w.heap.size<=D->qh pre->qR c pre W->W.heap[D]? = some (.deferred (some []))->c.wpIn Fence.wide 3 P Q { a with defers:={ target:=.collected D,args:=#[] } :: a.defers } W) :
  (Code.rangeFunc g #[p] zj body).wpIn Fence.wide 3 P Q a w:=by
 refine wpIn_rangeFunc fun fn lv=>?_;obtain⟨jx,nO⟩:∃jx:LoopState->H_ Code->Loop,jx=fun st Q3=>{ state:=st,pending:=Q3,fn,tmps:=a.tmps,params:=#[p],assign:=zj,body,defers:=w.heap.size }:=⟨_,rfl⟩;obtain⟨w1,iy⟩:∃w1,(w.alloc (.deferred (some []))).alloc (.loop (jx .ready none))=w1:=⟨_,rfl⟩;have Zw:w1.heap.size=w.heap.size+2:=by rw[<-iy];simp
 have nk:w1.heap[w.heap.size+1]? = some (.loop (jx .ready none)):=by
  rw[<-iy]
  have:=World.alloc_heap_new (w.alloc (.deferred (some []))) (.loop (jx .ready none))
  rwa[World.size_alloc] at this
 have rj:w1.heap[w.heap.size]? = some (.deferred (some [])):=by rw[<-iy];exact(Below.heap_alloc _ _ _ Bs).trans (World.alloc_heap_new w _)
 have Jy:c8 [] w1:=by rw[<-iy];exact aZ.alloc _ (aZ.alloc _ af)
 have cM:Below w0.heap.size w0 w1:=by rw[<-iy];exact(he.alloc _).alloc _
 have low:∀{A B:A_} {row:H_ Nat},(∀r,row=some r->w1.heap.size<=r/\∃ae:Obj,A.heap[r]? = some ae/\ae.isWalk=true)->(∀r,row=some r->w.heap.size<=r/\∃ae:Obj,A.heap[r]? = some ae/\ae.isCells=false) :=
  fun aP r e=>by obtain⟨I,ae,aO,hw⟩:=aP r e;exact⟨AK,ae,aO,Obj.not_cells_of_walk hw⟩
 refine⟨w.heap.size+1,[{ target:=.collected w.heap.size,args:=#[] }],w1,{ target:=.fn (.func jq) hU,args:=#[.func (.yield (w.heap.size+1)) #[] #[]] },w1,jq,
  #[.func (.yield (w.heap.size+1)) #[] #[]]++hU,w1,?_,?_,fun _ _=>trivial,?_,fun _=>BN,?_⟩
 .rw[<-iy,nO];exact run_enterLoop_outer _ _ _ _ _
 .simp only[resolve,aK];simp[go_sem]
 .simp[invoke,go_sem,CN dh]
 refine CallsIn.mono (M6 (r:=none) (callsIn_wide.1 (tD (w.heap.size+1)
  (fun pre W=>c8 pre W/\W.heap[w.heap.size+1]? = some (.loop (jx .ready none))/\W.heap[w.heap.size]? = some (.deferred (some [])))
  (fun pre W => ∃c,qR c pre W/\W.heap[w.heap.size+1]? = some (.loop (jx .done (some c)))/\W.heap[w.heap.size]? = some (.deferred (some [])))
  w1 cM ?_ ?_ ?_ ⟨Jy,nk,rj⟩))) ?_
 .exact fun s A B row ak rn aP=>⟨aZ s A B row ak.1 rn (low (B:=B) aP),(grownBy_keeps rn (fun r e=>(aP r e).2) ak.2.1 rfl).trans ak.2.1,(grownBy_keeps rn (fun r e=>(aP r e).2) ak.2.2 rfl).trans ak.2.2⟩
 .intro s A B row ak rn aP;obtain⟨c,an,I,ab⟩:=ak;exact⟨c,yb c s A B row an rn (low (B:=B) aP),(grownBy_keeps rn (fun r e=>(aP r e).2) I rfl).trans I,(grownBy_keeps rn (fun r e=>(aP r e).2) ab rfl).trans ab⟩
 .rintro pre x W ⟨U,I,ab⟩ hlen;have bV:=run_yield (P:=P) (args:=#[enc x]) I (by rw[nO];rfl);rw[nO] at bV;refine⟨fn,_,zj,body,bV,abY (r:=none) (m:=0 - 1) ?_⟩;refine(roundIn_of_wpIn (F:=Fence.wide) (n:=1) (l:=w.heap.size+1) lv ?_) |> fun h=>⟨trivial,fun c cs _=>h.2 c cs (room_wide _)⟩
  have bI:(#[p]:Array Tmp).zip #[enc x]=#[(p,enc x)]:=by apply Array.ext';simp[Array.toList_zip]
  have aiO:=Fj (w.heap.size+1) pre x W U hlen;simp only[bI];refine wpIn_mono aiO fun e db iU h=>?_;cases e with
  | normal =>
   obtain⟨cE,cW,fz⟩:=h;have dU:=cE.same _ _ AK I rfl;have d1:=cE.same _ _ (GA _) ab rfl;refine⟨_,run_beginRound dU (by rw[nO]),?_⟩;have cg:=(Array.getElem?_eq_some_iff.1 dU).1;have du:(iU.putObj (w.heap.size+1) (.loop { jx .ready none with state:=.busy })).heap[w.heap.size+1]? = some (.loop { jx .ready none with state:=.busy }):=World.putObj_heap_same cg;have d2:(iU.putObj (w.heap.size+1) (.loop { jx .ready none with state:=.busy })).heap[w.heap.size]? = some (.deferred (some [])):=(World.putObj_heap_other AK).trans d1;have bS:iG iU (iU.putObj (w.heap.size+1) (.loop { jx .ready none with state:=.busy })):=tp.put _ _ _ _ AK dU rfl;refine wpIn_mono (fz _ ⟨_,AK,⟨_,dU,rfl⟩,grownBy_putObj' _ _ _⟩) fun e a3 og au=>?_;have fin:∀(jump:H_ Code),KeepsFrom w.heap.size (iU.putObj (w.heap.size+1) (.loop { jx .ready none with state:=.busy })) og ->
     (Instr.endRound (w.heap.size+1) jump).run P og = .ok (.bool jump.isNone) (og.putObj (w.heap.size+1) (.loop (jx (if jump.isNone then .ready else .done) jump))) /\
     og.heap[w.heap.size+1]? = some (.loop { jx .ready none with state:=.busy }) /\
     (og.putObj (w.heap.size+1) (.loop (jx (if jump.isNone then .ready else .done) jump))).heap[w.heap.size+1]? = some (.loop (jx (if jump.isNone then .ready else .done) jump)) /\
     (og.putObj (w.heap.size+1) (.loop (jx (if jump.isNone then .ready else .done) jump))).heap[w.heap.size]? = some (.deferred (some [])):=fun jump iA=>by
    have eW:=iA.same _ _ AK du rfl
    have:=run_endRound (P:=P) jump eW
    rw[nO] at this ⊢;exact⟨this,by rw[nO] at eW;exact eW,World.putObj_heap_same (Array.getElem?_eq_some_iff.1 eW).1,(World.putObj_heap_other AK).trans (iA.same _ _ (GA _) d2 rfl)⟩
   cases e with
   | normal =>
    obtain⟨cZ,dt,ef⟩:=au;obtain⟨f1,f2,f3,f4⟩:=fin none cZ;exact⟨_,_,f1,.inl ⟨rfl,⟨aZ.putObj _ ef AK f2 rfl,f3,f4⟩,tp.trans (tp.trans (tp.trans cW bS) dt) (tp.put _ _ _ _ AK f2 rfl)⟩⟩
   | ret =>
    obtain⟨cZ,ef⟩:=au;obtain⟨f1,f2,f3,f4⟩:=fin (some .ret) cZ;exact⟨_,_,f1,.inr ⟨rfl,.ret,(yb _).putObj _ ef AK f2 rfl,f3,f4⟩⟩
   | exit id =>
    obtain⟨cZ,ef⟩:=au;obtain⟨f1,f2,f3,f4⟩:=fin (some (.exit id)) cZ;exact⟨_,_,f1,.inr ⟨rfl,.exit id,(yb _).putObj _ ef AK f2 rfl,f3,f4⟩⟩
   | goto t =>
    obtain⟨cZ,ef⟩:=au;obtain⟨f1,f2,f3,f4⟩:=fin (some (.goto t)) cZ;exact⟨_,_,f1,.inr ⟨rfl,.goto t,(yb _).putObj _ ef AK f2 rfl,f3,f4⟩⟩
   | _=>exact au.elim
  | _=>exact h.elim
 .rintro e e5 ⟨⟨v,rfl⟩,(⟨xs,cc,U,I,ab⟩ | ⟨pre,aiH,c,U,I,ab⟩)⟩
  .exact⟨none,_,by have:=run_endLoop (P:=P) I (by rw[nO];simp);rw[nO] at this;exact this,zU _ xs _ (GA _) cc (aZ.putObj _ U AK I rfl) ((World.putObj_heap_other AK).trans ab)⟩
  .exact⟨some c,_,by have:=run_endLoop (P:=P) I (by rw[nO];simp);rw[nO] at this;exact this,JO _ c pre _ (GA _) aiH ((yb c).putObj _ U AK I rfl) ((World.putObj_heap_other AK).trans ab)⟩
def oM(P:D_):sO->(H_ Nat->eu->Fr->A_->Prop)->Fr->A_->Prop
 | .tY g p a b,Q,S,w=>adT P (aX S g) p a b (fun D=>Q (some D)) S w
 | .ub x y,Q,S,w=>oM P x (fun ae=>vm (fun S w=>dV P y (Q ae) S w) (Q ae)) S w
 | .jg x y,Q,S,w=>dV P x (vm (fun S w=>oM P y Q S w) (Q none)) S w
 | .cx id x,Q,S,w=>oM P x (fun ae=>Bv id (Q ae)) S w
def marks:H_ Nat->C_ Deferred
 | none=>[]
 | some D=>[{ target:=.collected D,args:=#[] }]
def aav(n:Nat)(Q:H_ Nat->eu->Fr->A_->Prop):Exit->Act->A_->Prop
 | .normal,a,w => ∃ae S,Fits (marks ae) a S n/\Q ae .normal S w
 | .exit i,a,w => ∃ae S,Fits (marks ae) a S n/\Q ae (.exit i) S w
 | .ret,a,w => ∃ae S,Fits (marks ae) a S n/\Q ae .ret S w
 | .panic c,a,w => ∃ae S,Fits (marks ae) a S n/\Q ae (.gx c) S w
 | _,_,_=>False
theorem amE{n:Nat}{Q:H_ Nat->eu->Fr->A_->Prop}{ae:H_ Nat}{e:Exit}{a:Act}{w:A_}(h:Kd (marks ae) n (Q ae) e a w):aav n Q e a w:=by
 cases e with
 | normal=>obtain⟨S,h1,I⟩:=h;exact⟨ae,S,h1,I⟩
 | exit i=>obtain⟨S,h1,I⟩:=h;exact⟨ae,S,h1,I⟩
 | ret=>obtain⟨S,h1,I⟩:=h;exact⟨ae,S,h1,I⟩
 | panic c=>obtain⟨S,h1,I⟩:=h;exact⟨ae,S,h1,I⟩
 | _=>exact h.elim
theorem LA{P:D_}(hm:P.follows .mixedOrders=true){n:Nat}:∀(c:Code) (rc:sO),nE P n c=some rc->∀(Q:H_ Nat->eu->Fr->A_->Prop) (a:Act) (S:Fr) (w:A_),Fits [] a S n->oM P rc Q S w->c.wpIn Fence.wide 3 P (aav n Q) a w
 | .rangeFunc g dd zj b,rc,h,Q,a,S,w,ay,aG=>by
  simp only[nE] at h;split at h
  .rename_i p hT hU tA aV ao;split at h
   .rename_i au;injection h with h;subst h
    obtain⟨α,enc,jq,auK,iG,od,qh,N,w0,aK,dh,tD,he,tp,c8,qR,aZ,yb,af,aiU,zU,JO⟩:=aG;have akR:dd=#[p]:=by rw[<-AH1 (xs:=dd),tA]
    subst akR;refine apT (by rw[ay.eval];exact aK) dh tD he tp c8 (fun c=>match c with | .ret=>qR .ret | .exit id=>qR (.exit id) | _=>fun _ _=>False) aZ ?_ af ?_ ?_ ?_
    .intro c;split
     .exact yb _
     .exact yb _
     .exact fun s W b8 row h _ _=>h.elim
    .intro l pre x W U aC;have yl:Fits [] ({ tmps:=a.tmps.setIfInBounds p (enc x),defers:=[] }:Act) (b4 S p (enc x)) n:=by
      refine⟨rfl,by simp[ay.2.1],fun t=>?_⟩
      have:=ay.2.2 t
      simp only[b4];by_cases aB:t=p
      .subst aB;simp[ay.2.1,au]
      .have I:(a.tmps.setIfInBounds p (enc x))[t]? = a.tmps[t]? := Array.getElem?_setIfInBounds_ne (Ne.symm aB);rw[if_neg aB,<-this];simp[Array.getD_eq_getD_getElem?,I]
     refine wpIn_mono (sound (ds:=[]) (r:=some l) hm zj hT aV _ _ _ W yl (aiU pre x W U aC)) fun e cF b8 ar=>?_;cases e with
     | normal =>
      obtain⟨a6,eI,h1,I,ab⟩:=ar;refine⟨h1,I,fun e5 aH=>?_⟩;refine wpIn_mono (sound (ds:=[]) (r:=some l) hm b hU ao _ _ _ e5 eI (ab e5 aH)) fun e a2 og ar=>?_;cases e with
      | normal=>obtain⟨a6,_,h1,I,ab⟩:=ar;exact⟨h1,I,ab⟩
      | ret=>obtain⟨a6,_,h1,I⟩:=ar;exact⟨h1,I⟩
      | exit id=>obtain⟨a6,_,h1,I⟩:=ar;exact⟨h1,I⟩
      | panic c=>obtain⟨a6,_,h1⟩:=ar;exact h1.elim
      | _=>exact ar.elim
     | ret=>obtain⟨a6,_,h1⟩:=ar;exact h1.elim
     | exit id=>obtain⟨a6,_,h1⟩:=ar;exact h1.elim
     | panic c=>obtain⟨a6,_,h1⟩:=ar;exact h1.elim
     | _=>exact ar.elim
    .intro D xs W im cc U bb;exact⟨some D,S,⟨by rw[ay.1];rfl,ay.2⟩,zU D xs W im cc U bb⟩
    .intro D c pre W im cc U bb;have Yx:Fits (marks (some D)) { a with defers:={ target:=.collected D,args:=#[] } :: a.defers } S n:=⟨by rw[ay.1];rfl,ay.2⟩;split at U
     .exact wpIn_ret ⟨some D,S,Yx,JO D .ret pre W Bs im cc U bb⟩
     .exact wpIn_exit ⟨some D,S,Yx,JO D (.exit _) pre W Bs im cc U bb⟩
     .exact U.elim
   .cases h
  .cases h
 | .seq x y,rc,h,Q,a,S,w,ay,aG=>by
  simp only[nE] at h;split at h
  .rename_i w8 ag;obtain⟨acg,bV,rfl⟩:=Option.map_eq_some_iff.1 h;refine wpIn_seq (wpIn_mono (sound (ds:=[]) (r:=none) (m:=3) hm x w8 ag _ a S w ay aG) fun e cF w' ar=>?_);cases e with
   | normal=>obtain⟨a6,eI,ar⟩:=ar;exact LA hm y acg bV Q cF a6 w' eI ar
   | exit i=>obtain⟨a6,eI,ar⟩:=ar;exact⟨none,a6,eI,ar⟩
   | ret=>obtain⟨a6,eI,ar⟩:=ar;exact⟨none,a6,eI,ar⟩
   | panic c=>obtain⟨a6,eI,ar⟩:=ar;exact⟨none,a6,eI,ar⟩
   | _=>exact ar.elim
  .split at h
   .rename_i rx w9 ag bV;injection h with h;subst h
    refine wpIn_seq (wpIn_mono (LA hm x rx ag _ a S w ay aG) fun e cF w' ar=>?_);cases e with
    | normal =>
     obtain⟨ae,a6,eI,ar⟩:=ar;exact wpIn_mono (sound (ds:=marks ae) (r:=none) (m:=3) hm y w9 bV (Q ae) cF a6 w' eI ar) fun e Vf bO h=>amE h
    | exit i=>obtain⟨ae,a6,eI,ar⟩:=ar;exact⟨ae,a6,eI,ar⟩
    | ret=>obtain⟨ae,a6,eI,ar⟩:=ar;exact⟨ae,a6,eI,ar⟩
    | panic c=>obtain⟨ae,a6,eI,ar⟩:=ar;exact⟨ae,a6,eI,ar⟩
    | _=>exact ar.elim
   .cases h
 | .block id b,rc,h,Q,a,S,w,ay,aG=>by
  simp only[nE] at h;obtain⟨Rm,ao,rfl⟩:=Option.map_eq_some_iff.1 h;refine wpIn_block (wpIn_mono (LA hm b Rm ao _ a S w ay aG) fun e cF w' ar=>?_);cases e with
  | normal=>obtain⟨ae,a6,eI,ar⟩:=ar;exact⟨ae,a6,eI,ar⟩
  | ret=>obtain⟨ae,a6,eI,ar⟩:=ar;exact⟨ae,a6,eI,ar⟩
  | panic c=>obtain⟨ae,a6,eI,ar⟩:=ar;exact⟨ae,a6,eI,ar⟩
  | exit i =>
   obtain⟨ae,a6,eI,ar⟩:=ar;simp only[Bv] at ar;simp only[Exit.inBlock];split at ar
   .rename_i U;rw[if_pos U];exact⟨ae,a6,eI,ar⟩
   .rename_i U;rw[if_neg U];exact⟨ae,a6,eI,ar⟩
  | _=>exact ar.elim
 | .skip,rc,h,_,_,_,_,_,_=>by simp[nE] at h
 | .region _ _ _,rc,h,_,_,_,_,_,_=>by simp[nE] at h
 | .cond _ _ _,rc,h,_,_,_,_,_,_=>by simp[nE] at h
 | .loop _,rc,h,_,_,_,_,_,_=>by simp[nE] at h
 | .exit _,rc,h,_,_,_,_,_,_=>by simp[nE] at h
 | .ret,rc,h,_,_,_,_,_,_=>by simp[nE] at h
 | .scope _,rc,h,_,_,_,_,_,_=>by simp[nE] at h
 | .label _,rc,h,_,_,_,_,_,_=>by simp[nE] at h
 | .goto _,rc,h,_,_,_,_,_,_=>by simp[nE] at h
 | .refuse _,rc,h,_,_,_,_,_,_=>by simp[nE] at h
def D5(res:C_ mX)(R:B_->A_->Prop):H_ Nat->eu->Fr->A_->Prop
 | none,e,S,w=>D3 res R e S w
 | some D,.normal,S,w=>w.heap[D]? = some (.deferred (some []))/\p3 res S (fF w D (.deferred none)) fun vs=>R (hl vs) (fF w D (.deferred none))
 | some D,.ret,S,w=>w.heap[D]? = some (.deferred (some []))/\p3 res S (fF w D (.deferred none)) fun vs=>R (hl vs) (fF w D (.deferred none))
 | some _,.exit _,_,_=>False
 | some _,.gx _,_,_=>False
theorem ap4{P:D_}{D:Nat}{w:A_}(h:w.heap[D]? = some (.deferred (some []))):(Instr.takeDeferred D).run P w = .ok [] (fF w D (.deferred none)):=by
 simp[Instr.takeDeferred,Sem.run_bind,getObj,setObj,Sem.run,h,Result.andThen,fF]
theorem agA{P:D_}{f:E_}{L:zc}(hm:P.follows .mixedOrders=true)(an:zu P f=some L){args:C_ B_}{w:A_}{R:B_->A_->Prop}(aV:args.length<=L.n)
  (h:oM P L.code (D5 L.res R) (h5 args 0) w):aY P f args.toArray w R:=by
 unfold zu at an;split at an
 .rename_i fn lv;split at an
  .rename_i c ao;split at an
   .rename_i lc r h1 I;injection an with an;subst an
    refine(callsIn_wide (n:=3)).1 (callsIn_of_wp_marks (F:=Fence.wide) lv ao trivial (wpIn_mono (LA hm c lc h1 _ _ (h5 args 0) w ?_ h) ?_))
    .refine⟨rfl,?_,fun t=>?_⟩
     .have:=aV;simp only at this;simp;omega
     .rw[Iz];simp only[Nat.zero_le,if_true,Nat.sub_zero];by_cases aB:t<args.length
      .simp[Array.getD_eq_getD_getElem?,Array.getElem?_append,aB]
      .simp only[Array.getD_eq_getD_getElem?,Array.getElem?_append,List.size_toArray,if_neg aB,List.getElem?_eq_none (Nat.le_of_not_lt aB),Option.getD_none];rw[Array.getElem?_replicate];split<;>rfl
    .have fin:∀(ae:H_ Nat) (S:Fr) (cF:Act) (w':A_),Fits (marks ae) cF S fn.ntmps->(D5 r R ae .normal S w')->LeavesInM Fence.wide 3 P fn cF.tmps (fun e w' => ∃v,e = .returned v/\R v w') cF.defers .returning w':=by
      intro ae S cF w' ay ar;rw[ay.1];cases ae with
      | none =>
       obtain⟨vs,ab,aH⟩:=sF ay _ _ _ I ar;exact⟨_,xh ab,_,rfl,aH⟩
      | some D =>
       obtain⟨bb,ar⟩:=ar;obtain⟨vs,ab,aH⟩:=sF ay _ _ _ I ar;exact⟨Bs,.inl ⟨D,_,rfl,ap4 bb,⟨_,xh ab,_,rfl,aH⟩⟩⟩
     intro e cF w' ar;cases e with
     | normal=>obtain⟨ae,S,ay,ar⟩:=ar;exact fin ae S cF w' ay ar
     | ret =>
      obtain⟨ae,S,ay,ar⟩:=ar;refine fin ae S cF w' ay ?_;cases ae<;>exact ar
     | exit i=>obtain⟨ae,S,ay,ar⟩:=ar;cases ae<;>exact ar.elim
     | panic c=>obtain⟨ae,S,ay,ar⟩:=ar;cases ae<;>exact ar.elim
     | _=>exact ar.elim
   .cases an
  .cases an
 .cases an
end ba
namespace ba
open Go Go.RowKit
section
variable{P:Program}{S:Fr}{w:World}
theorem gC.start{f:E_}{L:zc}(hm:P.follows .mixedOrders=true)(an:zu P f=some L){args:C_ B_}{w:A_}{R:B_->A_->Prop}(aV:args.length<=L.n)(h:oM P L.code (D5 L.res R) (h5 args 0) w):aY P f args.toArray w R:=agA hm an aV h
theorem gC.jg{x:eN}{y:sO}{Q:H_ Nat->eu->Fr->A_->Prop}(h:eg P x (ic (fun S w=>oM P y Q S w) (Q none) ⟨⟩) S w ⟨⟩):oM P (.jg x y) Q S w:=by unfold eg ic at h;exact h
theorem gC.ub{x:sO}{y:eN}{Q:H_ Nat->eu->Fr->A_->Prop}(h:oM P x (fun ae=>ic (fun S w=>eg P y (Q ae) S w ⟨⟩) (Q ae) ⟨⟩) S w):oM P (.ub x y) Q S w:=by unfold eg ic at h;exact h
theorem gC.cx{id:Nat}{x:sO}{Q:H_ Nat->eu->Fr->A_->Prop}(h:oM P x (fun ae=>q3 id (Q ae) ⟨⟩) S w):oM P (.cx id x) Q S w:=by unfold q3 at h;exact h
theorem gC.ret{res:C_ mX}{R:B_->A_->Prop}{D:Nat}(bb:w.heap[D]? = some (.deferred (some [])))(h:jC res S (fF w D (.deferred none)) (fun vs=>R (hl vs) (fF w D (.deferred none))) ⟨⟩):D5 res R (some D) .ret S w:=by
 unfold jC at h;exact⟨bb,h⟩
theorem gC.D2{res:C_ mX}{R:B_->A_->Prop}{e:eu}(h:ra res R ⟨⟩ e S w):D5 res R none e S w:=by
 unfold ra at h;exact h
theorem gC.tY{α:Type}{enc:α->B_}{g:G_}{p:Nat}{a b:eN}{Q:H_ Nat->eu->Fr->A_->Prop}{jq:Nat}{hU:Array B_}{iG:A_->A_->Prop}{od qh:C_ α->Prop}{N:Nat}{w0:A_}
  (aK:aX S g = .func (.func jq) #[] hU)(dh:okF P jq=true)(tD:SeqStopsK Fence.wide 0 P jq hU (fun x=>#[enc x]) iG od qh N w0)(he:Ext w0 w)(tp:Dj iG w.heap.size)
  (c8:C_ α->A_->Prop)(aZ:OwnFrom w.heap.size c8)(af:c8 [] w)
  (Fj:∀pre x W,c8 pre W->pre.length<N->eg P a (ic (fun uo iU=>KeepsFrom w.heap.size W iU/\iG W iU/\∀e5,um w.heap.size iU e5 ->
   eg P b (ic (fun _ b8=>KeepsFrom w.heap.size e5 b8/\iG e5 b8/\c8 (pre++[x]) b8) (fun _ _ _=>False) ⟨⟩) uo e5 ⟨⟩) (fun _ _ _=>False) ⟨⟩) (b4 S p (enc x)) W ⟨⟩)
  (zU:∀D xs W,w.heap.size<=D->od xs->c8 xs W->W.heap[D]? = some (.deferred (some []))->Q (some D) .normal S W):oM P (.tY g p a b) Q S w:=by
 refine⟨α,enc,jq,hU,iG,od,qh,N,w0,aK,dh,tD,he,tp,c8,fun _ _ _=>False,aZ,fun _ _ _ _ _ h _ _=>h.elim,af,fun pre x W U aC=>?_,zU,fun D e pre W _ _ _ h _=>h.elim⟩;have h:=Fj pre x W U aC;unfold eg ic at h;refine p8 a _ _ _ W (fun e uo iU _ h1=>?_) h;cases e with
 | normal =>
  obtain⟨cE,cW,fz⟩:=h1;refine⟨cE,cW,fun e5 aP=>?_⟩;have I:=fz e5 aP;refine p8 b _ _ _ e5 (fun e k7 og _ ab=>?_) I;cases e with
  | normal=>exact ab
  | exit _=>exact ab.elim
  | ret=>exact ab.elim
  | gx _=>exact ab.elim
 | exit _=>exact h1.elim
 | ret=>exact h1.elim
 | gx _=>exact h1.elim
theorem um.cells{B:Nat}{W b8:A_}(h:um B W b8){k:Nat}{c:Array B_}{t:F_}{f:Nat×Nat}(hk:W.heap[k]? = some (.cells c t f)):b8.heap[k]? = some (.cells c t f):=by
 obtain⟨l,aC,⟨ae,aO,an⟩,aK⟩:=h;rw[aK.block k (cA hk) fun e=>by injection e with e;subst e;rw[aO] at hk;injection hk with hk;subst hk;cases an];exact hk
theorem um.mod{B:Nat}{W b8:A_}(h:um B W b8):∃l,B<=l/\(∀c t f,W.heap[l]? ≠ some (.cells c t f))/\Mod (fun k=>k=l) W b8:=by
 obtain⟨l,aC,⟨ae,aO,an⟩,aK⟩:=h;exact⟨l,aC,(fun c t f e=>by rw[aO] at e;injection e with e;subst e;cases an),Mod.grown aK fun k e=>by injection e with e;exact e.symm⟩
theorem um.ext{B:Nat}{w W b8:A_}(h:um B W b8)(he:Ext w W)(ki:w.heap.size<=B):Ext w b8:=by
 obtain⟨l,aC,_,hm⟩:=h.mod;exact hm.ext he fun k hk e=>AK
theorem Ext.keeps{W b8:A_}(h:Ext W b8)(B:Nat):KeepsFrom B W b8:=⟨h.size,fun k ae _ hk _=>h.obj hk⟩
theorem Mod.keeps{A:Nat->Prop}{B:Nat}{W b8:A_}(h:Mod A W b8)(dg:∀k,B<=k->A k->∃c t f,W.heap[k]? = some (.cells c t f)):KeepsFrom B W b8 :=
 ⟨h.size,fun k ae ki hk an=>h.obj (fun a=>by obtain⟨c,t,f,e⟩:=dg k ki a;rw[hk] at e;injection e with e;subst e;cases an) hk⟩
theorem Mod.iB{A:Nat->Prop}{hV:Nat}{cD:C_ F_}{W b8:A_}(h:Mod A W b8)(az:hV<=W.heap.size)(af:∀k,k<hV->¬A k)(dg:∀k c t f,A k->W.heap[k]? = some (.cells c t f)->t∉cD):mV hV cD W b8 :=
 ⟨⟨h.os,h.tape,h.output,h.size,fun k hk=>h.block k AK (af k hk)⟩,fun k c t f hk aB=>h.block k (cA hk) fun a=>dg k c t f a hk aB⟩
theorem Mod.high{A:Nat->Prop}{w W b8:A_}{row:H_ Nat}(h:Mod A w W)(aK:W.grownBy b8 row)(aP:∀r,row=some r->w.heap.size<=r):Mod A w b8 :=
 h.comp (Mod.grown (A:=fun k=>row=some k) aK fun k e=>e) (fun _ _ a=>a) fun i U e=>by have:=aP i e;omega
def e9(aR:Nat)(bs:C_ Nat)(cD:C_ F_)(W b8:A_):Prop:=Mod (fun k=>k∈bs\/(aR<=k/\∃c t f,t∈cD/\W.heap[k]? = some (.cells c t f))) W b8
theorem Ext.BD{aR:Nat}{bs:C_ Nat}{cD:C_ F_}{W b8:A_}(h:Ext W b8):e9 aR bs cD W b8:=h.mod
theorem e9.trans{aR:Nat}{bs:C_ Nat}{cD:C_ F_}{a b c:A_}(h:e9 aR bs cD a b)(k:e9 aR bs cD b c):e9 aR bs cD a c :=
 ⟨k.os.trans h.os,k.tape.trans h.tape,k.output.trans h.output,QB h.size k.size,fun i U az=>by
  have e:=h.block i U az;refine(k.block i (AH4 U h.size) fun a=>az ?_).trans e;rcases a with a | ⟨db,c,t,f,a2,a3⟩
  .exact .inl a
  .exact .inr ⟨db,c,t,f,a2,by rw[<-e];exact a3⟩⟩
theorem dy.BD{aR b:Nat}{bs:C_ Nat}{cD:C_ F_}{W b8:A_}(h:dy b W b8)(ao:b∈bs):e9 aR bs cD W b8:=(h.mod (A:=fun k=>k=b) rfl).AW fun k e=>.inl (e ▸ ao)
theorem e9.grown{α:Type}{enc:α->C_ B_}{sz aR:Nat}{e:F_}{bs:C_ Nat}{cD:C_ F_}{W b8:A_}{v:B_}{xs:C_ α}(aO:aS enc e sz aR W v xs)(aK:W.grownBy b8 v.ownBlock)(he:e∈cD):e9 aR bs cD W b8 :=
 (Mod.grown (A:=fun k=>v.ownBlock=some k) aK fun k e=>e).AW fun k hk=>by
  obtain⟨cur,h⟩:=aO.cx k hk;exact .inr ⟨(aO.lt k hk).1,_,_,_,he,h⟩
theorem e9.keeps{aR B:Nat}{bs:C_ Nat}{cD:C_ F_}{W b8:A_}(h:e9 aR bs cD W b8)(ki:∀b∈bs,b<B):KeepsFrom B W b8 :=
 Mod.keeps h fun k hk a=>by
  rcases a with a | ⟨_,c,t,f,_,a⟩
  .have:=ki k a;omega
  .exact⟨c,t,f,a⟩
theorem e9.iB{aR hV:Nat}{bs:C_ Nat}{cD nY:C_ F_}{W b8:A_}(h:e9 aR bs cD W b8)(az:hV<=W.heap.size)(af:hV<=aR)(ao:∀b∈bs,hV<=b/\∀c t f,W.heap[b]? = some (.cells c t f)->t∉nY)(aB:∀t∈cD,t∉nY):mV hV nY W b8 :=
 Mod.iB h az (fun k hk a=>by
  rcases a with a | ⟨a,_⟩
  .have:=(ao k a).1;omega
  .omega) fun k c t f a hk=>by
  rcases a with a | ⟨_,kN,hY,uG,db,a2⟩
  .exact(ao k a).2 c t f hk
  .rw[hk] at a2;injection a2 with a2;injection a2 with _ a2;subst a2;exact aB _ db
theorem e9.from{bs:C_ Nat}{cD:C_ F_}{w W b8:A_}(h:Mod (fun k=>k∈bs) w W)(c:e9 w.heap.size bs cD W b8):Mod (fun k=>k∈bs) w b8 :=
 h.comp c (fun _ _ a=>a) fun k hk a=>by
  rcases a with a | ⟨a,_⟩
  .exact a
  .omega
theorem e9.obj{aR:Nat}{bs:C_ Nat}{cD:C_ F_}{W b8:A_}(h:e9 aR bs cD W b8){k:Nat}{c:Array B_}{t:F_}{f:Nat×Nat}(hk:W.heap[k]? = some (.cells c t f))(ao:k∉bs)(aB:t∉cD):b8.heap[k]? = some (.cells c t f):=by
 rw[Mod.block h k (cA hk) fun a=>?_]
 .exact hk
 .rcases a with a | ⟨_,kN,hY,uG,db,a2⟩
  .exact ao a
  .rw[hk] at a2;injection a2 with a2;injection a2 with _ a2;subst a2;exact aB db
end
end ba
end
section
namespace Go.Proofs.R
open Go ba Go.Proofs
def D.c:zc:=⟨37,[.tmp 2], (.jg (.dv [bP 1 (.box T.d (ad 0)),fc 2 (.const ch)]) (.jg (.dv [bP 3 (.new T.c ch)]) (.jg (.dv [bA 8 (.gl [cu,cu] [(0,1),(1,1)] [(0,(cf (-1)))]),bP 4 (.new T.a cu),bP 5 (.new T.e (.agg #[cu,cu])),e8 (.st (ad 4) (cf (-1))),p9 2 5 8]) (.ub (.jg (.dv [ig 9 5 1,nZ 10 F.gD [9]]) (.cx 0 (.tY (ad 10) 11 (.dv [bP 6 (.new T.e (.agg #[cu,cu])),p9 2 6 11]) (.cx 1 (.seq (cO [ig 12 2 6,ig 13 2 5,fR .neq T.e 14 12 13] (kb 14 (.dv [bk 15 4,gH .add T.a 16 15 1,ys 4 16]) .skip)) (cO [ig 17 2 6,p9 2 5 17] (cO [bd 18 3 1,bk 19 18,bd 20 0 6,bk 21 20,dq 22 5 19 21,bd 23 4 22,bk 24 23,jP 25 24,fc 26 (cf 0)] (.cx 2 (.loop (cO [fR .lss T.a 27 26 25] (vr 27 2
 (.seq (.cx 3 (cO [aq 28 26,aq 7 28] (.dv [bk 29 3,bk 30 4,aq 31 7,bA 32 (.gl [cu,cu] [(0,1),(1,1)] [(0,(ad 30)),(1,(ad 31))]),bP 33 (.gb T.f 1 2 [cu,cu] [(0,(ad 32))]),bP 34 (.app T.c T.f 2 16 (ad 29) (ad 33)),ys 3 34]))) (vq T.a 35 26))))))))))))) (cO [bk 36 3,aq 2 36] .ret)))))⟩
theorem Dg.c:zu Tryz.prog F.c=some D.c:=Ct
def D.x2:zc:=⟨78,[.cell 6], (.jg (.dv [bP 3 (.box T.d (ad 0)),bP 4 (.box T.a (ad 1)),bP 6 (.new T.ae (.bool false))]) (.jg (cO [ig 14 5 3,nZ 15 F.db [14],bA 16 (.gN 0 (ad 15)),gH .neq T.r2 17 16 0] (kb 17 (cO [e8 (.st (ad 6) (iO false))] .ret) .skip)) (.jg (.dp (xw (ig 18 5 3) (xw (ig 20 5 3) (.alt (nZ 19 F.b [18]) (.bh (nZ 21 F.c [20]) (.alt (bP 8 (.new T.c ch)) (xw (aq 7 19) (.bh (ys 8 21) .done .nil)) .nil) (.alt (bP 8 (.new T.c ch)) (.bh (nZ 21 F.c [20]) (xw (aq 7 19) (.bh (ys 8 21) .done .nil)) .nil) .nil)) (.alt (bP 8 (.new T.c ch)) (.alt (nZ 19 F.b [18]) (.bh (nZ 21 F.c [20]) (xw (aq 7 19) (.bh (ys 8 21) .done .nil)) .nil) .nil) .nil))))) (.jg (.seq (.q6 [bk 22 4,gH .lss T.a 23 22 0,aq 24 23,lW 24 (bk 25 4),lW 24 (aq 26 7),lW 24 (jP 27 26),lW 24 (fR .geq T.a 28 25 27),oS 29 24 28,aq 30 29,lW 30 (aq 31 2),lW 30 (gH .lss T.a 32 31 0),oS 33 30 32,aq 34 33,lW 34 (aq 35 2),lW 34 (bd 36 3 3),lW 34 (bk 37 36),lW 34 (aq 38 7),lW 34 (bk 39 4),lW 34 (dq 40 2 38 39),lW 34 (bd 41 0 40),lW 34 (bk 42 41),lW 34 (dq 43 5 37 42),lW 34 (bd 44 2 43),lW 34 (bk 45 44),lW 34 (fR .geq T.a 46 35 45),oS 47 34 46]) (kb 47 (cO [e8 (.st (ad 6) (iO false))] .ret) .skip)) (.jg (.dv [ig 48 5 3,nZ 49 F.hd [48],bP 9 (.new T.a9 ch),ys 9 49]) (.ub (.jg (.dv [ig 50 5 3,bk 51 4,aq 52 2,nZ 53 F.DM [50,51,52]]) (.cx 0 (.tY (ad 53) 54 (.dv [aq 10 54]) (.cx 1 (cO [bA 55 (.u6 F.ac [] [(ad 4)]),aq 11 55] (cO [bk 56 8,jP 57 56,fc 58 (cf 0)] (.cx 2 (.loop (cO [fR .lss T.a 59 58 57] (vr 59 2
 (.seq (.cx 3 (cO [aq 60 58,dq 61 2 56 58,ig 62 2 61,bP 13 (.new T.f (.agg #[cu,cu])),aq 12 60,p9 2 13 62] (.seq (.q6 [aq 63 11,ig 64 2 13,bY 65 (.val (ad 63) [(ad 64)]),aq 66 65,rS 66 (bk 67 9),rS 66 (aq 68 10),rS 66 (dq 69 2 67 68),rS 66 (ig 70 2 69),rS 66 (bk 71 9),rS 66 (aq 72 12),rS 66 (dq 73 2 71 72),rS 66 (ig 74 2 73),rS 66 (nZ 75 F.Bu [70,74]),qa 76 66 75]) (kb 76 (cO [e8 (.st (ad 6) (iO false))] .ret) .skip)))) (vq T.a 77 58)))))))))))) (cO [e8 (.st (ad 6) (iO true))] .ret)))))))⟩
theorem Dg.x2:zu Tryz.prog F.x2=some D.x2:=Ct
def D.BR:zc:=⟨13,[.tmp 4], (.jg (.dv [bP 2 (.box T.g (ad 0)),fc 4 (.const ch)]) (.ub (.jg (.dv [aq 6 1]) (.cx 0 (.tY (ad 6) 7 (.dv [bP 5 (.new T.e (.agg #[cu,cu])),p9 2 5 7]) (.cx 1 (.dv [bk 8 2,ig 9 2 5,bP 10 (.gb T.e 1 2 [cu,cu] [(0,(ad 9))]),bP 11 (.app T.g T.e 2 16 (ad 8) (ad 10)),ys 2 11]))))) (cO [bk 12 2,aq 4 12] .ret)))⟩
theorem Dg.BR:zu Tryz.prog F.BR=some D.BR:=Ct
end Go.Proofs.R
end
section
namespace o
open Go Go.RowKit ba
theorem Wa(x:cX):r8 acq x.enc:=⟨⟨_,rfl⟩,⟨_,rfl⟩,trivial⟩
theorem alN(x y:cX)(h:x.enc=y.enc):x=y:=by cases x;cases y;simpa[cX.enc] using h
abbrev xO(m:Model):={x:cX // x.of m}
end o
namespace ba
open Go Go.RowKit
theorem Ext.Xl{w w':A_}(h:Ext w w'):w.grownBy w' none:=⟨h.os,h.tape,h.output,h.size,fun k hk _=>h.heap hk⟩
end ba
namespace Go.Proofs.R
open Go Go.RowKit ba
theorem agp(cs:C_ B_)(m:o.Model)(p:o.dJ)(b2 dV:B_)(w:A_)(h:o.eh w cs m) :
  DD F.zy #[.agg cs.toArray,.agg (p.enc b2 dV).toArray] w fun v w'=>v = .I (o.elems m p)/\Ext w w':=by
 obtain⟨b6,bx,bR,c1,bX,c2,bZ,bu,ca,bC,rfl,af,h1,I,ab,aH,e2,eE,eJ,er,eH⟩:=h.form;refine br E.zy ?_;refine aa ?_;intro w1 bw cM ai al;refine aa ?_;intro aD bS dm aj av;have da:∀{w'},Ext aD w'->Ext w w':=fun e=>(ai.trans aj).trans e;refine aa ?_;rw[o.elems];apply I_<;>intro g1
 .refine aa ?_;rw[o.gX (.inl AK)];exact⟨aL,da (Ext.refl _)⟩
 refine aa ?_;apply I_<;>intro g2
 .refine aa ?_;rw[o.gX (.inr AK)];exact⟨aL,da (Ext.refl _)⟩
 have U:(p.over - 1).toNat<m.scalars.length:=AK
 obtain⟨a,rfl⟩:=af.addr;rw[o.iM AK AK];refine aa ?_;refine K_ (p.over - 1).toNat AK U ?_;refine aa ?_;apply I_<;>intro g3
 .refine aa ?_;refine⟨?_,da (Ext.refl _)⟩;rw[if_pos AK];rfl
 refine aa ?_;apply I_<;>intro g4
 .refine aa ?_;refine⟨?_,da (Ext.refl _)⟩;rw[if_pos AK];rfl
 refine aa ?_;refine⟨?_,da (Ext.refl _)⟩;rw[if_neg AK];congr 1;omega
theorem apv(cs:C_ B_)(m:o.Model)(p:o.dJ)(b2 dV:B_)(w:A_)(h:o.eh w cs m) :
  DD F.KM #[.agg cs.toArray,.agg (p.enc b2 dV).toArray] w fun v w'=>v = .I (o.elems m p)/\Ext w w':=by
 obtain⟨b6,bx,bR,c1,bX,c2,bZ,bu,ca,bC,rfl,af,h1,I,ab,aH,e2,eE,eJ,er,eH⟩:=h.form;refine br E.KM ?_;refine aa ?_;intro w1 bw cM ai al;refine aa ?_;intro aD bS dm aj av;have da:∀{w'},Ext aD w'->Ext w w':=fun e=>(ai.trans aj).trans e;refine aa ?_;rw[o.elems];apply I_<;>intro g1
 .refine aa ?_;rw[o.gX (.inl AK)];exact⟨aL,da (Ext.refl _)⟩
 refine aa ?_;apply I_<;>intro g2
 .refine aa ?_;rw[o.gX (.inr AK)];exact⟨aL,da (Ext.refl _)⟩
 have U:(p.over - 1).toNat<m.scalars.length:=AK
 obtain⟨a,rfl⟩:=af.addr;rw[o.iM AK AK];refine aa ?_;refine K_ (p.over - 1).toNat AK U ?_;refine aa ?_;apply I_<;>intro g3
 .refine aa ?_;refine⟨?_,da (Ext.refl _)⟩;rw[if_pos AK];rfl
 refine aa ?_;apply I_<;>intro g4
 .refine aa ?_;refine⟨?_,da (Ext.refl _)⟩;rw[if_pos AK];rfl
 refine aa ?_;refine⟨?_,da (Ext.refl _)⟩;rw[if_neg AK];congr 1;omega
def ZG(x:o.cX):B_:=.agg x.enc.toArray
theorem ZO{po w0:A_}{b:Nat}{cs:C_ B_}{m:o.Model}(an:w0.heap[b]? = some (.cells cs.toArray T.d))(h:o.eh po cs m)(qD:Ext po w0) :
  SeqStopsK Fence.wide 0 Tryz.prog F.ny #[.pointer (some ⟨b,0,none⟩)] (fun x:o.xO m=>#[ZG x.1]) (mV po.heap.size [T.l,T.d]) (fun xs=>xs.map Subtype.val=o.insts m) (fun _=>True) (o.insts m).length w0:=by
 intro l jl Mr W ao rf aiq bV Jz;have B4:Ext po W:=qD.trans ao;have X8:=Ext.obj (w:=w0) ao an;obtain⟨b6,bx,bR,c1,bX,c2,bZ,bu,ca,bC,rfl,af,h1,I,ab,aH,e2,eE,eJ,er,eH⟩:=h.form;refine callsIn_wide.2 (Calls.mono (show DD F.ny #[.func (.yield l) #[] #[],.pointer (some ⟨b,0,none⟩)] W (fun _ b8=>(∃xs,xs.map Subtype.val=o.insts m/\jl xs b8)\/(∃pre:C_ (o.xO m),True/\Mr pre b8)) from ?_) fun e b8 ⟨v,bB,aJ⟩=>⟨⟨v,bB⟩,aJ⟩);have BU:∀{pre:C_ (o.xO m)} {w w':A_},jl pre w->Ext w w'->jl pre w':=fun {pre w w'} aF e=>rf pre w w' none aF e.Xl (fun r e=>by cases e);refine br E.ny ?_;refine aa ?_;refine L_ 9 m.procs.length [0,1,7,8] (fun _=>[]) ([]:C_ (o.xO m)) (fun k pre w'=>(Ext po w'/\w'.heap[b]? = some (.cells #[.slice b6 m.scalars.length bx,.slice bR m.vars.length c1,.slice bX m.aw.length c2,.slice bZ m.procs.length bu,.slice ca m.props.length bC] T.d)/\jl pre w')/\pre.map Subtype.val++o.j1 m (m.procs.drop k) k=o.insts m) bc bc ⟨⟨B4,X8,Jz⟩,by simp[o.insts]⟩ ?_;clear X8 an;rintro k pre S w1 hk ⟨⟨ai,X9,YI⟩,sn⟩;refine aa ?_;apply I_<;>intro g1
 .have a1:k<m.procs.length:=AK
  obtain⟨a,rfl⟩:=ab.addr;obtain⟨ak,b2,dV,dP,e7,fy⟩:=ab.at k a1;obtain⟨_,_,rfl,_⟩:=e7.form;obtain⟨_,_,rfl,_⟩:=fy.form;rw[o.ZI a1] at sn;have sg:=cA X9;refine eb ?_;simp -dsimp only[cB];refine eb ?_;simp -dsimp only[cB];refine eb ?_;intro C3 bS dm nJ ri;refine eb ?_;intro aD alu av;have aj:=alu.ext nJ dm;have Ya:=aj.obj X9;have mE:=BU YI aj;have fs:∀(q:C_ (o.xO m)) (r:C_ o.cX),q.map Subtype.val++r=o.insts m->r≠[]->q.length<(o.insts m).length:=fun q r e aP=>by
   rw[<-e,Ln,AK0]
   have:=List.length_pos_iff.2 aP
   omega
  have uP:=o.D1 m m.procs[k];refine eb ?_;refine S_ [0,1,3,4,7,8,9] (fun _=>[]) (fun(Gh:C_ (o.xO m)) w'=>(Ext po w'/\w'.heap[bS]? = aD.heap[bS]? /\ w'.heap[b]? = aD.heap[b]? /\ jl Gh w')/\Gh.map Subtype.val=pre.map Subtype.val++o.jA k m.procs[k]) ?_ ?_
  .refine aa ?_;apply I_<;>intro g2
   .have bB:o.jA k m.procs[k]=[⟨(k:Int),0⟩]:=by unfold o.jA;rw[if_pos g2]
    rw[bB] at sn;refine aa ?_;refine _2 (bV pre ⟨⟨(k:Int),0⟩,Bs,by simpa using a1,Bs⟩ aD mE (fs pre _ (by simpa[List.append_assoc] using sn) Bs)) ?_;rintro e aN (⟨rfl,yn,nN⟩ | ⟨rfl,yn⟩)
    .refine⟨.bool true,rfl,?_⟩;refine aa ?_;exact⟨_,trivial,⟨Below.trans (Ext.trans ai aj) nN.1,nN.2 bS _ _ _ av Bs,nN.2 b _ _ _ Ya Bs,yn⟩,by simp[bB]⟩
    .refine⟨.bool false,rfl,?_⟩;refine aa ?_;exact .inr ⟨_,trivial,yn⟩
   .have bB:o.jA k m.procs[k]=[]:=by unfold o.jA;rw[if_neg g2]
    refine aa ?_;exact⟨pre,trivial,⟨ai.trans aj,aL,aL,mE⟩,by simp[bB]⟩
  rintro Q6 S aN ⟨⟨ah,bl,Yb,yn⟩,yq⟩;rw[av] at bl;rw[Ya] at Yb;refine aa ?_;refine J_ (agp _ m m.procs[k] _ _ aN (h.ext ah)) ?_;rintro _ aU ⟨rfl,ax⟩;have aj2:=BU yn ax;have Yc:=ax.obj Yb;have qt:=ah.trans ax;have Zd:Q6.map Subtype.val++o.j6 k (o.elems m m.procs[k])++o.j1 m (m.procs.drop (k+1)) (k+1)=o.insts m:=by rw[yq,<-sn];simp
  refine aa ?_;refine L_ 27 (o.elems m m.procs[k]) [0,1,3,7,8,9,26] (fun _=>[]) Q6 (fun j Gh w'=>(Ext po w'/\w'.heap[b]? = aU.heap[b]? /\ jl Gh w')/\Gh.map Subtype.val=Q6.map Subtype.val++o.j6 k j) bc bc ⟨⟨qt,rfl,aj2⟩,by simp[o.j6]⟩ ?_;rintro j Q7 S bt aF ⟨⟨aI,Ji,EY⟩,wK⟩;rw[Yc] at Ji;refine aa ?_;apply I_<;>intro g3
  .have ek:j<o.elems m m.procs[k]:=AK
   have cg:Q7.length<(o.insts m).length:=by
    have bB:=congrArg List.length Zd;have aJ:=congrArg List.length wK;simp only[List.length_append,List.length_map,o.j6,List.length_range] at bB aJ;omega
   refine aa ?_;refine _2 (bV Q7 ⟨⟨(k:Int),(j:Int)+1⟩,Bs,by simpa using a1,by constructor<;>simp<;>omega⟩ bt EY cg) ?_;rintro e bz (⟨rfl,Cf,E0⟩ | ⟨rfl,Cf⟩)
   .refine⟨.bool true,rfl,?_⟩;refine aa ?_;exact⟨ek,aL,_,trivial,⟨Below.trans aI E0.1,by rw[E0.2 b _ _ _ Ji Bs,Ji,Yc],Cf⟩,by simp[wK,o.aa2]⟩
   .refine⟨.bool false,rfl,?_⟩;refine aa ?_;exact .inr ⟨_,trivial,Cf⟩
  .have nc:j=o.elems m m.procs[k]:=AK
   subst nc;refine aa ?_;exact⟨a1,aL,Q7,trivial,⟨aI,Ji,EY⟩,by rw[wK];exact Zd⟩
 .refine aa ?_;rw[AF0 AK] at sn;exact .inl ⟨pre,by simpa[o.j1] using sn,YI⟩
end Go.Proofs.R
end
section
namespace o
open Go
def cX.key(x:cX):Int:=5*x.proc+x.elem
def chain:cX->C_ cX->Prop
 | _,[]=>True
 | a,x :: r=>x≠a/\chain x r
theorem VW:∀(l:C_ cX) (a:cX),(a :: l).Pairwise (fun x y=>x.key<y.key)->chain a l
 | [],_,_=>trivial
 | x :: r,a,h=>by
  obtain⟨h1,I⟩:=List.pairwise_cons.1 h;refine⟨fun e=>?_,VW r x I⟩
  have:=h1 x Bs
  rw[e] at this;exact absurd this (Int.lt_irrefl _)
theorem ZN{m:Model}:∀(l:C_ dJ) (i:Nat),(j1 m l i).Pairwise (fun x y=>x.key<y.key)/\∀x∈j1 m l i,5*(i:Int)<=x.key
 | [],_=>⟨List.Pairwise.nil,fun x ag=>by simp[j1] at ag⟩
 | p :: r,i=>by
  obtain⟨h1,I⟩:=ZN r (i+1);have aO:∀x∈jA i p,x=⟨(i:Int),0⟩:=fun x ag=>by
   unfold jA at ag;split at ag
   .simpa using ag
   .cases ag
  have aG:∀x∈j6 i (elems m p),∃k:Nat,k<4/\x=⟨(i:Int),(k:Int)+1⟩:=fun x ag=>by
   unfold j6 at ag;obtain⟨k,hk,rfl⟩:=List.mem_map.1 ag
   have:=List.mem_range.1 hk
   have:=D1 m p
   exact⟨k,AK,rfl⟩
  have p1:(j6 i (elems m p)).Pairwise (fun x y=>x.key<y.key):=by
   unfold j6;rw[List.pairwise_map];exact List.Pairwise.imp (fun {a b} Ey=>by simp only[cX.key];omega) List.pairwise_lt_range
  have aoz:(jA i p).Pairwise (fun x y=>x.key<y.key):=by
   unfold jA;split
   .exact List.pairwise_singleton _ _
   .exact List.Pairwise.nil
  simp only[j1];refine⟨List.pairwise_append.2 ⟨List.pairwise_append.2 ⟨aoz,p1,fun a aV b ao=>?_⟩,h1,fun a aV b ao=>?_⟩,fun x ag=>?_⟩
  .obtain rfl:=aO a aV;obtain⟨k,_,rfl⟩:=aG b ao;simp only[cX.key];omega
  .have dm:=I b ao;rcases List.mem_append.1 aV with aV | aV
   .obtain rfl:=aO a aV;simp only[cX.key];simp at dm;unfold cX.key at dm;omega
   .obtain⟨k,hk,rfl⟩:=aG a aV;unfold cX.key at dm ⊢;simp at dm ⊢;omega
  .rcases List.mem_append.1 ag with ag | ag
   .rcases List.mem_append.1 ag with ag | ag
    .obtain rfl:=aO x ag;simp[cX.key]
    .obtain⟨k,hk,rfl⟩:=aG x ag;unfold cX.key;simp;omega
   .have:=I x ag
    simp at this;omega
theorem alQ(m:Model):chain ⟨-1,0⟩ (insts m):=by
 obtain⟨h1,I⟩:=ZN (m:=m) m.procs 0;refine VW _ _ (List.pairwise_cons.2 ⟨fun x ag=>?_,h1⟩)
 have:=I x ag
 unfold cX.key at this ⊢;simp at this ⊢;omega
theorem Xd(m:Model):∀(l:C_ cX) (i:Nat) (a:cX) (out:C_ Ref),chain a l->(l.foldl (mM m) ((i:Int) - 1,a,out)).2.2=out++nX m l i
 | [],_,_,_,_=>by simp[nX]
 | x :: r,i,a,out,h=>by
  simp only[List.foldl_cons];have e:mM m ((i:Int) - 1,a,out) x=(((i+1:Nat):Int) - 1,x,out++refsOf i (qJ m x)):=by
   unfold mM;simp only;rw[if_pos h.1];congr 1
   .omega
   .congr 2;congr 1;omega
  rw[e,Xd m r (i+1) x _ h.2];simp[nX]
theorem apJ(m:Model):((insts m).foldl (mM m) (-1,⟨-1,0⟩,[])).2.2=refs m:=by
 have:=Xd m (insts m) 0 ⟨-1,0⟩ [] (alQ m)
 simpa[refs] using this
structure vB(m:Model):Prop where
 procs:m.procs.length<=30
 cQ:∀p∈m.procs,p.cQ.length<=30
theorem QN{m:Model}(h:vB m)(x:cX):qJ m x<=30:=by
 unfold qJ;split
 .rename_i p au;refine h.cQ p ?_;unfold nth at au;by_cases af:0<=x.proc
  .rw[if_pos af] at au;exact List.mem_of_getElem? au
  .rw[if_neg af] at au;cases au
 .omega
theorem Xc{m:Model}(h:vB m):∀(l:C_ cX) (s:Int×cX×C_ Ref),s.1<=(l.foldl (mM m) s).1/\(l.foldl (mM m) s).1<=s.1+l.length/\(l.foldl (mM m) s).2.2.length<=s.2.2.length+30*l.length
 | [],s=>Bs
 | x :: r,s=>by
  obtain⟨h1,I,ab⟩:=Xc h r (mM m s x);simp only[List.foldl_cons,List.length_cons];have az:=QN h x;have bB:s.1<=(mM m s x).1/\(mM m s x).1<=s.1+1:=by unfold mM;simp only;split<;>omega
  have aJ:(mM m s x).2.2.length<=s.2.2.length+30:=by unfold mM refsOf;simp only[List.length_append,List.length_map,List.length_range];omega
  omega
theorem abN{m:Model}(h:vB m):∀(l:C_ cX) (i:Nat),(nX m l i).length<=30*l.length
 | [],_=>by simp[nX]
 | x :: r,i=>by
  have:=abN h r (i+1)
  have:=QN h x
  simp only[nX,List.length_append,refsOf,List.length_map,List.length_range,List.length_cons];omega
theorem ve{m:Model}(h:vB m):(refs m).length<=4500:=by
 have:=abN h (insts m) 0
 have:=tH m
 have:=h.procs
 unfold refs;omega
structure UF(m:Model)(r:Ref)(i p k:Nat):Prop where
 U:i<(insts m).length
 pk:r.inst=i
 ip:(insts m)[i].proc=p
 au:p<m.procs.length
 sC:r.cmd=k
 hk:k<m.procs[p].cQ.length
theorem abO{m:Model}:∀(l:C_ cX) (i0:Nat) (r:Ref),r∈nX m l i0->∃j,∃aF:j<l.length,r.inst=((i0+j:Nat):Int)/\∃k:Nat,k<qJ m l[j]/\r.cmd=k
 | [],_,_,h=>by simp[nX] at h
 | x :: l,i0,r,h=>by
  simp only[nX,List.mem_append] at h;rcases h with h | h
  .unfold refsOf at h;obtain⟨k,hk,rfl⟩:=List.mem_map.1 h;exact⟨0,Bs,Bs,k,by simpa using hk,rfl⟩
  .obtain⟨j,aF,h1,k,I,ab⟩:=abO l (i0+1) r h;exact⟨j+1,by simpa using aF,by rw[h1];congr 1;omega,k,by simpa using I,ab⟩
theorem apI{m:Model}{r:Ref}(h:r∈refs m):∃i p k,UF m r i p k:=by
 obtain⟨j,aF,h1,k,I,ab⟩:=abO _ _ _ h;have ag:=rC (insts m)[j] (GR _);obtain⟨p,au⟩:=QA ag.aR;have sm:p<m.procs.length:=by have:=ag.U;omega
 refine⟨j,p,k,aF,by rw[h1];simp,au,sm,ab,?_⟩;unfold qJ at I;rw[au,iM AK AK] at I;simpa using I
end o
end
section
namespace ba
open Go Go.RowKit
def Vr(cD t:F_)(sz b:Nat)(z:Array B_):zc:=⟨13,[.tmp 4],
 (.jg (.dv [bP 2 (.box cD (ad 0)),fc 4 (.const (.slice none 0 0))])
 (.ub (.jg (.dv [aq 6 1])
 (.cx 0 (.tY (ad 6) 7 (.dv [bP 5 (.new t (.agg z)),e8 (.gY sz (ad 5) (ad 7))]) (.cx 1 (.dv [bk 8 2,dQ 9 (.di sz (ad 5)),bP 10 (.gb t 1 sz z.toList [(0,(ad 9))]),bP 11 (.app cD t sz b (ad 8) (ad 10)),ys 2 11])))))
 (.seq (.dv [bk 12 2,aq 4 12])
 .ret)))⟩
theorem aao:∀(vs pre post:C_ B_),vs.length<=post.length->(vs.zipIdx pre.length).foldl (fun cs (x:B_×Nat)=>cs.set (0+x.2) x.1) (pre++post)=pre++vs++post.drop vs.length
 | [],pre,post,_=>Bs
 | v :: vs,pre,[],h=>by simp at h
 | v :: vs,pre,p :: post,h=>by
  have fh:=aao vs (pre++[v]) post (by simpa using h);simp only[List.length_append,List.length_cons,List.length_nil] at fh;simp only[List.zipIdx_cons,List.foldl_cons,List.length_cons,List.drop_succ_cons];rw[show(pre++p :: post).set (0+pre.length) v=(pre++[v])++post from Bs,fh];simp
theorem ahq{S:Fr}{sz:Nat}{z cs:C_ B_}{t:Nat}(aB:S t = .agg cs.toArray)(an:cs.length=sz)(bI:z.length=sz)(af:0<sz):fa S ((List.range 1).map fun i=>(i*sz,sz)) [(0,.tmp t)] z=some cs:=by
 have e:lay z 0 (.agg cs.toArray)=cs:=by
  have:=aao cs [] z AK
  simp only[List.nil_append,List.length_nil] at this;unfold lay;simp only[Value.cells];rw[this,AF0 AK,AF1]
 have bB:(aX S (.tmp t)).cells.size=sz:=by
  show(S t).cells.size=sz;rw[aB];simp[Value.cells,an]
 have aJ:((List.range 1).map fun i=>(i*sz,sz))[0]? = some (0,sz):=Bs
 unfold fa;simp only[aJ];rw[if_pos ⟨bB,AK⟩];unfold fa;show some (lay z 0 (S t))=_;rw[aB,e]
section
variable{α:Type}{P:Program}{f:FuncId}{t cD:TypeId}{sz b:Nat}{enc:α->List Value}{z:Array Value}
theorem aek(hm:P.follows .mixedOrders=true)(dW:zu P f=some (Vr cD t sz b z))(bI:z.size=sz)(hlen:∀x,(enc x).length=sz)(wI:∀x,∀u∈enc x,u.oneCell'=true)(dr:0<sz)
  {jq:Nat}{hU:Array B_}{hV:Nat}{nY:C_ F_}{od qh:C_ α->Prop}{N:Nat}{w0 w:A_}(dh:okF P jq=true)
  (tD:SeqStopsK Fence.wide 0 P jq hU (fun x=>#[.agg (enc x).toArray]) (mV hV nY) od qh N w0)(he:Ext w0 w)(Ab:hV<=w.heap.size)(aB:t∉nY)(Fp:cD∉nY)(cz:cD≠t)(fM:N*b<=140737488355328)(I1:N<=maxLen) :
  aY P f #[.slice none 0 0,.func (.func jq) #[] hU] w fun v w'=>(∃xs,od xs/\aS enc t sz w.heap.size w' v xs)/\Ext w w':=by
 refine gC.start hm dW (args:=[_,_]) (Nat.le_of_ble_eq_true rfl) ?_;dsimp only[Vr,ad,cf,iO,bA,dQ,bP,bY,e8,b3,aq,fc,bd,bk,dq,ys,jP];refine gC.jg ?_;refine aa ?_;intro w1 bw cM ai al;refine aa ?_;refine gC.ub (gC.jg ?_);simp -dsimp only[c7,cB,Nat.reduceAdd,Nat.reduceEqDiff,reduceIte,reduceCtorEq,df];refine gC.cx (gC.tY (w0:=w0) (enc:=fun x=>.agg (enc x).toArray) (by simp[de,bN]) dh tD (he.trans ai) (mV.ok nY (QB Ab ai.size))
  (fun pre W=>Mod (fun k=>k=bw) w1 W/\∃(aQ:H_ Addr) (n c:Nat),W.heap[bw]? = some (.cells #[.slice aQ n c] cD)/\aS enc t sz w1.heap.size W (.slice aQ n c) pre) ?_ ⟨Mod.refl _ _,none,0,0,al,aS.nil _ _ _ _ _⟩ ?_ ?_)
 .rintro pre W b8 row ⟨hm,aQ,n,c,ao,aO⟩ aK aP;refine⟨hm.high aK fun r e=>(aP r e).1,aQ,n,c,?_,aO.mod (Mod.grown (A:=fun k=>row=some k) aK fun k e=>e) fun k hk a=>?_⟩
  .rw[aK.block bw (cA ao) fun e=>?_]
   .exact ao
   .obtain⟨ae,h1,I⟩:=(aP bw e.symm).2;rw[ao] at h1;injection h1 with h1;subst h1;cases I
  .obtain⟨cur,ab⟩:=aO.cx k hk;obtain⟨ae,h1,I⟩:=(aP k a).2;rw[ab] at h1;injection h1 with h1;subst h1;cases I
 .rintro pre x W ⟨hm,aQ,n,c,o5,aO⟩ cg;have YQ:=cA al;have at4:=hm.size
  try (simp -dsimp only[c7,cB,Nat.reduceAdd,Nat.reduceEqDiff,reduceIte,reduceCtorEq,df])
  refine O_ fun iU dR kT aI b9=>?_
  try (simp -dsimp only[c7,cB,Nat.reduceAdd,Nat.reduceEqDiff,reduceIte,reduceCtorEq,df])
  refine T_ b9 bI (by simpa using hlen x) (by simpa using wI x) fun e5 hw av=>?_
  try (simp -dsimp only[c7,cB,Nat.reduceAdd,Nat.reduceEqDiff,reduceIte,reduceCtorEq,df])
  have aJ:=hw.ext aI kT;refine⟨aJ.keeps _,aJ.iB AK,fun og wN=>?_⟩;obtain⟨l,aC,lx,js⟩:=wN.mod;have bl:=wN.cells av;have fe:=wN.cells (aJ.obj o5);have dT:aS enc t sz w1.heap.size og (.slice aQ n c) pre:=(aO.ext aJ).mod js fun k hk a=>by
   subst a;obtain⟨cur,ab⟩:=(aO.ext aJ).cx k hk;exact lx _ _ _ ab
  try (simp -dsimp only[c7,cB,Nat.reduceAdd,Nat.reduceEqDiff,reduceIte,reduceCtorEq,df])
  refine _C fe (Ext.refl _) rfl ?_
  try (simp -dsimp only[c7,cB,Nat.reduceAdd,Nat.reduceEqDiff,reduceIte,reduceCtorEq,df])
  refine Z_ (gT bl) (hlen x) ?_
  try (simp -dsimp only[c7,cB,Nat.reduceAdd,Nat.reduceEqDiff,reduceIte,reduceCtorEq,df])
  refine Y_ (ahq (cs:=enc x) (by simp[bN]) (hlen x) (by simpa using bI) dr) fun Bn r4 yf ax bp=>?_
  try (simp -dsimp only[c7,cB,Nat.reduceAdd,Nat.reduceEqDiff,reduceIte,reduceCtorEq,df])
  have akd:pre.length+1<=N:=cg;refine _X (ys:=[x]) (dT.ext ax) hlen (by simpa using gT bp) rfl wI (QB (AI9 b akd) fM) (by simp only[List.length_cons,List.length_nil];omega) (by have:=js.size;have:=ax.size;have:=aJ.size;omega) fun b0 qj dF hg kB=>?_;obtain⟨kY,pI,rfl,_⟩:=dF.form;have ff:=ax.obj fe;have EC:qj.heap[bw]? = some (.cells #[.slice aQ n c] cD):=by
   rw[hg.block bw (cA ff) fun e=>?_]
   .exact ff
   .obtain⟨cur,ab⟩:=(dT.ext ax).cx bw e.symm;rw[ff] at ab;injection ab with ab;injection ab with _ ab;exact cz ab
  try (simp -dsimp only[c7,cB,Nat.reduceAdd,Nat.reduceEqDiff,reduceIte,reduceCtorEq,df])
  refine _W EC Bs rfl fun lF gV cb=>?_
  try (simp -dsimp only[c7,cB,Nat.reduceAdd,Nat.reduceEqDiff,reduceIte,reduceCtorEq,df])
  have fO:∀k,(Value.slice aQ n c).ownBlock=some k->w1.heap.size<=k:=fun k hk=>(dT.lt k hk).1;have amP:Mod (fun k=>(Value.slice aQ n c).ownBlock=some k\/k=bw) Bn lF:=(Mod.grown (A:=fun k=>(Value.slice aQ n c).ownBlock=some k) hg fun k e=>e).comp (A':=fun k=>k=bw) (gV.mod rfl) (fun _ _ a=>.inl a) (fun _ _ a=>.inr a);have QG:Mod (fun k=>(Value.slice aQ n c).ownBlock=some k\/k=bw) og lF:=ax.mod.comp amP (A:=fun _=>False) (fun _ _ h=>h.elim) (fun _ _ h=>h);refine⟨QG.keeps fun k hk a=>?_,QG.iB (by have:=js.size;have:=aJ.size;omega) (fun k hk a=>?_) (fun k kN hY uG a hk uV=>?_),?_,kY,_,pI,cb,?_⟩
  .rcases a with a | a
   .obtain⟨cur,ab⟩:=dT.cx k a;exact⟨_,_,_,ab⟩
   .subst a;exact⟨_,_,_,fe⟩
  .rcases a with a | a
   .have:=fO k a;have:=ai.size;omega
   .omega
  .rcases a with a | a
   .obtain⟨cur,ab⟩:=dT.cx k a;rw[ab] at hk;injection hk with hk;injection hk with _ hk;subst hk;exact aB uV
   .subst a;rw[fe] at hk;injection hk with hk;injection hk with _ hk;subst hk;exact Fp uV
  .refine(hm.comp (B:=fun k=>k=bw) (A':=fun k=>(Value.slice aQ n c).ownBlock=some k\/k=bw\/k=l) ?_ (fun _ _ a=>a) fun k hk a=>?_)
   .exact(aJ.mod (A:=fun _=>False)).comp (js.comp QG (fun _ _ a=>(Or.inr (Or.inr a):_\/_\/_)) (fun _ _ a=>by rcases a with a | a;exact .inl a;exact .inr (.inl a))) (fun _ _ h=>h.elim) (fun _ _ h=>h)
   .rcases a with a | a | a
    .have:=fO k a;omega
    .exact a
    .omega
  .refine dF.mod (gV.mod (A:=fun k=>k=bw) rfl) fun k hk a=>?_;subst a;obtain⟨cur,ab⟩:=dF.cx k hk;rw[EC] at ab;injection ab with ab;injection ab with _ ab;exact cz ab
 .rintro D xs W im cc ⟨hm,aQ,n,c,o5,aO⟩ bb;simp -dsimp only[c7,cB,Nat.reduceAdd,Nat.reduceEqDiff,reduceIte,reduceCtorEq,df];refine _C o5 (Ext.refl _) rfl ?_;simp -dsimp only[c7,cB,Nat.reduceAdd,Nat.reduceEqDiff,reduceIte,reduceCtorEq,df];refine gC.ret bb ?_;simp -dsimp only[c7,cB,Nat.reduceAdd,Nat.reduceEqDiff,reduceIte,reduceCtorEq,df];have bB:Ext w W:=hm.ext ai fun k hk e=>AK
  refine⟨⟨xs,cc,(aO.mod (A:=fun k=>k=D) ((dy.fF _ _ _).mod rfl) fun k hk a=>?_).low ai.size⟩,bB.fF (QB ai.size im) _⟩;subst a;obtain⟨cur,ab⟩:=aO.cx k hk;rw[bb] at ab;injection ab with ab;cases ab
end
end ba
end