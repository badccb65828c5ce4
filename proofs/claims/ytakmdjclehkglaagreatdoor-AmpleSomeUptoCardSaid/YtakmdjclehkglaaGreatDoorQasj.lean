/- Parts. -/
import Derived.Test.YtakmdjclehkglaaGreatDoorQasi
import Derived.Maps.RangeRun
set_option linter.all false
set_option maxRecDepth 8000
set_option maxHeartbeats 16000000
section
namespace Go.Proofs.R
open Go Go.RowKit ba
theorem RB(n:Int)(cs:C_ B_)(s:o.Scope)(w:A_)(h:o.fZ w cs s) :
  DD F.Kx #[.I n,.agg cs.toArray] w fun v w'=>v = .bool (o.hC n s).2/\Ext w w':=by
 obtain⟨a0,bx,db,c1,a2,c2,a3,bu,a4,bC,rfl,af,h1,I,ab,aH,e2,eE,eJ,er,eH⟩:=h.form;refine br E.Kx ?_;refine aA ?_;refine O_ fun w1 b ao ai al=>?_
 (repeat' (refine aA ?_;first | (refine I_ (fun _=>?_) (fun _=>?_)<;>try (exfalso;omega)) | refine N_ (fun _=>?_) (fun _=>?_)))<;>try refine aA ?_
 all_goals
  refine⟨?_,fK⟩;congr 1;unfold o.hC
  (repeat' split)<;>first | rfl | (exfalso;omega) | (simp;omega)
def kindOf(n:Int):Int:=if n=0 then 0 else 1+n
theorem J3(n:Int)(w:A_)(h:0<=n/\n<=4611686018427387904):DD F.FN #[.I n] w fun v w'=>v = .I (kindOf n)/\w'=w:=by
 refine br E.FN ?_
 (repeat' (refine aA ?_;first | (refine I_ (fun _=>?_) (fun _=>?_)<;>try (exfalso;omega)) | refine N_ (fun _=>?_) (fun _=>?_)))<;>try refine aA ?_
 all_goals
  refine⟨?_,aL⟩;congr 1;unfold kindOf;split<;>first | rfl | (exfalso;omega)
theorem aad{n:Int}{s:o.Scope}(h:(o.hC n s).2=true):0<=n/\n<=s.scalars.length/\(o.hC n s).1=kindOf n:=by
 unfold o.hC kindOf at *
 (repeat' split at h) <;> (repeat' split)<;>first | (cases h;done) | (refine⟨AK,AK,?_⟩;first | rfl | omega) | (exfalso;omega)
theorem Gw(v:B_)(l:C_ o.Var)(n:Int)(cs:C_ B_)(s:o.Scope)(w:A_)(aC:o.h3 w v l)(h:o.fZ w cs s) :
  DD F.Kr #[v,.I n,.agg cs.toArray] w fun v w' =>
   (∃x:o.Var,v = .tuple #[.agg x.enc.toArray,.bool (o.gn l n s).2.2]/\((o.gn l n s).2.2=true->o.nth l n=some x))/\Ext w w':=by
 obtain⟨a0,bx,db,c1,a2,c2,a3,bu,a4,bC,rfl,_⟩:=h.form;obtain⟨aQ,cap,rfl,hlen⟩:=aC.form;refine br E.Kr ?_;refine aA ?_;refine O_ fun w1 b ao ai al=>?_;refine aA ?_;refine O_ fun aD bS dm aj av=>?_;have he:=ai.trans aj;have ep:=aj.obj al;refine aA ?_;apply I_<;>intro g1
 .have hk:(o.gn l n s).2.2=false:=by rw[o.gn,o.gX (.inl g1)]
  refine aA ?_;intro aN ah;refine aA ?_;refine W_ (cs:=(⟨⟨#[]⟩,0,0,0,0,0⟩:o.Var).enc) (by simp[fa,o.Var.enc]) ?_;refine aA ?_;refine T_ (cs:=(⟨⟨#[]⟩,0,0,0,0,0⟩:o.Var).enc.toArray) (ah.obj av) rfl rfl (by simp[o.Var.enc,Value.oneCell']) fun aU dE bp=>?_;refine aA ?_;refine R_ (c:=o.Var.enc _) bp (Ext.refl _) rfl ?_;refine aA ?_;exact⟨⟨_,by rw[hk],by rw[hk];intro h;cases h⟩,dE.ext (he.trans ah) (by have:=ai.size;omega)⟩
 refine aA ?_;apply I_<;>intro g2
 .have hk:(o.gn l n s).2.2=false:=by rw[o.gn,o.gX (.inr AK)]
  refine aA ?_;intro aN ah;refine aA ?_;refine W_ (cs:=(⟨⟨#[]⟩,0,0,0,0,0⟩:o.Var).enc) (by simp[fa,o.Var.enc]) ?_;refine aA ?_;refine T_ (cs:=(⟨⟨#[]⟩,0,0,0,0,0⟩:o.Var).enc.toArray) (ah.obj av) rfl rfl (by simp[o.Var.enc,Value.oneCell']) fun aU dE bp=>?_;refine aA ?_;refine R_ (c:=o.Var.enc _) bp (Ext.refl _) rfl ?_;refine aA ?_;exact⟨⟨_,by rw[hk],by rw[hk];intro h;cases h⟩,dE.ext (he.trans ah) (by have:=ai.size;omega)⟩
 obtain⟨i,rfl⟩:=QA (show 0<=n by omega);have U:i<l.length:=AK
 have az:o.nth l (i:Int)=some l[i]:=by rw[o.iM AK AK];simp only[Int.toNat_natCast]
 obtain⟨a,rfl⟩:=aC.addr;refine aA ?_;refine R_ (c:=[_,_,_,_,_,_]) ep (Ext.refl _) rfl ?_;refine aA ?_;refine P_ _ (fun w' e=>RB _ _ s w' (h.ext (he.trans e))) ?_;refine aA ?_;refine N_ (fun g3=>?_) (fun g3=>?_);rotate_left
 .have hk:(o.gn l i s).2.2=false:=by rw[o.gn,az];simp only[g3,Bool.false_and]
  refine aA ?_;intro aN ah;refine aA ?_;refine W_ (cs:=(⟨⟨#[]⟩,0,0,0,0,0⟩:o.Var).enc) (by simp[fa,o.Var.enc]) ?_;refine aA ?_;refine T_ (cs:=(⟨⟨#[]⟩,0,0,0,0,0⟩:o.Var).enc.toArray) (ah.obj av) rfl rfl (by simp[o.Var.enc,Value.oneCell']) fun aU dE bp=>?_;refine aA ?_;refine R_ (c:=o.Var.enc _) bp (Ext.refl _) rfl ?_;refine aA ?_;exact⟨⟨_,by rw[hk],by rw[hk];intro h;cases h⟩,dE.ext (he.trans ah) (by have:=ai.size;omega)⟩
 refine aA ?_;refine R_ (c:=[_,_,_,_,_,_]) ep (Ext.refl _) rfl ?_;refine aA ?_;refine P_ _ (fun w' e=>RB _ _ s w' (h.ext (he.trans e))) ?_;refine aA ?_;cases g4:(o.hC l[i].over s).2 with
 | false =>
  have hk:(o.gn l i s).2.2=false:=by rw[o.gn,az];simp only[g4,Bool.and_false]
  refine aA ?_;intro aN ah;refine aA ?_;refine W_ (cs:=(⟨⟨#[]⟩,0,0,0,0,0⟩:o.Var).enc) (by simp[fa,o.Var.enc]) ?_;refine aA ?_;refine T_ (cs:=(⟨⟨#[]⟩,0,0,0,0,0⟩:o.Var).enc.toArray) (ah.obj av) rfl rfl (by simp[o.Var.enc,Value.oneCell']) fun aU dE bp=>?_;refine aA ?_;refine R_ (c:=o.Var.enc _) bp (Ext.refl _) rfl ?_;refine aA ?_;exact⟨⟨_,by rw[hk],by rw[hk];intro h;cases h⟩,dE.ext (he.trans ah) (by have:=ai.size;omega)⟩
 | true =>
  have hk:(o.gn l i s).2.2=true:=by rw[o.gn,az];simp only[g3,g4,Bool.and_true]
  refine aA ?_;intro aN ah;refine aA ?_;refine T_ (cs:=l[i].enc.toArray) (ah.obj av) rfl rfl (by simp[o.Var.enc,Value.oneCell']) fun aU dE bp=>?_;refine aA ?_;refine R_ (c:=o.Var.enc _) bp (Ext.refl _) rfl ?_;refine aA ?_;exact⟨⟨_,by rw[hk],fun _=>az⟩,dE.ext (he.trans ah) (by have:=ai.size;omega)⟩
theorem abE(n:Int)(cs:C_ B_)(s:o.Scope)(w:A_)(h:o.fZ w cs s) :
  DD F.Kn #[.I n,.agg cs.toArray] w fun v w' =>
   (∃x:o.dB,v = .tuple #[.agg x.enc.toArray,.bool (decide ((o.kD n s).2=0))]/\((o.kD n s).2=0->o.nth s.aw n=some x))/\Ext w w':=by
 obtain⟨a0,bx,db,c1,a2,c2,a3,bu,a4,bC,rfl,af,h1,I,ab,aH,e2,eE,eJ,er,eH⟩:=h.form;refine br E.Kn ?_;refine aA ?_;refine O_ fun w1 b ao ai al=>?_;refine aA ?_;refine O_ fun aD bS dm aj av=>?_;have he:=ai.trans aj;have ep:=aj.obj al;refine aA ?_;apply I_<;>intro g1
 .have hk:(o.kD n s).2=8:=by rw[o.kD,o.gX (.inl g1)]
  refine aA ?_;intro aN ah;refine aA ?_;refine W_ (cs:=(⟨⟨#[]⟩,0,0,0,0,false⟩:o.dB).enc) (by simp[fa,o.dB.enc]) ?_;refine aA ?_;refine T_ (cs:=(⟨⟨#[]⟩,0,0,0,0,false⟩:o.dB).enc.toArray) (ah.obj av) rfl rfl (by simp[o.dB.enc,Value.oneCell']) fun aU dE bp=>?_;refine aA ?_;refine R_ (c:=o.dB.enc _) bp (Ext.refl _) rfl ?_;refine aA ?_;exact⟨⟨_,by rw[hk];rfl,by rw[hk];intro h;cases h⟩,dE.ext (he.trans ah) (by have:=ai.size;omega)⟩
 refine aA ?_;apply I_<;>intro g2
 .have hk:(o.kD n s).2=8:=by rw[o.kD,o.gX (.inr AK)]
  refine aA ?_;intro aN ah;refine aA ?_;refine W_ (cs:=(⟨⟨#[]⟩,0,0,0,0,false⟩:o.dB).enc) (by simp[fa,o.dB.enc]) ?_;refine aA ?_;refine T_ (cs:=(⟨⟨#[]⟩,0,0,0,0,false⟩:o.dB).enc.toArray) (ah.obj av) rfl rfl (by simp[o.dB.enc,Value.oneCell']) fun aU dE bp=>?_;refine aA ?_;refine R_ (c:=o.dB.enc _) bp (Ext.refl _) rfl ?_;refine aA ?_;exact⟨⟨_,by rw[hk];rfl,by rw[hk];intro h;cases h⟩,dE.ext (he.trans ah) (by have:=ai.size;omega)⟩
 obtain⟨i,rfl⟩:=QA (show 0<=n by omega);have U:i<s.aw.length:=AK
 have az:o.nth s.aw (i:Int)=some s.aw[i]:=by rw[o.iM AK AK];simp only[Int.toNat_natCast]
 obtain⟨a,rfl⟩:=I.addr;refine aA ?_;refine R_ (c:=[_,_,_,_,_,_]) ep (Ext.refl _) rfl ?_;refine aA ?_;refine P_ _ (fun w' e=>RB _ _ s w' (h.ext (he.trans e))) ?_;refine aA ?_;cases g4:(o.hC s.aw[i].scalar s).2 with
 | false =>
  have hk:(o.kD i s).2=8:=by rw[o.kD,az];simp only[g4,Bool.false_eq_true,if_false]
  refine aA ?_;intro aN ah;refine aA ?_;refine W_ (cs:=(⟨⟨#[]⟩,0,0,0,0,false⟩:o.dB).enc) (by simp[fa,o.dB.enc]) ?_;refine aA ?_;refine T_ (cs:=(⟨⟨#[]⟩,0,0,0,0,false⟩:o.dB).enc.toArray) (ah.obj av) rfl rfl (by simp[o.dB.enc,Value.oneCell']) fun aU dE bp=>?_;refine aA ?_;refine R_ (c:=o.dB.enc _) bp (Ext.refl _) rfl ?_;refine aA ?_;exact⟨⟨_,by rw[hk];rfl,by rw[hk];intro h;cases h⟩,dE.ext (he.trans ah) (by have:=ai.size;omega)⟩
 | true =>
  have hk:(o.kD i s).2=0:=by rw[o.kD,az];simp only[g4,if_true]
  refine aA ?_;intro aN ah;refine aA ?_;refine T_ (cs:=s.aw[i].enc.toArray) (ah.obj av) rfl rfl (by simp[o.dB.enc,Value.oneCell']) fun aU dE bp=>?_;refine aA ?_;refine R_ (c:=o.dB.enc _) bp (Ext.refl _) rfl ?_;refine aA ?_;exact⟨⟨_,by rw[hk];rfl,fun _=>az⟩,dE.ext (he.trans ah) (by have:=ai.size;omega)⟩
end Go.Proofs.R
end
section
namespace Go.Proofs.R
open Go Go.RowKit ba
theorem Qv{l:C_ o.Var}{n:Int}{s:o.Scope}{x:o.Var}(h:(o.gn l n s).2.2=true)(ag:o.nth l n=some x) :
  (o.gn l n s).1=kindOf x.scalar/\(o.gn l n s).2.1=kindOf x.over/\0<=x.scalar/\x.scalar<=s.scalars.length/\0<=x.over/\x.over<=s.scalars.length:=by
 unfold o.gn at h ⊢;rw[ag] at h ⊢;simp only[Bool.and_eq_true] at h ⊢;obtain⟨db,a2,a3⟩:=aad h.1;obtain⟨bw,bS,bW⟩:=aad h.2;exact⟨a3,bW,db,a2,bw,bS⟩
theorem apO(x:o.Node)(cs:C_ B_)(s:o.Scope)(w:A_)(ag:x.ok)(h:o.fZ w cs s)(mG:1<=x.op/\x.op<=8)(ab:x.op≠3)(t:Int) :
  DD F.Kv #[.agg x.enc.toArray,.agg cs.toArray] w fun v w'=>v = .tuple #[.I (o.jw x s t).1,.I (o.jw x s t).2]/\Ext w w':=by
 obtain⟨a0,bx,db,c1,a2,c2,a3,bu,a4,bC,rfl,pj,cZ,dt,ef,gP,e2,eE,eJ,er,eH⟩:=h.form;refine br E.Kv ?_;refine aA ?_;refine O_ fun w1 bw cM ai al=>?_;refine aA ?_;refine O_ fun aD bS dm aj av=>?_;have he:=ai.trans aj;have cE:aD.heap[bw]? = some (.cells #[.I x.op,.I x.n] T.h):=aj.obj al;clear al;refine aA ?_;apply I_<;>intro g1
 .have hk:o.jw x s t=if o.within x.n then (0,0) else (0,10):=by rw[o.jw,if_pos g1]
  (repeat' (refine aA ?_;first | (refine I_ (fun _=>?_) (fun _=>?_)<;>try (exfalso;omega)) | refine N_ (fun _=>?_) (fun _=>?_)))<;>try refine aA ?_
  all_goals
   refine⟨?_,fK⟩;rw[hk];unfold o.within;split<;>first | rfl | (rename_i c3;simp at c3;exfalso;omega)
 by_cases aG:x.op=2\/x.op=4
 .have hk:o.jw x s t=(let q:=o.gn (if x.op=4 then s.locals else s.vars) x.n s;if q.2.2=false then (0,8) else if (x.op=3/\(q.2.1=0\/t≠q.2.1))\/(x.op≠3/\q.2.1≠0) then (0,9) else (q.1,0)):=by
   rw[o.jw,if_neg g1,if_pos AK]
  by_cases g4:x.op=4
  .rw[if_pos g4] at hk;rw[hk];refine aA ?_;refine R_ (c:=[_,_,_,_,_,_]) av (Ext.refl _) rfl ?_;refine aA ?_;refine J_ (Gw _ s.locals x.n _ s aD (gP.ext he) (h.ext he)) ?_;rintro _ aN ⟨⟨y,rfl,bV⟩,ah⟩;have dh:(o.gn s.locals x.n s).2.2=true->_:=fun g=>Qv g (bV g);clear bV hk;generalize o.gn s.locals x.n s=q at dh ⊢;obtain⟨yJ,AH,Rf⟩:=q;refine aA ?_;refine _M (vs:=y.enc) (fun _=>by simp -dsimp only[c7,cB,Nat.reduceAdd,Nat.reduceEqDiff,reduceIte,reduceCtorEq,df]) rfl rfl (by simp[o.Var.enc,Value.oneCell']) fun aU cC ff ax bp=>?_;have iA:aU.heap[cC]? = some (.cells #[.string y.name,.I y.scalar,.I y.over,.I y.aR,.I y.U,.I y.init] T.n):=bp;clear bp;refine aA ?_;refine N_ (fun g5=>?_) (fun g5=>?_);rotate_left
   .refine aA ?_;simp only[g5,if_true];exact cd
   obtain⟨gz,z2,z3,z4,z5,A1⟩:=dh g5;have yo:kindOf y.over=0↔y.over=0:=by unfold kindOf;split<;>omega
   have AY:yJ=kindOf y.scalar:=gz;have AZ:AH=kindOf y.over:=z2;refine aA ?_;apply I_<;>intro g6
   .refine aA ?_;refine J_ (J3 y.scalar aU AK) ?_;rintro _ _ ⟨rfl,rfl⟩;refine aA ?_;simp only[g5,Bool.true_eq_false,if_false,AY,AZ];rw[if_neg (by rw[ne_eq,yo];omega)];exact cd
   .refine aA ?_;simp only[g5,Bool.true_eq_false,if_false,AY,AZ];rw[if_pos (.inr ⟨ab,by rw[ne_eq,yo];exact g6⟩)];exact cd
  .rw[if_neg g4] at hk;rw[hk];refine aA ?_;refine R_ (c:=[_,_,_,_,_,_]) av (Ext.refl _) rfl ?_;refine aA ?_;refine J_ (Gw _ s.vars x.n _ s aD (cZ.ext he) (h.ext he)) ?_;rintro _ aN ⟨⟨y,rfl,bV⟩,ah⟩;have dh:(o.gn s.vars x.n s).2.2=true->_:=fun g=>Qv g (bV g);clear bV hk;generalize o.gn s.vars x.n s=q at dh ⊢;obtain⟨yJ,AH,Rf⟩:=q;refine aA ?_;refine _M (vs:=y.enc) (fun _=>by simp -dsimp only[c7,cB,Nat.reduceAdd,Nat.reduceEqDiff,reduceIte,reduceCtorEq,df]) rfl rfl (by simp[o.Var.enc,Value.oneCell']) fun aU cC ff ax bp=>?_;have iA:aU.heap[cC]? = some (.cells #[.string y.name,.I y.scalar,.I y.over,.I y.aR,.I y.U,.I y.init] T.n):=bp;clear bp;refine aA ?_;refine N_ (fun g5=>?_) (fun g5=>?_);rotate_left
   .refine aA ?_;simp only[g5,if_true];exact cd
   obtain⟨gz,z2,z3,z4,z5,A1⟩:=dh g5;have yo:kindOf y.over=0↔y.over=0:=by unfold kindOf;split<;>omega
   have AY:yJ=kindOf y.scalar:=gz;have AZ:AH=kindOf y.over:=z2;refine aA ?_;apply I_<;>intro g6
   .refine aA ?_;refine J_ (J3 y.scalar aU AK) ?_;rintro _ _ ⟨rfl,rfl⟩;refine aA ?_;simp only[g5,Bool.true_eq_false,if_false,AY,AZ];rw[if_neg (by rw[ne_eq,yo];omega)];exact cd
   .refine aA ?_;simp only[g5,Bool.true_eq_false,if_false,AY,AZ];rw[if_pos (.inr ⟨ab,by rw[ne_eq,yo];exact g6⟩)];exact cd
 have hk:o.jw x s t=o.mJ x s:=by rw[o.jw,if_neg g1,if_neg AK]
 rw[hk];clear hk;refine aA ?_;apply I_<;>intro g5
 ·(repeat' (refine aA ?_;first | (refine I_ (fun _=>?_) (fun _=>?_)<;>try (exfalso;omega)) | refine N_ (fun _=>?_) (fun _=>?_)))<;>try refine aA ?_
  all_goals
   refine⟨?_,fK⟩;rw[o.mJ,if_pos g5];split<;>first | rfl | (exfalso;omega)
 refine aA ?_;apply I_<;>intro g6
 .have hk:o.mJ x s=o.kD x.n s:=by rw[o.mJ,if_neg g5,if_pos g6]
  rw[hk];have zY:(o.kD x.n s).1=0/\((o.kD x.n s).2=0\/(o.kD x.n s).2=8):=by
   unfold o.kD; (repeat' split)<;>simp
  refine aA ?_;refine R_ (c:=[_,_,_,_,_,_]) av (Ext.refl _) rfl ?_;refine aA ?_;refine J_ (abE x.n _ s aD (h.ext he)) ?_;rintro _ aN ⟨⟨y,rfl,bV⟩,ah⟩;generalize o.kD x.n s=q at *;obtain⟨cZ,dt⟩:=q;obtain⟨rfl,ar⟩:=zY;refine aA ?_;refine _M (vs:=y.enc) (fun _=>by simp -dsimp only[c7,cB,Nat.reduceAdd,Nat.reduceEqDiff,reduceIte,reduceCtorEq,df]) rfl rfl (by simp[o.dB.enc,Value.oneCell']) fun aU cC ff ax bp=>?_;refine aA ?_;apply I_<;>intro g7
  .refine aA ?_;have g8:dt=0:=g7;rw[g8];exact cd
  .refine aA ?_
   have:dt=8:=ar.resolve_left g7
   rw[this];exact cd
 refine aA ?_;apply I_<;>intro g7
 .have hk:o.mJ x s=o.Cr x.n s:=by rw[o.mJ,if_neg g5,if_neg g6,if_pos g7]
  rw[hk,o.Cr];refine aA ?_;apply I_<;>intro g1
  .refine aA ?_;intro aN ah;refine aA ?_;rw[if_neg AK];exact cd
  rw[if_pos AK];obtain⟨i,U⟩:=QA (show 0<=x.n by omega);obtain⟨_,gW⟩:=ag.n;rw[U] at gW;have ar:x.n.tdiv 16=((i / 16:Nat):Int):=by rw[U];rfl
  have hm:x.n.tmod 16=((i % 16:Nat):Int):=by rw[U];rfl
  refine aA ?_;refine _J AK ?_;rw[ar];refine aA ?_;apply I_<;>intro g2
  .refine aA ?_;intro aN ah;refine aA ?_;rw[o.gX (.inr AK)];exact cd
  have aF:i / 16<s.procs.length:=AK
  rw[o.iM AK AK];simp only[Int.toNat_natCast];refine aA ?_;refine _s AK ?_;refine aA ?_;refine _J AK ?_;rw[ar];obtain⟨a,rfl⟩:=ef.addr;obtain⟨_,b2,dV,EK,_⟩:=ef.at (i / 16) aF;have OR:w.cell? ((a.add (i / 16*5)).add 2)=some (.I s.procs[i / 16].cp):=EK 2 _ rfl;refine aA ?_;refine M_ ((ai.trans aj).cell OR) ?_;refine aA ?_;rw[hm];intro aN ah;refine aA ?_;apply I_<;>intro g3
  all_goals
   refine aA ?_;refine⟨?_,fK⟩
   first | rw[if_pos AK] | rw[if_neg AK]
 (repeat' (refine aA ?_;first | (refine I_ (fun _=>?_) (fun _=>?_)<;>try (exfalso;omega)) | refine N_ (fun _=>?_) (fun _=>?_)))<;>try refine aA ?_
 all_goals
  refine⟨?_,fK⟩;rw[o.mJ,if_neg g5,if_neg g6,if_neg g7,if_pos AK];split<;>first | rfl | (exfalso;omega)
end Go.Proofs.R
end
section
namespace Go.Proofs.R
open Go Go.RowKit ba
theorem aaj(ae:o.pv)(k:Int):o.oI ae [k]=if ae.jO = -1\/k=ae.jO then (ae.makes,0) else (0,9):=by
 simp[o.oI]
theorem amd(ae:o.pv)(a b:Int):o.oI ae [a,b]=if (ae.jO = -1\/a=ae.jO)/\a=b then (ae.makes,0) else (0,9):=by
 simp only[o.oI,List.all_cons,List.all_nil,List.headD_cons,Bool.and_true,decide_true];by_cases h:a=b
 .subst h;simp
 .have bo:¬b=a:=fun e=>h e.symm;simp[h,bo]
def vb(x:o.Node)(k:Int)(s:o.Scope):Int×Int:=match o.hj x.op with | some ae=>o.oI ae [k] | none=>o.jw x s k
theorem apU(x:o.Node)(k:Int)(cs:C_ B_)(s:o.Scope)(w:A_)(h:o.fZ w cs s)(mG:x.op=3\/x.op=9\/x.op=10) :
  DD F.Kw #[.agg x.enc.toArray,.I k,.agg cs.toArray] w fun v w'=>v = .tuple #[.I (vb x k s).1,.I (vb x k s).2]/\Ext w w':=by
 obtain⟨a0,bx,db,c1,a2,c2,a3,bu,a4,bC,rfl,pj,cZ,dt,ef,gP,e2,eE,eJ,er,eH⟩:=h.form;refine br E.Kw ?_;refine aA ?_;refine O_ fun w1 bw cM ai al=>?_;refine aA ?_;refine O_ fun aD bS dm aj av=>?_;have he:=ai.trans aj;have cE:aD.heap[bw]? = some (.cells #[.I x.op,.I x.n] T.h):=aj.obj al;clear al;refine aA ?_;apply I_<;>intro g1
 .have aO:o.hj x.op=none:=by rw[g1];rfl
  have hk:vb x k s=(let q:=o.gn s.vars x.n s;if q.2.2=false then (0,8) else if (x.op=3/\(q.2.1=0\/k≠q.2.1))\/(x.op≠3/\q.2.1≠0) then (0,9) else (q.1,0)):=by
   rw[vb,aO];simp only;rw[o.jw,if_neg AK,if_pos AK];simp only[show ¬x.op=4 from AK,if_false]
  rw[hk];refine aA ?_;refine R_ (c:=[_,_,_,_,_,_]) av (Ext.refl _) rfl ?_;refine aA ?_;refine J_ (Gw _ s.vars x.n _ s aD (cZ.ext he) (h.ext he)) ?_;rintro _ aN ⟨⟨y,rfl,bV⟩,ah⟩;have dh:(o.gn s.vars x.n s).2.2=true->_:=fun g=>Qv g (bV g);clear bV hk;generalize o.gn s.vars x.n s=q at dh ⊢;obtain⟨yJ,AH,Rf⟩:=q;refine aA ?_;refine _M (vs:=y.enc) (fun _=>by simp -dsimp only[c7,cB,Nat.reduceAdd,Nat.reduceEqDiff,reduceIte,reduceCtorEq,df]) rfl rfl (by simp[o.Var.enc,Value.oneCell']) fun aU cC ff ax bp=>?_;have iA:aU.heap[cC]? = some (.cells #[.string y.name,.I y.scalar,.I y.over,.I y.aR,.I y.U,.I y.init] T.n):=bp;clear bp;refine aA ?_;refine N_ (fun g5=>?_) (fun g5=>?_);rotate_left
  .refine aA ?_;simp only[g5,if_true];exact cd
  obtain⟨gz,z2,z3,z4,z5,A1⟩:=dh g5;have AY:yJ=kindOf y.scalar:=gz;have AZ:AH=kindOf y.over:=z2;have yo:AH=if y.over=0 then 0 else 1+y.over:=AZ
  refine aA ?_;apply I_<;>intro g6
  .refine aA ?_;simp only[g5,Bool.true_eq_false,if_false];rw[if_pos (.inl ⟨g1,.inl (by rw[yo,if_pos g6])⟩)];exact cd
  rw[if_neg g6] at yo;refine aA ?_;apply I_<;>intro g7;rotate_left
  .refine aA ?_;simp only[g5,Bool.true_eq_false,if_false];rw[if_pos (.inl ⟨g1,.inr AK⟩)];exact cd
  refine aA ?_;refine J_ (J3 y.scalar aU AK) ?_;rintro _ _ ⟨rfl,rfl⟩;refine aA ?_;simp only[g5,Bool.true_eq_false,if_false,AY];rw[if_neg AK];exact cd
 have jI:x.op=9->vb x k s=if k=1 then (1,0) else (0,9):=by
  intro e;rw[vb,e];show o.oI _ [k]=_;rw[aaj];simp
 have kR:x.op=10->vb x k s=if k=0 then (0,0) else (0,9):=by
  intro e;rw[vb,e];show o.oI _ [k]=_;rw[aaj];simp
 (repeat' (refine aA ?_;first | (refine I_ (fun _=>?_) (fun _=>?_)<;>try (exfalso;omega)) | refine N_ (fun _=>?_) (fun _=>?_)))<;>try refine aA ?_
 all_goals
  refine⟨?_,fK⟩;rcases mG with e | e | e
  .exact absurd e g1
  .rw[jI e];split<;>first | rfl | (exfalso;omega)
  .rw[kR e];split<;>first | rfl | (exfalso;omega)
def GP(op a b:Int):Int×Int:=match o.hj op with | some ae=>o.oI ae [a,b] | none=>(0,9)
theorem ap1(op a b:Int)(w:A_)(mG:11<=op/\op<=19) :
  DD F.Ky #[.I op,.I a,.I b] w fun v w'=>v = .tuple #[.I (GP op a b).1,.I (GP op a b).2]/\w'=w:=by
 have key:GP op a b=if a≠b then (0,9) else if op=14\/op=15 then (1,0) else if op=18\/op=19 then (if a=1 then (1,0) else (0,9)) else if op=16\/op=17 then (if a=0 then (1,0) else (0,9)) else (if a=0 then (0,0) else (0,9)):=by
  have an:op=11\/op=12\/op=13\/op=14\/op=15\/op=16\/op=17\/op=18\/op=19:=AK
  rcases an with e | e | e | e | e | e | e | e | e<;>subst e <;> (show o.oI _ [a,b]=_)<;>rw[amd]<;>by_cases Ey:a=b<;>simp[Ey,o.AJ]
 refine br E.Ky ?_
 (repeat' (refine aA ?_;first | (refine I_ (fun _=>?_) (fun _=>?_)<;>try (exfalso;omega)) | refine N_ (fun _=>?_) (fun _=>?_)))<;>try refine aA ?_
 all_goals
  refine⟨?_,aL⟩;rw[key]
  (repeat' split)<;>first | rfl | (exfalso;omega)
end Go.Proofs.R
end
section
namespace Go.Proofs.R
open Go Go.RowKit ba
theorem ahc{s:o.Scope}{x:o.Node}{st:C_ Int}(h:o.fI x.op=0):o.fw s x st=o.jw x s (st.getLastD 0):=by
 unfold o.fw;rw[(Le h).2.2.2]
theorem ahd{s:o.Scope}{x:o.Node}{st:C_ Int}(h:o.fI x.op=1)(aC:1<=st.length):o.fw s x st=vb x st[st.length - 1] s:=by
 unfold o.fw vb;cases aO:o.hj x.op with
 | none=>simp only;rw[Ed st AK]
 | some ae =>
  have:=(o.Ge aO).1
  simp only;rw[show ae.parts.toNat=1 from AK,Nx aC]
theorem ahe{s:o.Scope}{x:o.Node}{st:C_ Int}(h:o.fI x.op=2)(aC:2<=st.length):o.fw s x st=GP x.op st[st.length - 2] st[st.length - 1]:=by
 unfold o.fw GP;obtain⟨ae,aO,au⟩:=aaZ (show 9<=x.op/\x.op<=19 by have:=Lf h;omega);rw[aO];simp only;rw[show ae.parts.toNat=2 from AK,Wm aC]
theorem abK(gZ:B_)(e:C_ o.Node)(cs:C_ B_)(s:o.Scope)(w:A_)(he:o.eS w gZ e)(h:o.fZ w cs s) :
  DD F.Ko #[gZ,.agg cs.toArray] w fun v w'=>v = .tuple #[.I (o.kind e s).1,.I (o.kind e s).2]/\Ext w w':=by
 obtain⟨v0,v1,v2,v3,v4,rfl,_⟩:=h.ex;obtain⟨aQ,cap,rfl,hlen⟩:=he.form;refine br E.Ko ?_;refine aA ?_;refine O_ fun w1 dd tA ai al=>?_;refine aA ?_;apply I_<;>intro g1
 .refine aA ?_;rw[o.kind,o.mN,if_pos AK];exact cd
 refine aA ?_;apply I_<;>intro g2
 .refine aA ?_;rw[o.kind,o.mN,if_neg AK,if_pos AK];exact cd
 refine aA ?_;refine _i 7 e.length (fun k S w' => ∃v st,S 6=v/\nw w1.heap.size w' v st/\o.gi (o.fw s) (e.take k) []=(0,st)/\(0<k->1<=st.length)/\st.length<=12/\Ext w1 w')
  (by simp -dsimp only[c7,cB,Nat.reduceAdd,Nat.reduceEqDiff,reduceIte,reduceCtorEq,df]) ⟨.slice none 0 0,[],by simp -dsimp only[c7,cB,Nat.reduceAdd,Nat.reduceEqDiff,reduceIte,reduceCtorEq,df],aS.nil _ _ _ _ _,by simp[o.gi],Bs,Bs,Ext.refl _⟩ ?_
 rintro k S aD cc hk cj ⟨v6,st,bE,fO,h8,Ei,sd,aj⟩;have af:=cc 0 rfl;have ab:=cc 3 rfl;simp only[bN,Nat.reduceAdd,Nat.reduceEqDiff,reduceIte,kh,nG] at af ab;clear cc;obtain⟨qK,o1,rfl,cb,jZ⟩:=fO.form;have U:Ints aD _ st:=aS.jD (enc:=encI) (sz:=1) (fun _=>rfl) fO;unfold maxLen at jZ;refine dx (i_ af (i_ ab (i_ bE cj))) ?_;apply I_<;>intro g3;rotate_left
 .have a1:k=e.length:=AK
  subst a1;rw[AF3] at h8;have h1:=Ei AK;obtain⟨a,rfl⟩:=U.addr h1;have dW:o.kind e s=if st.length > 1 then (0,5) else (st.headD 0,0):=by
   rw[o.kind,o.mN,if_neg AK,if_neg AK,h8,if_neg Bs]
  rw[dW];clear dW;refine dx (i_ af (i_ ab (i_ bE cj))) ?_;apply I_<;>intro g4
  .refine aA ?_;rw[if_pos AK];exact cd
  .refine dx (i_ af (i_ ab (i_ bE cj))) ?_;refine K_ 0 rfl AK ?_;refine aA ?_;rw[if_neg AK]
   have:st.headD 0=st[0]:=by
    cases st with
    | nil=>simp at h1
    | cons z st=>rfl
   rw[this];exact cd
 have a1:k<e.length:=AK
 obtain⟨a,rfl⟩:=he.addr;have uX:=(he.at k a1).ok;have kV:=fun af=>o.RC (f:=o.fw s) (e:=e) AK a1 h8 af;have uT:=o.CM a1 h8;have Eg:=ai.trans aj;have ep:=aj.obj al;refine dx (i_ af (i_ ab (i_ bE cj))) ?_;refine J_ (acN e[k].op aD) ?_;rintro _ _ ⟨rfl,rfl⟩;generalize az:o.fI e[k].op=n at *;have j0 : -1<=n/\n<=2:=by rw[<-az];unfold o.fI; (repeat' split)<;>omega
 refine dx (i_ af (i_ ab (i_ bE cj))) ?_;apply I_<;>intro g4
 .have ak:o.stepG (o.fw s) e[k] st=(3,st):=by unfold o.stepG;rw[az,if_pos g4]
  rw[ak] at kV;refine aA ?_;rw[o.kind,kV Bs];exact cd
 refine dx (i_ af (i_ ab (i_ bE cj))) ?_;apply I_<;>intro g5
 .have ak:o.stepG (o.fw s) e[k] st=(4,st):=by unfold o.stepG;rw[az,if_neg g4,if_pos g5]
  rw[ak] at kV;refine aA ?_;rw[o.kind,kV Bs];exact cd
 obtain⟨p,rfl⟩:=QA (show 0<=n by omega);have eQ:o.stepG (o.fw s) e[k] st=if (o.fw s e[k] st).2≠0 then ((o.fw s e[k] st).2,st) else if (st.take (st.length - p)++[(o.fw s e[k] st).1]).length > 12 then (12,st) else (0,st.take (st.length - p)++[(o.fw s e[k] st).1]):=by
  unfold o.stepG;rw[az,if_neg g4,if_neg g5];simp only[Int.toNat_natCast]
 have iw:(st.take (st.length - p)++[(o.fw s e[k] st).1]).length=st.length - p+1:=by simp[List.length_take]
 rw[iw] at eQ;have fin:p=0\/p=1\/p=2:=AK
 rcases fin with Ab | Ab | Ab
 .have ay:=ahc (s:=s) (st:=st) (x:=e[k]) AK;obtain⟨gz,z2,z3,z4⟩:=Le (x:=e[k].op) AK;refine dx (i_ af (i_ ab (i_ bE cj))) ?_;refine R_ (c:=[_,_,_,_,_,_]) ep (Ext.refl _) rfl ?_;refine dx (i_ af (i_ ab (i_ bE cj))) ?_;refine P_ _ (fun w' e'=>apO e[k] _ s w' uX (h.ext (Eg.trans e')) ⟨gz,z2⟩ z3 (st.getLastD 0)) ?_;rw[<-ay];refine dx (i_ af (i_ ab (i_ bE cj))) ?_;intro aN ah;refine dx (i_ af (i_ ab (i_ bE cj))) ?_;apply I_<;>intro g6;rotate_left
  .rw[if_pos g6] at eQ;refine aA ?_;rw[o.kind,kV (by rw[eQ];exact g6),eQ];exact cd
  rw[if_neg (by simpa using g6)] at eQ;have dT:=fO.ext ah;refine dx (i_ af (i_ ab (i_ bE cj))) ?_;refine Y_ (cs:=[]) (by simp[List.range,List.range.loop,fa]) fun aU cC ff ax bp=>?_;have z12:=aj.size;have z23:=ah.size;have C7:=ax.size;have tn:nw w1.heap.size aU (.slice (some ⟨cC,0,none⟩) 0 0) []:=aS.empty AK bp;have dO:=dT.ext ax;have dF:nw w1.heap.size aU (.slice _ (st.length - p) _) (st.take (st.length - p)):=aS.head (enc:=encI) (sz:=1) (xs:=st) (fun _=>rfl) dO (st.length - p) (AH6 _ _);have cg:(st.take (st.length - p)).length=st.length - p:=by simp[List.length_take]
  refine dx (i_ af (i_ ab (i_ bE cj))) ?_;refine _N (st.length - p) (by refine ck bE ?_;first | rfl | (congr 1;omega)) AK ?_;refine aA ?_;refine _j (xs:=[]) (ys:=st.take (st.length - p)) tn dF (fun _=>rfl) sa (by rw[cg];simp only[List.length_nil];omega) (by rw[cg];simp only[List.length_nil,maxLen];omega) AK fun v5 bt ni hg=>?_;have oz:Ext aN bt:=ax.grown hg fun q ar=>by simp[Value.ownBlock] at ar;omega
  rw[AF8] at ni;have z35:=oz.size;refine aA ?_;refine Y_ (cs:=[(o.fw s e[k] st).1].flatMap encI) (by simp[List.range,List.range.loop,fa,lay,de,bN,Value.cells,encI]) fun bz ez gm aM cb=>?_;have A0:=aM.size;have dn:=ni.ext aM;refine aA ?_;refine _O (xs:=st.take (st.length - p)) (ys:=[(o.fw s e[k] st).1]) dn (fun _=>rfl) (gT cb) rfl sa (by rw[cg];simp only[List.length_cons,List.length_nil];omega) (by rw[cg];simp only[List.length_cons,List.length_nil,maxLen];omega) AK fun CZ bK ec kU=>?_;have bq:Ext w1 bK:=Ext.grown (((aj.trans ah).trans oz).trans aM) kU fun q ar=>(dn.lt q ar).1;obtain⟨Gc,la,rfl,_⟩:=ec.form;rw[iw] at ec ⊢;by_cases g7:12<st.length - p+1
  .rw[if_pos AK] at eQ
   first
    | (exfalso;omega)
    | (refine aA ?_
       rw[o.kind,kV (by rw[eQ];simp),eQ];exact⟨aL,ai.trans bq⟩)
  rw[if_neg AK] at eQ;refine dx cj ?_;refine⟨a1,aL,_,_,rfl,ec,by rw[uT,eQ],fun _=>by rw[iw];omega,by rw[iw];omega,bq⟩
 .have ay:=ahd (s:=s) (st:=st) (x:=e[k]) AK AK;obtain⟨r2,rfl⟩:=U.addr;refine dx (i_ af (i_ ab (i_ bE cj))) ?_;refine K_ (st.length - 1) AK AK ?_;refine dx (i_ af (i_ ab (i_ bE cj))) ?_;refine R_ (c:=[_,_,_,_,_,_]) ep (Ext.refl _) rfl ?_;refine dx (i_ af (i_ ab (i_ bE cj))) ?_;refine P_ _ (fun w' e'=>apU e[k] _ _ s w' (h.ext (Eg.trans e')) (aaS AK)) ?_;rw[<-ay];refine dx (i_ af (i_ ab (i_ bE cj))) ?_;intro aN ah;refine dx (i_ af (i_ ab (i_ bE cj))) ?_;apply I_<;>intro g6;rotate_left
  .rw[if_pos g6] at eQ;refine aA ?_;rw[o.kind,kV (by rw[eQ];exact g6),eQ];exact cd
  rw[if_neg (by simpa using g6)] at eQ;have dT:=fO.ext ah;refine dx (i_ af (i_ ab (i_ bE cj))) ?_;refine Y_ (cs:=[]) (by simp[List.range,List.range.loop,fa]) fun aU cC ff ax bp=>?_;have z12:=aj.size;have z23:=ah.size;have C7:=ax.size;have tn:nw w1.heap.size aU (.slice (some ⟨cC,0,none⟩) 0 0) []:=aS.empty AK bp;have dO:=dT.ext ax;have dF:nw w1.heap.size aU (.slice _ (st.length - p) _) (st.take (st.length - p)):=aS.head (enc:=encI) (sz:=1) (xs:=st) (fun _=>rfl) dO (st.length - p) (AH6 _ _);have cg:(st.take (st.length - p)).length=st.length - p:=by simp[List.length_take]
  refine dx (i_ af (i_ ab (i_ bE cj))) ?_;refine _N (st.length - p) (by refine ck bE ?_;first | rfl | (congr 1;omega)) AK ?_;refine aA ?_;refine _j (xs:=[]) (ys:=st.take (st.length - p)) tn dF (fun _=>rfl) sa (by rw[cg];simp only[List.length_nil];omega) (by rw[cg];simp only[List.length_nil,maxLen];omega) AK fun v5 bt ni hg=>?_;have oz:Ext aN bt:=ax.grown hg fun q ar=>by simp[Value.ownBlock] at ar;omega
  rw[AF8] at ni;have z35:=oz.size;refine aA ?_;refine Y_ (cs:=[(o.fw s e[k] st).1].flatMap encI) (by simp[List.range,List.range.loop,fa,lay,de,bN,Value.cells,encI]) fun bz ez gm aM cb=>?_;have A0:=aM.size;have dn:=ni.ext aM;refine aA ?_;refine _O (xs:=st.take (st.length - p)) (ys:=[(o.fw s e[k] st).1]) dn (fun _=>rfl) (gT cb) rfl sa (by rw[cg];simp only[List.length_cons,List.length_nil];omega) (by rw[cg];simp only[List.length_cons,List.length_nil,maxLen];omega) AK fun CZ bK ec kU=>?_;have bq:Ext w1 bK:=Ext.grown (((aj.trans ah).trans oz).trans aM) kU fun q ar=>(dn.lt q ar).1;obtain⟨Gc,la,rfl,_⟩:=ec.form;rw[iw] at ec ⊢;by_cases g7:12<st.length - p+1
  .rw[if_pos AK] at eQ
   first
    | (exfalso;omega)
    | (refine aA ?_
       rw[o.kind,kV (by rw[eQ];simp),eQ];exact⟨aL,ai.trans bq⟩)
  rw[if_neg AK] at eQ;refine dx cj ?_;refine⟨a1,aL,_,_,rfl,ec,by rw[uT,eQ],fun _=>by rw[iw];omega,by rw[iw];omega,bq⟩
 .have ay:=ahe (s:=s) (st:=st) (x:=e[k]) AK AK;obtain⟨r2,rfl⟩:=U.addr;refine dx (i_ af (i_ ab (i_ bE cj))) ?_;refine K_ (st.length - 2) AK AK ?_;refine dx (i_ af (i_ ab (i_ bE cj))) ?_;refine K_ (st.length - 1) AK AK ?_;refine dx (i_ af (i_ ab (i_ bE cj))) ?_;refine P_ _ (fun w' e'=>(ap1 e[k].op _ _ w' (Lf AK)).mono fun v bO h=>⟨h.1,h.2 ▸ Ext.refl _⟩) ?_;rw[<-ay];refine dx (i_ af (i_ ab (i_ bE cj))) ?_;intro aN ah;refine dx (i_ af (i_ ab (i_ bE cj))) ?_;apply I_<;>intro g6;rotate_left
  .rw[if_pos g6] at eQ;refine aA ?_;rw[o.kind,kV (by rw[eQ];exact g6),eQ];exact cd
  rw[if_neg (by simpa using g6)] at eQ;have dT:=fO.ext ah;refine dx (i_ af (i_ ab (i_ bE cj))) ?_;refine Y_ (cs:=[]) (by simp[List.range,List.range.loop,fa]) fun aU cC ff ax bp=>?_;have z12:=aj.size;have z23:=ah.size;have C7:=ax.size;have tn:nw w1.heap.size aU (.slice (some ⟨cC,0,none⟩) 0 0) []:=aS.empty AK bp;have dO:=dT.ext ax;have dF:nw w1.heap.size aU (.slice _ (st.length - p) _) (st.take (st.length - p)):=aS.head (enc:=encI) (sz:=1) (xs:=st) (fun _=>rfl) dO (st.length - p) (AH6 _ _);have cg:(st.take (st.length - p)).length=st.length - p:=by simp[List.length_take]
  refine dx (i_ af (i_ ab (i_ bE cj))) ?_;refine _N (st.length - p) (by refine ck bE ?_;first | rfl | (congr 1;omega)) AK ?_;refine aA ?_;refine _j (xs:=[]) (ys:=st.take (st.length - p)) tn dF (fun _=>rfl) sa (by rw[cg];simp only[List.length_nil];omega) (by rw[cg];simp only[List.length_nil,maxLen];omega) AK fun v5 bt ni hg=>?_;have oz:Ext aN bt:=ax.grown hg fun q ar=>by simp[Value.ownBlock] at ar;omega
  rw[AF8] at ni;have z35:=oz.size;refine aA ?_;refine Y_ (cs:=[(o.fw s e[k] st).1].flatMap encI) (by simp[List.range,List.range.loop,fa,lay,de,bN,Value.cells,encI]) fun bz ez gm aM cb=>?_;have A0:=aM.size;have dn:=ni.ext aM;refine aA ?_;refine _O (xs:=st.take (st.length - p)) (ys:=[(o.fw s e[k] st).1]) dn (fun _=>rfl) (gT cb) rfl sa (by rw[cg];simp only[List.length_cons,List.length_nil];omega) (by rw[cg];simp only[List.length_cons,List.length_nil,maxLen];omega) AK fun CZ bK ec kU=>?_;have bq:Ext w1 bK:=Ext.grown (((aj.trans ah).trans oz).trans aM) kU fun q ar=>(dn.lt q ar).1;obtain⟨Gc,la,rfl,_⟩:=ec.form;rw[iw] at ec ⊢;by_cases g7:12<st.length - p+1
  .rw[if_pos AK] at eQ
   first
    | (exfalso;omega)
    | (refine aA ?_
       rw[o.kind,kV (by rw[eQ];simp),eQ];exact⟨aL,ai.trans bq⟩)
  rw[if_neg AK] at eQ;refine dx cj ?_;refine⟨a1,aL,_,_,rfl,ec,by rw[uT,eQ],fun _=>by rw[iw];omega,by rw[iw];omega,bq⟩
theorem CI(gZ:B_)(e:C_ o.Node)(k:Int)(cs:C_ B_)(s:o.Scope)(w:A_)(az:o.eS w gZ e)(h:o.fZ w cs s) :
  DD F.KJ #[gZ,.I k,.agg cs.toArray] w fun v w'=>v = .I (o.asked e k s)/\Ext w w':=by
 obtain⟨a0,bx,db,c1,a2,c2,a3,bu,a4,bC,rfl,_⟩:=h.form;obtain⟨aQ,cap,rfl,_⟩:=az.form;refine br E.KJ ?_;refine aa ?_;intro w1 bw cM ai al;refine aa ?_;refine J_ (abK _ e _ s w1 (az.ext ai) (h.ext ai)) ?_;rintro _ aD ⟨rfl,aj⟩;rw[o.asked];refine aa ?_;apply I_<;>intro g1;rotate_left
 .refine aa ?_;exact⟨by rw[if_pos g1],ai.trans aj⟩
 rw[if_neg (by simpa using g1)];refine aa ?_;apply I_<;>intro g2;rotate_left
 .refine aa ?_;exact⟨by rw[if_pos g2],ai.trans aj⟩
 .refine aa ?_;exact⟨by rw[if_neg (by simpa using g2)],ai.trans aj⟩
theorem J4(n:Int)(w:A_)(h:0<=n/\n<=4611686018427387904):DD F.FN #[.I n] w fun v w'=>v = .I (if n=0 then 0 else 1+n)/\w'=w:=J3 n w h
theorem Q5(v:B_)(l:C_ o.Var)(n:Int)(cs:C_ B_)(s:o.Scope)(w:A_)(aC:o.h3 w v l)(h:o.fZ w cs s) :
  DD F.KL #[v,.I n,.agg cs.toArray] w fun v w'=>v = .tuple #[.I (o.lR l n s).1,.I (o.lR l n s).2]/\Ext w w':=by
 obtain⟨a0,bx,db,c1,a2,c2,a3,bu,a4,bC,rfl,_,_,_,_,_,e2,eE,eJ,er,eH⟩:=h.form;obtain⟨aQ,cap,rfl,_⟩:=aC.form;refine br E.KL ?_;refine aa ?_;intro w1 bw cM ai al;refine aa ?_;refine J_ (Gw _ l n _ s w1 (aC.ext ai) (h.ext ai)) ?_;rintro u aD ⟨⟨x,hu,ag⟩,aj⟩;cases hk:(o.gn l n s).2.2 with
 | false =>
  rw[hk] at hu;subst hu;refine aa ?_;intro aN bW fe ah bl;refine aa ?_;exact⟨by rw[o.lR,o.Wi hk],(ai.trans aj).trans ah⟩
 | true =>
  rw[hk] at hu;subst hu;obtain⟨bb,dM,et,eB,eL⟩:=o.Wk hk (ag hk);have h7:o.lR l n s=if x.over≠0 then (0,9) else ((if x.scalar=0 then 0 else 1+x.scalar),0):=by unfold o.lR;rw[bb]
  refine aa ?_;intro aN bW fe ah bl;refine aa ?_;apply I_<;>intro g1
  .rw[if_neg (by simpa using g1)] at h7;refine aa ?_;refine J_ (J4 _ aN ⟨dM,AK⟩) ?_;rintro _ _ ⟨rfl,rfl⟩;refine aa ?_;exact⟨by rw[h7],(ai.trans aj).trans ah⟩
  .rw[if_pos g1] at h7;refine aa ?_;exact⟨by rw[h7],(ai.trans aj).trans ah⟩
theorem alX(a:o.Act)(bL b2:B_)(cs:C_ B_)(s:o.Scope)(w:A_)(U:o.eS w bL a.index)(aG:o.eS w b2 a.value)(h:o.fZ w cs s) :
  DD F.KK #[.agg (a.enc bL b2).toArray,.agg cs.toArray] w fun v w'=>v = .I (o.Ao a s)/\Ext w w':=by
 obtain⟨a0,bx,db,c1,a2,c2,a3,bu,a4,bC,rfl,_,PR,_,_,_,e2,eE,eJ,er,eH⟩:=h.form;obtain⟨_,_,rfl,_⟩:=U.form;obtain⟨_,_,rfl,_⟩:=aG.form;refine br E.KK ?_;refine aa ?_;intro w1 bw cM ai al;refine aa ?_;intro aD bS dm aj av;replace al:=aj.obj al;have da:∀{w'},Ext aD w'->Ext w w':=fun e=>(ai.trans aj).trans e;refine aa ?_;refine J_ (Gw _ s.vars a.to _ s aD (PR.ext (da (Ext.refl _))) (h.ext (da (Ext.refl _)))) ?_;rintro u aN ⟨⟨x,hu,ag⟩,ah⟩;replace al:=ah.obj al;replace av:=ah.obj av;cases hk:(o.gn s.vars a.to s).2.2 with
 | false =>
  rw[hk] at hu;subst hu;refine aa ?_;intro aU cC ff ax bp;refine aa ?_;exact⟨by rw[o.Ao,o.Wi hk],da (ah.trans ax)⟩
 | true =>
  rw[hk] at hu;subst hu;obtain⟨bb,dM,et,eB,eL⟩:=o.Wk hk (ag hk);have h7:o.Ao a s=if x.over=0 then 9 else if o.asked a.index (1+x.over) s≠0 then o.asked a.index (1+x.over) s else o.asked a.value (if x.scalar=0 then 0 else 1+x.scalar) s:=by unfold o.Ao;rw[bb]
  refine aa ?_;intro aU cC ff ax bp;replace al:=ax.obj al;replace av:=ax.obj av;have eo:∀{w'},Ext aU w'->Ext w w':=fun e=>da ((ah.trans ax).trans e);refine aa ?_;apply I_<;>intro g1
  .rw[if_pos g1] at h7;refine aa ?_;exact⟨by rw[h7],eo (Ext.refl _)⟩
  rw[if_neg g1] at h7;refine aa ?_;refine J_ (CI _ a.index (1+x.over) _ s aU (U.ext (eo (Ext.refl _))) (h.ext (eo (Ext.refl _)))) ?_;rintro _ bt ⟨rfl,aI⟩;replace al:=aI.obj al;replace av:=aI.obj av;replace bp:=aI.obj bp;have iP:∀{w'},Ext bt w'->Ext w w':=fun e=>eo (aI.trans e);refine aa ?_;apply I_<;>intro g2;rotate_left
  .rw[if_pos g2] at h7;refine aa ?_;exact⟨by rw[h7],iP (Ext.refl _)⟩
  rw[if_neg (by simpa using g2)] at h7;refine aa ?_;refine P_ (.I (if x.scalar=0 then 0 else 1+x.scalar)) (fun w' e=>(J4 _ w' ⟨dM,AK⟩).mono fun v bO c3=>⟨c3.1,by rw[c3.2];exact Ext.refl _⟩) ?_;refine aa ?_;refine P_ (.I (o.Ao a s)) (fun w' e=>by rw[h7];exact CI _ a.value _ _ s w' (aG.ext (iP e)) (h.ext (iP e))) ?_;refine aa ?_;intro bz aM;refine aa ?_;exact⟨aL,iP aM⟩
theorem abD(a:o.Act)(comm:Bool)(bL b2:B_)(cs:C_ B_)(s:o.Scope)(w:A_)(U:o.eS w bL a.index)(aG:o.eS w b2 a.value)(h:o.fZ w cs s) :
  DD F.KI #[.agg (a.enc bL b2).toArray,.agg cs.toArray,.bool comm] w fun v w'=>v = .I (o.lT a s comm)/\Ext w w':=by
 obtain⟨a0,bx,db,c1,a2,c2,a3,bu,a4,bC,rfl,_,PR,_,_,kp,e2,eE,eJ,er,eH⟩:=h.form;obtain⟨_,_,rfl,_⟩:=U.form;obtain⟨_,_,rfl,_⟩:=aG.form;refine br E.KI ?_;refine aa ?_;intro w1 bw cM ai al;refine aa ?_;intro aD bS dm aj av;replace al:=aj.obj al;have da:∀{w'},Ext aD w'->Ext w w':=fun e=>(ai.trans aj).trans e;refine aa ?_;apply I_<;>intro g1
 .refine aa ?_;exact⟨by rw[o.lT,if_pos (.inl g1)],da (Ext.refl _)⟩
 refine aa ?_;apply I_<;>intro g2
 .refine aa ?_;exact⟨by rw[o.lT,if_pos (.inr g2)],da (Ext.refl _)⟩
 have sd:¬(a.kind<1\/5<a.kind):=AK
 refine aa ?_;apply I_<;>intro g3
 .refine aa ?_;refine J_ (alX a _ _ _ s aD (U.ext (da (Ext.refl _))) (aG.ext (da (Ext.refl _))) (h.ext (da (Ext.refl _)))) ?_;rintro _ aN ⟨rfl,ah⟩;refine aa ?_;exact⟨by rw[o.lT,if_neg sd,if_pos g3],da ah⟩
 refine aa ?_;apply I_<;>intro g4
 .have aP:o.lT a s comm=if (o.lR s.vars a.to s).2≠0 then (o.lR s.vars a.to s).2 else o.asked a.value (o.lR s.vars a.to s).1 s:=by
   rw[o.lT,if_neg sd,if_neg g3,if_pos (.inl g4)];simp only[if_neg (by omega:¬a.kind=3)]
  refine aa ?_;refine J_ (Q5 _ s.vars a.to _ s aD (PR.ext (da (Ext.refl _))) (h.ext (da (Ext.refl _)))) ?_;rintro _ aN ⟨rfl,ah⟩;replace al:=ah.obj al;replace av:=ah.obj av;refine aa ?_;apply I_<;>intro g5;rotate_left
  .rw[if_pos g5] at aP;refine aa ?_;exact⟨by rw[aP],da ah⟩
  rw[if_neg (by simpa using g5)] at aP;refine aa ?_;refine J_ (CI _ a.value _ _ s aN (aG.ext (da ah)) (h.ext (da ah))) ?_;rintro _ aU ⟨rfl,ax⟩;refine aa ?_;exact⟨by rw[aP],da (ah.trans ax)⟩
 refine aa ?_;apply I_<;>intro g5
 .have aP:o.lT a s comm=if (o.lR s.locals a.to s).2≠0 then (o.lR s.locals a.to s).2 else o.asked a.value (o.lR s.locals a.to s).1 s:=by
   rw[o.lT,if_neg sd,if_neg g3,if_pos (.inr g5)];simp only[if_pos g5]
  refine aa ?_;refine J_ (Q5 _ s.locals a.to _ s aD (kp.ext (da (Ext.refl _))) (h.ext (da (Ext.refl _)))) ?_;rintro _ aN ⟨rfl,ah⟩;replace al:=ah.obj al;replace av:=ah.obj av;refine aa ?_;apply I_<;>intro g5;rotate_left
  .rw[if_pos g5] at aP;refine aa ?_;exact⟨by rw[aP],da ah⟩
  rw[if_neg (by simpa using g5)] at aP;refine aa ?_;refine J_ (CI _ a.value _ _ s aN (aG.ext (da ah)) (h.ext (da ah))) ?_;rintro _ aU ⟨rfl,ax⟩;refine aa ?_;exact⟨by rw[aP],da (ah.trans ax)⟩
 have Eh:¬(a.kind=1\/a.kind=3):=AK
 refine aa ?_;refine N_ (fun g6=>?_) (fun g6=>?_)
 .refine aa ?_;exact⟨by rw[o.lT,if_neg sd,if_neg g3,if_neg Eh,if_pos g6],da (Ext.refl _)⟩
 refine aa ?_;refine J_ (abE a.to _ s aD (h.ext (da (Ext.refl _)))) ?_;rintro u aN ⟨⟨x,hu,ag⟩,ah⟩;replace al:=ah.obj al;replace av:=ah.obj av;by_cases hk:(o.kD a.to s).2=0;rotate_left
 .rw[decide_eq_false hk] at hu;subst hu;refine aa ?_;intro aU cC ff ax bp;refine aa ?_;exact⟨by rw[o.lT,if_neg sd,if_neg g3,if_neg Eh,if_neg (by simp[g6]),o.afs hk],da (ah.trans ax)⟩
 rw[decide_eq_true hk] at hu;subst hu;obtain⟨bb,dM,et⟩:=o.afu hk (ag hk);have aP:o.lT a s comm=if a.kind=4 then o.asked a.value (if x.scalar=0 then 0 else 1+x.scalar) s else if (o.lR s.locals a.loc s).2≠0 then (o.lR s.locals a.loc s).2 else if (o.lR s.locals a.loc s).1≠(if x.scalar=0 then 0 else 1+x.scalar) then 9 else 0:=by
  rw[o.lT,if_neg sd,if_neg g3,if_neg Eh,if_neg (by simp[g6]),bb]
 refine aa ?_;intro aU cC ff ax bp;replace al:=ax.obj al;replace av:=ax.obj av;have eo:∀{w'},Ext aU w'->Ext w w':=fun e=>da ((ah.trans ax).trans e);refine aa ?_;apply I_<;>intro g7
 .rw[if_pos g7] at aP;refine aa ?_;refine P_ (.I (if x.scalar=0 then 0 else 1+x.scalar)) (fun w' e=>(J4 _ w' ⟨dM,AK⟩).mono fun v bO c3=>⟨c3.1,by rw[c3.2];exact Ext.refl _⟩) ?_;refine aa ?_;refine P_ (.I (o.lT a s comm)) (fun w' e=>by rw[aP];exact CI _ a.value _ _ s w' (aG.ext (eo e)) (h.ext (eo e))) ?_;refine aa ?_;intro bz aM;refine aa ?_;exact⟨aL,eo aM⟩
 rw[if_neg g7] at aP;refine aa ?_;refine J_ (Q5 _ s.locals a.loc _ s aU (kp.ext (eo (Ext.refl _))) (h.ext (eo (Ext.refl _)))) ?_;rintro _ bt ⟨rfl,aI⟩;replace bp:=aI.obj bp;refine aa ?_;apply I_<;>intro g8;rotate_left
 .rw[if_pos g8] at aP;refine aa ?_;exact⟨by rw[aP],eo aI⟩
 rw[if_neg (by simpa using g8)] at aP;refine aa ?_;refine J_ (J4 _ bt ⟨dM,AK⟩) ?_;rintro _ _ ⟨rfl,rfl⟩;refine aa ?_;apply I_<;>intro g9
 .rw[if_neg (by simpa using g9)] at aP;refine aa ?_;exact⟨by rw[aP],eo aI⟩
 .rw[if_pos g9] at aP;refine aa ?_;exact⟨by rw[aP],eo aI⟩
end Go.Proofs.R
end
section
namespace o
theorem Vk{s:Scope}{a:Act}{k:Nat}{b:Bool}{Z:Int×Int}:(if hx a&&b then ((2+(k:Int)),(7:Int)) else if kL a s≠0 then (2+(k:Int),kL a s) else Z)=if lT a s b≠0 then (2+(k:Int),lT a s b) else Z:=by
 rw[ape];by_cases h:(hx a&&b)=true
 .simp[h]
 .simp[h]
end o
namespace Go.Proofs.R
open Go Go.RowKit ba
theorem apk(c:o.ea)(fq dH:B_)(p:o.dJ)(p1 rI:B_)(cs:C_ B_)(s:o.Scope)(w:A_)(az:o.jN c.name)(aK:o.eS w fq c.guard)(aV:o.lX w dH c.bQ)
  (aG:o.h3 w p1 p.vars)(an:o.rV w rI p.cQ)(h:o.fZ w cs s) :
  DD F.KG #[.agg (c.enc fq dH).toArray,.agg (p.enc p1 rI).toArray,.agg cs.toArray] w fun v w' =>
   v = .tuple #[.I (o.jU c p.cp s).1,.I (o.jU c p.cp s).2]/\Ext w w':=by
 obtain⟨a0,bx,db,c1,a2,c2,a3,bu,a4,bC,rfl,_⟩:=h.form;obtain⟨aQ,cap,rfl,hlen⟩:=aV.form;obtain⟨gw,ae1,rfl,ake⟩:=aK.form;obtain⟨_,_,rfl,_⟩:=aG.form;obtain⟨_,_,rfl,_⟩:=an.form;refine br E.KG ?_;refine aa ?_;intro w1 bw cM ai al;refine aa ?_;intro aD bS dm aj av;refine aa ?_;intro aN bW fe ah bl;replace al:=(aj.trans ah).obj al;replace av:=ah.obj av;have fJ:∀{w'},Ext aN w'->Ext w w':=fun e=>((ai.trans aj).trans ah).trans e;refine aa ?_;refine J_ (CK c.name aN az) ?_;rintro u aU ⟨hu,ax⟩;replace al:=ax.obj al;replace av:=ax.obj av;replace bl:=ax.obj bl;have eo:∀{w'},Ext aU w'->Ext w w':=fun e=>fJ (ax.trans e);have bb:∀n,o.head c p.cp=n->n≠0->o.jU c p.cp s=(0,n):=fun n e af=>by unfold o.jU;rw[e,if_pos af]
 cases gf:o.isName c.name with
 | false =>
  rw[gf] at hu;subst hu;refine aa ?_;exact⟨by rw[bb 6 (by unfold o.head;rw[if_pos gf]) BN],eo (Ext.refl _)⟩
 | true =>
  rw[gf] at hu;subst hu;have pU:¬o.isName c.name=false:=by rw[gf];simp
  refine aa ?_;apply I_<;>intro g1
  .refine aa ?_;exact⟨by rw[bb 10 (by unfold o.head;rw[if_neg pU,if_pos AK]) BN],eo (Ext.refl _)⟩
  refine aa ?_;apply I_<;>intro g2
  .refine aa ?_;exact⟨by rw[bb 10 (by unfold o.head;rw[if_neg pU,if_pos AK]) BN],eo (Ext.refl _)⟩
  refine aa ?_;apply I_<;>intro g3
  .refine aa ?_;exact⟨by rw[bb 10 (by unfold o.head;rw[if_neg pU,if_pos AK]) BN],eo (Ext.refl _)⟩
  refine aa ?_;apply I_<;>intro g4
  .refine aa ?_;exact⟨by rw[bb 10 (by unfold o.head;rw[if_neg pU,if_pos AK]) BN],eo (Ext.refl _)⟩
  have fD:¬(c.from_<0\/p.cp<=c.from_\/c.to<0\/p.cp<=c.to):=AK
  refine aa ?_;apply I_<;>intro g5
  .refine aa ?_;exact⟨by rw[bb 11 (by unfold o.head;rw[if_neg pU,if_neg fD,if_pos AK]) BN],eo (Ext.refl _)⟩
  have Ck:o.jU c p.cp s=if c.guard.length > 0/\o.asked c.guard 1 s≠0 then (1,o.asked c.guard 1 s) else o.k9 s c.bQ 0 false:=by
   unfold o.jU;rw[if_neg];unfold o.head;rw[if_neg pU,if_neg fD,if_neg AK];simp
  clear bb;refine aa ?_;apply I_<;>intro g6
  .refine aa ?_;refine J_ (CI _ c.guard 1 _ s aU (aK.ext (eo (Ext.refl _))) (h.ext (eo (Ext.refl _)))) ?_;rintro _ bt ⟨rfl,aI⟩;replace al:=aI.obj al;replace bl:=aI.obj bl;have iP:∀{w'},Ext bt w'->Ext w w':=fun e=>eo (aI.trans e);refine aa ?_;apply I_<;>intro g7;rotate_left
   .rw[if_pos ⟨AK,g7⟩] at Ck;refine aa ?_;exact⟨by rw[Ck],iP (Ext.refl _)⟩
   have aP:o.jU c p.cp s=o.k9 s c.bQ 0 false:=by rw[Ck,if_neg (fun c3=>c3.2 (by simpa using g7))]
   refine aa ?_;refine L_ 10 c.bQ.length [3,4,5] (fun b=>[(9,.bool b)]) false (fun k b w'=>Ext bt w'/\o.k9 s c.bQ 0 false=o.k9 s (c.bQ.drop k) k b) bc bc ⟨Ext.refl _,Bs⟩ ?_;rintro k b S bz hk ⟨aM,aZ⟩;replace al:=aM.obj al;replace bl:=aM.obj bl;refine aa ?_;apply I_<;>intro g1
   .have a1:k<c.bQ.length:=AK
    obtain⟨a,rfl⟩:=aV.addr;obtain⟨bL,b2,gq,eV,qG⟩:=aV.at k a1;obtain⟨_,_,rfl,_⟩:=eV.form;obtain⟨_,_,rfl,_⟩:=qG.form;rw[o.MI a1,o.Vk] at aZ;replace gq:=gq.ext (iP (Ext.refl _));refine aa ?_;refine P_ (.I (o.lT c.bQ[k] s b)) (fun w' e=>abD c.bQ[k] b _ _ _ s w' (eV.ext (iP (aM.trans e))) (qG.ext (iP (aM.trans e))) (h.ext (iP (aM.trans e)))) ?_;refine aa ?_;intro bK bq;replace al:=bq.obj al;replace bl:=bq.obj bl;refine aa ?_;apply I_<;>intro g2;rotate_left
    .rw[if_pos g2] at aZ;refine aa ?_;exact⟨by rw[aP,aZ],iP (aM.trans bq)⟩
    rw[if_neg (by simpa using g2)] at aZ;refine aa ?_;refine N_ (fun g3=>?_) (fun g3=>?_)
    .subst g3;refine aa ?_;exact⟨a1,aL,true,bc,aM.trans bq,by simpa using aZ⟩
    subst g3;refine aa ?_;apply I_<;>intro g4
    .have aB:o.hx c.bQ[k]=true:=by unfold o.hx;rw[decide_eq_true_eq];omega
     refine aa ?_;exact⟨a1,aL,true,bc,aM.trans bq,by simpa[aB] using aZ⟩
    have aB:o.hx c.bQ[k]=decide (c.bQ[k].kind=5):=by unfold o.hx;rw[AG4,decide_eq_true_eq,decide_eq_true_eq];omega
    rw[Bool.false_or,aB] at aZ;refine aa ?_;exact⟨a1,aL,decide (c.bQ[k].kind=5),bc,aM.trans bq,aZ⟩
   .rw[AF0 AK] at aZ;refine aa ?_;exact⟨by rw[aP,aZ];rfl,iP aM⟩
  .have aP:o.jU c p.cp s=o.k9 s c.bQ 0 false:=by rw[Ck,if_neg (fun c3=>g6 AK)]
   refine aa ?_;refine L_ 10 c.bQ.length [3,4,5] (fun b=>[(9,.bool b)]) false (fun k b w'=>Ext aU w'/\o.k9 s c.bQ 0 false=o.k9 s (c.bQ.drop k) k b) bc bc ⟨Ext.refl _,Bs⟩ ?_;rintro k b S bz hk ⟨aM,aZ⟩;replace al:=aM.obj al;replace bl:=aM.obj bl;refine aa ?_;apply I_<;>intro g1
   .have a1:k<c.bQ.length:=AK
    obtain⟨a,rfl⟩:=aV.addr;obtain⟨bL,b2,gq,eV,qG⟩:=aV.at k a1;obtain⟨_,_,rfl,_⟩:=eV.form;obtain⟨_,_,rfl,_⟩:=qG.form;rw[o.MI a1,o.Vk] at aZ;replace gq:=gq.ext (eo (Ext.refl _));refine aa ?_;refine P_ (.I (o.lT c.bQ[k] s b)) (fun w' e=>abD c.bQ[k] b _ _ _ s w' (eV.ext (eo (aM.trans e))) (qG.ext (eo (aM.trans e))) (h.ext (eo (aM.trans e)))) ?_;refine aa ?_;intro bK bq;replace al:=bq.obj al;replace bl:=bq.obj bl;refine aa ?_;apply I_<;>intro g2;rotate_left
    .rw[if_pos g2] at aZ;refine aa ?_;exact⟨by rw[aP,aZ],eo (aM.trans bq)⟩
    rw[if_neg (by simpa using g2)] at aZ;refine aa ?_;refine N_ (fun g3=>?_) (fun g3=>?_)
    .subst g3;refine aa ?_;exact⟨a1,aL,true,bc,aM.trans bq,by simpa using aZ⟩
    subst g3;refine aa ?_;apply I_<;>intro g4
    .have aB:o.hx c.bQ[k]=true:=by unfold o.hx;rw[decide_eq_true_eq];omega
     refine aa ?_;exact⟨a1,aL,true,bc,aM.trans bq,by simpa[aB] using aZ⟩
    have aB:o.hx c.bQ[k]=decide (c.bQ[k].kind=5):=by unfold o.hx;rw[AG4,decide_eq_true_eq,decide_eq_true_eq];omega
    rw[Bool.false_or,aB] at aZ;refine aa ?_;exact⟨a1,aL,decide (c.bQ[k].kind=5),bc,aM.trans bq,aZ⟩
   .rw[AF0 AK] at aZ;refine aa ?_;exact⟨by rw[aP,aZ];rfl,eo aM⟩
theorem apY(p:o.dJ)(Gf cs:C_ B_)(s:o.Scope)(w:A_)(au:o.xK w Gf p)(h:o.fZ w cs s)(aK:s.cK)(pc:p.cK) :
  DD F.FR #[.agg Gf.toArray,.agg cs.toArray] w fun v w'=>v = .tuple #[.I (o.h9 p s).1,.I (o.h9 p s).2.1,.I (o.h9 p s).2.2]/\Ext w w':=by
 obtain⟨a0,bx,db,c1,a2,c2,a3,d3,a4,d4,rfl,af,h1,I,ab,aH,e2,eE,eJ,er,eH⟩:=h.form;obtain⟨az,p1,rI,rfl,aG,mD⟩:=au;obtain⟨bZ,bu,rfl,fm⟩:=aG.form;obtain⟨ca,bC,rfl,lc⟩:=mD.form;refine br E.FR ?_;refine aa ?_;intro w1 bw cM ai al;refine aa ?_;intro aD bS dm aj av;replace al:=aj.obj al;have da:∀{w'},Ext aD w'->Ext w w':=fun e=>(ai.trans aj).trans e;refine aa ?_;refine J_ (CK p.name aD az) ?_;rintro u aN ⟨hu,ah⟩;replace al:=ah.obj al;replace av:=ah.obj av;have fJ:∀{w'},Ext aN w'->Ext w w':=fun e=>da (ah.trans e);have bb:∀n,o.whole p s=n->n≠0->o.h9 p s=(0,0,n):=fun n e af=>by unfold o.h9;rw[e,if_pos af]
 cases gf:o.isName p.name with
 | false =>
  rw[gf] at hu;subst hu;refine aa ?_;exact⟨by rw[bb 6 (by unfold o.whole;rw[if_pos gf]) BN],fJ (Ext.refl _)⟩
 | true =>
  rw[gf] at hu;subst hu;have pU:¬o.isName p.name=false:=by rw[gf];simp
  refine aa ?_;apply I_<;>intro g1
  .refine aa ?_;exact⟨by rw[bb 8 (by unfold o.whole;rw[if_neg pU,if_pos (.inl g1)]) BN],fJ (Ext.refl _)⟩
  refine aa ?_;apply I_<;>intro g2
  .refine aa ?_;exact⟨by rw[bb 8 (by unfold o.whole;rw[if_neg pU,if_pos (.inr AK)]) BN],fJ (Ext.refl _)⟩
  have kX:¬(p.over<0\/(s.scalars.length:Int)<p.over):=AK
  refine aa ?_;apply I_<;>intro g3
  .refine aa ?_;exact⟨by rw[bb 10 (by unfold o.whole;rw[if_neg pU,if_neg kX,if_pos (.inl g3)]) BN],fJ (Ext.refl _)⟩
  refine aa ?_;apply I_<;>intro g4
  .refine aa ?_;exact⟨by rw[bb 10 (by unfold o.whole;rw[if_neg pU,if_neg kX,if_pos (.inr AK)]) BN],fJ (Ext.refl _)⟩
  have j5:¬(p.cp<1\/12<p.cp):=AK
  refine aa ?_;apply I_<;>intro g5
  .refine aa ?_;exact⟨by rw[bb 11 (by unfold o.whole;rw[if_neg pU,if_neg kX,if_neg j5,if_pos AK]) BN],fJ (Ext.refl _)⟩
  have aP:o.h9 p s=if (o.lS p s).2≠0 then (1,(o.lS p s).1,(o.lS p s).2) else o.l1 (o.inner p s) p.cp p.cQ p.cQ 0:=by
   unfold o.h9;rw[if_neg];unfold o.whole;rw[if_neg pU,if_neg kX,if_neg j5,if_neg AK];simp
  clear bb;refine aa ?_;refine J_ (abM _ _ p.vars s.scalars 4 aN (aG.ext (fJ (Ext.refl _))) (af.ext (fJ (Ext.refl _)))) ?_;rintro _ aU ⟨rfl,ax⟩;replace al:=ax.obj al;replace av:=ax.obj av;have eo:∀{w'},Ext aU w'->Ext w w':=fun e=>fJ (ax.trans e);refine aa ?_;apply I_<;>intro g6;rotate_left
  .have aC:o.lS p s=o.vars p.vars s.scalars 4:=by unfold o.lS;rw[if_pos g6]
   rw[aC,if_pos g6] at aP;refine aa ?_;exact⟨by rw[aP],eo (Ext.refl _)⟩
  have aC:o.lS p s=o.qI s p.vars 0:=by unfold o.lS;rw[if_neg (by simpa using g6)]
  rw[aC] at aP;refine aa ?_;refine L_ 9 p.vars.length [2,3] (fun _:Unit=>[]) () (fun k _ w'=>Ext aU w'/\o.qI s p.vars 0=o.qI s (p.vars.drop k) k) bc bc ⟨Ext.refl _,Bs⟩ ?_;rintro k _ S bt hk ⟨aI,aZ⟩;replace al:=aI.obj al;replace av:=aI.obj av;refine aa ?_;apply I_<;>intro g7
  .have a1:k<p.vars.length:=AK
   obtain⟨a,rfl⟩:=aG.addr;have ej:=((aG.at k a1).cells).ext (eo aI);rw[o.aay a1] at aZ;refine aa ?_;apply I_<;>intro g8;rotate_left
   .rw[if_pos g8] at aZ;refine aa ?_;exact⟨by rw[aP,aZ];rfl,eo aI⟩
   rw[if_neg (by simpa using g8)] at aZ;refine aa ?_;refine L_ 10 s.vars.length [2,3,9] (fun _:Unit=>[]) () (fun j _ w'=>Ext bt w'/\∀t (aB:t<s.vars.length),t<j->¬s.vars[t].name=p.vars[k].name) bc bc ⟨Ext.refl _,fun _ _ h=>absurd h (K8 _)⟩ ?_;rintro j _ a6 bz aF ⟨aM,rf⟩;replace al:=aM.obj al;replace av:=aM.obj av;have iE:∀{w'},Ext bz w'->Ext w w':=fun e=>eo ((aI.trans aM).trans e);refine aa ?_;apply I_<;>intro g9
   .have ek:j<s.vars.length:=AK
    obtain⟨cF,rfl⟩:=h1.addr;have fx:=((h1.at j ek).cells).ext (iE (Ext.refl _));replace ej:=ej.ext aM;refine aa ?_;intro bK bq;replace al:=bq.obj al;replace av:=bq.obj av;refine aa ?_;apply I_<;>intro g10
    .have zO:s.vars.any (fun x=>decide (x.name=p.vars[k].name))=true:=List.any_eq_true.2 ⟨s.vars[j],GR _,by simpa using g10⟩;rw[if_pos zO] at aZ;refine aa ?_;exact⟨by rw[aP,aZ];rfl,iE bq⟩
    .refine aa ?_;exact⟨ek,aL,(),trivial,aM.trans bq,fun t aB h=>by
      by_cases e:t=j
      .subst e;exact g10
      .exact rf t aB AK⟩
   .have zO:¬s.vars.any (fun x=>decide (x.name=p.vars[k].name))=true:=by
     intro c3;obtain⟨x,ag,gW⟩:=List.any_eq_true.1 c3;obtain⟨t,aB,rfl⟩:=List.mem_iff_getElem.1 ag;exact rf t aB AK (by simpa using gW)
    rw[if_neg zO] at aZ;refine aa ?_;exact⟨a1,aL,(),trivial,aI.trans aM,aZ⟩
  rw[AF0 AK] at aZ;replace aP:o.h9 p s=o.l1 (o.inner p s) p.cp p.cQ p.cQ 0:=by rw[aP,aZ];rfl
  clear aZ aC;have fs:∀w',Ext w w'->o.fZ w' [.slice a0 s.scalars.length bx,.slice db s.vars.length c1,.slice a2 s.aw.length c2,.slice a3 s.procs.length d3,.slice bZ p.vars.length bu,.I p.over] (o.inner p s):=fun w' e =>
   ⟨(aK.inner pc).rM.1,_,_,_,_,_,rfl,af.ext e,h1.ext e,I.ext e,ab.ext e,aG.ext e,(aK.inner pc).rM.2⟩
  refine aa ?_;intro bz bW fe aM bl;replace al:=aM.obj al;replace av:=aM.obj av;have iE:∀{w'},Ext bz w'->Ext w w':=fun e=>eo ((aI.trans aM).trans e);refine aa ?_;refine L_ 12 p.cQ.length [2,3,11] (fun _:Unit=>[]) () (fun k _ w'=>Ext bz w'/\o.l1 (o.inner p s) p.cp p.cQ p.cQ 0=o.l1 (o.inner p s) p.cp p.cQ (p.cQ.drop k) k) bc bc ⟨Ext.refl _,Bs⟩ ?_;rintro k _ S bK hk ⟨bq,aZ⟩;replace al:=bq.obj al;replace av:=bq.obj av;replace bl:=bq.obj bl;have gR:∀{w'},Ext bK w'->Ext w w':=fun e=>iE (bq.trans e);refine aa ?_;apply I_<;>intro g7
  .have a1:k<p.cQ.length:=AK
   obtain⟨a,rfl⟩:=mD.addr;obtain⟨ak,fq,dH,gF,yt,wP⟩:=mD.at k a1;obtain⟨gw,fS,rfl,amD⟩:=yt.form;obtain⟨aQ,eZ,rfl,hT⟩:=wP.form;rw[o.V1 a1] at aZ;replace gF:=gF.ext (gR (Ext.refl _));refine aa ?_;refine P_ (.tuple #[.I (o.jU p.cQ[k] p.cp (o.inner p s)).1,.I (o.jU p.cQ[k] p.cp (o.inner p s)).2]) (fun w' e=>apk p.cQ[k] _ _ p _ _ _ (o.inner p s) w' ak (yt.ext (gR e)) (wP.ext (gR e)) (aG.ext (gR e)) (mD.ext (gR e)) (fs _ (gR e))) ?_;refine aa ?_;intro c4 bG;replace al:=bG.obj al;replace av:=bG.obj av;replace bl:=bG.obj bl;replace gF:=gF.ext bG;have iF:∀{w'},Ext c4 w'->Ext w w':=fun e=>gR (bG.trans e);refine aa ?_;apply I_<;>intro g8;rotate_left
   .rw[if_pos g8] at aZ;refine aa ?_;exact⟨by rw[aP,aZ],iF (Ext.refl _)⟩
   rw[if_neg (by simpa using g8)] at aZ;refine aa ?_;refine L_ 15 k [2,3,11,12] (fun _:Unit=>[]) () (fun j _ w'=>Ext c4 w'/\∀t (aB:t<p.cQ.length),t<j->¬p.cQ[t].name=p.cQ[k].name) bc bc ⟨Ext.refl _,fun _ _ h=>absurd h (K8 _)⟩ ?_;rintro j _ a6 c6 aF ⟨b5,rf⟩;replace al:=b5.obj al;replace av:=b5.obj av;replace bl:=b5.obj bl;have gk:∀{w'},Ext c6 w'->Ext w w':=fun e=>iF (b5.trans e);refine aa ?_;apply I_<;>intro g9
   .have ek:j<p.cQ.length:=AK
    obtain⟨_,avm,LW,Yf,_,_⟩:=mD.at j ek;replace Yf:=Yf.ext (gk (Ext.refl _));replace gF:=gF.ext b5;refine aa ?_;intro eO cr;replace al:=cr.obj al;replace av:=cr.obj av;replace bl:=cr.obj bl;refine aa ?_;apply I_<;>intro g10
    .have zO:(p.cQ.take k).any (fun x=>decide (x.name=p.cQ[k].name))=true:=List.any_eq_true.2 ⟨p.cQ[j],by rw[List.mem_iff_getElem];exact⟨j,by simp;omega,Bs⟩,by simpa using g10⟩;rw[if_pos zO] at aZ;refine aa ?_;exact⟨by rw[aP,aZ],gk cr⟩
    .refine aa ?_;exact⟨AK,aL,(),trivial,b5.trans cr,fun t aB h=>by
      by_cases e:t=j
      .subst e;exact g10
      .exact rf t aB AK⟩
   .have zO:¬(p.cQ.take k).any (fun x=>decide (x.name=p.cQ[k].name))=true:=by
     intro c3;obtain⟨x,ag,gW⟩:=List.any_eq_true.1 c3;obtain⟨t,aB,rfl⟩:=List.mem_iff_getElem.1 ag;have PT:t<k/\t<p.cQ.length:=by simp at aB;omega
     exact rf t PT.2 AK (by simpa using gW)
    rw[if_neg zO] at aZ;refine aa ?_;exact⟨a1,aL,(),trivial,(bq.trans bG).trans b5,aZ⟩
  .rw[AF0 AK] at aZ;refine aa ?_;exact⟨by rw[aP,aZ];rfl,gR (Ext.refl _)⟩
theorem apz(cs:C_ B_)(m:o.Model)(k:Nat)(w:A_)(h:o.eh w cs m)(aK:m.cK)(hk:k<m.procs.length)(E0:k<=6)(Jp:m.scalars.length<=2/\m.vars.length<=12/\m.aw.length<=4)(Ci:k<6->∀j,j<k->(o.iV m j).1=0) :
  DD F.KR #[.agg cs.toArray,.I k] w fun v w'=>v=BL (if (o.iV m k).1≠0 then ⟨(o.iV m k).1,4,k,(o.iV m k).2⟩ else o.uH)/\Ext w w':=by
 have aW:=h;obtain⟨b6,bx,bR,c1,bX,c2,bZ,bu,ca,bC,rfl,af,h1,I,ab,aH,e2,eE,eJ,er,eH⟩:=h.form;have eC:=o.NJ hk;refine br E.KR ?_;refine aa ?_;intro w1 bw cM ai al;refine aa ?_;intro aD bS dm aj av;replace al:=aj.obj al;have aJ:=ai.trans aj;have gz:=cA al;have z2:=ai.size;refine aa ?_;apply I_<;>intro g1
 .rw[if_pos AK] at eC;refine aa ?_;intro aN gg bl;refine aa ?_;exact⟨by rw[eC];rfl,gg.ext aJ AK⟩
 rw[if_neg AK] at eC;obtain⟨a,rfl⟩:=ab.addr;obtain⟨mc,b2,dV,au,e7,dP⟩:=ab.at k hk;obtain⟨eF,fB,rfl,fm⟩:=e7.form;obtain⟨oJ,lb,rfl,lc⟩:=dP.form;have pc:=aK.proc _ (GR hk);replace au:=au.ext aJ;refine aa ?_;intro aN dR kT ah b9;replace al:=ah.obj al;replace av:=ah.obj av;refine aa ?_;intro aU ax;replace al:=ax.obj al;replace av:=ax.obj av;replace b9:=ax.obj b9;have bD:=(aJ.trans ah).trans ax;refine aa ?_;refine J_ (apD (w0:=w) _ m k aU aW bD aK) ?_;rintro _ bt ⟨⟨afX,rfl,mb⟩,aI⟩;refine⟨aI,?_⟩;have bJ:=bD.trans aI;obtain⟨mj,GV,ka,ks,k3,jE,pq,rR,oQ,C5,rfl,_⟩:=(mb _ bJ).form;refine aa ?_;refine J_ (apY m.procs[k] _ _ (o.ht m k) bt ⟨mc,_,_,rfl,e7.ext bJ,dP.ext bJ⟩ (mb _ bJ) (aK.ht _) pc) ?_;rintro _ bz ⟨rfl,aM⟩;replace al:=(aI.trans aM).obj al;replace av:=(aI.trans aM).obj av;replace b9:=(aI.trans aM).obj b9;have cv:=bJ.trans aM;clear aJ bD au;have fs:=o.abg m.procs[k] (o.ht m k) 140737488351232 fun c an=>by have:=(pc.cmd c an).bQ;unfold o.ew at this;omega
 have alp:m.procs[k].vars.length<=140737488351232:=by have:=pc.vars;unfold o.ew at this;omega
 have o5:m.procs[k].cQ.length<=140737488351232:=by have:=pc.cQ;unfold o.ew at this;omega
 refine aa ?_;apply I_<;>intro g2;rotate_left
 .rw[if_pos g2] at eC;refine aa ?_;intro bK dL ct;refine aa ?_;exact⟨by rw[eC,if_pos g2];rfl,dL.ext cv AK⟩
 rw[if_neg (by simpa using g2)] at eC;have hlen:∀(i:Int),m.scalars.length+o.cS 1 4 i m.vars.length+o.cS 2 4 i m.aw.length+o.cS 3 4 k m.procs.length+o.ie 4 i m.props.length<=8000000000000:=fun i=>by
  have cZ:=o.xq 1 4 i m.vars.length;have dt:=o.xq 2 4 i m.aw.length;have ef:o.cS 3 4 k m.procs.length<=k:=by unfold o.cS; (repeat' split)<;>omega
  have gP:o.ie 4 i m.props.length=0:=by unfold o.ie;rw[if_neg BN]
  omega
 refine aa ?_;intro bK bq;replace al:=bq.obj al;replace av:=bq.obj av;replace b9:=bq.obj b9;have dz:=cv.trans bq;refine aa ?_;refine J_ (DA _ m 4 k bK (aW.ext dz) AK AK (hlen k)) ?_;rintro _ c4 ⟨⟨v,rfl,fO⟩,bG⟩;refine⟨bG,?_⟩;rw[o.aeb] at fO;replace al:=bG.obj al;replace av:=bG.obj av;replace b9:=bG.obj b9;have fk:=dz.trans bG;refine aa ?_;refine J_ (EA v _ m.procs[k].name _ c4 fO) ?_;rintro _ oO ⟨rfl,rfl⟩;refine aa ?_;apply I_<;>intro g3
 .rw[if_pos g3] at eC;refine aa ?_;intro c6 hQ dD;refine aa ?_;exact⟨by rw[eC];rfl,hQ.ext fk AK⟩
 rw[if_neg g3] at eC;have sm:m.procs.length*80<=140737488355328:=by have:=aK.procs;unfold o.ew at this;omega
 have E6:m.scalars.length+o.cS 1 5 (0:Nat) m.vars.length+o.cS 2 5 (0:Nat) m.aw.length+o.cS 3 5 (0:Nat) m.procs.length+o.ie 5 (0:Nat) m.props.length<=8000000000000:=by
  have cZ:=o.xq 1 5 (0:Nat) m.vars.length;have dt:=o.xq 2 5 (0:Nat) m.aw.length;have ef:=o.xq 3 5 (0:Nat) m.procs.length;have gP:o.ie 5 (0:Nat) m.props.length=0:=by unfold o.ie;rw[if_pos BN];simp
  omega
 have yg:=al;have zS:=av;have X2:=b9;clear al av b9 fO;have al:=yg;have b9:=X2;refine aa ?_;refine L_ 9 m.procs[k].vars.length [1,2,4,5] (fun _:Unit=>[]) () (fun j _ w'=>Ext oO w'/\∀i,i<j->o.q9 m m.procs[k] i=0) bc bc ⟨Ext.refl _,fun j h=>absurd h (K8 _)⟩ ?_;clear al b9;rintro j _ S c6 aF ⟨b5,bI⟩;have al:=b5.obj yg;have av:=b5.obj zS;have b9:=b5.obj X2;have ll:=fk.trans b5;refine aa ?_;apply I_<;>intro g4
 .have ek:j<m.procs[k].vars.length:=AK
  obtain⟨cF,rfl⟩:=e7.addr;have ej:=((e7.at j ek).cells).ext ll;have gf:=o.Cy (f:=fun x:o.Var=>x.name) ek;refine aa ?_;intro eO cr;replace al:=cr.obj al;replace av:=cr.obj av;replace b9:=cr.obj b9;replace ej:=ej.ext cr;have lk:=ll.trans cr;refine aa ?_;refine J_ (DA _ m 5 (0:Nat) eO (aW.ext lk) AK AK E6) ?_;rintro _ gy ⟨⟨v2,rfl,Ff⟩,e6⟩;refine⟨e6,?_⟩;rw[o.Vo] at Ff;replace al:=e6.obj al;replace av:=e6.obj av;replace b9:=e6.obj b9;have zz:=lk.trans e6;refine aa ?_;refine J_ (EA v2 _ m.procs[k].vars[j].name _ gy Ff) ?_;rintro _ AV ⟨rfl,rfl⟩;have dI:o.sv m 0=o.jz m m.procs.length:=by simp[o.sv]
  rw[dI];refine aa ?_;apply I_<;>intro g5
  .have uP:o.q9 m m.procs[k] j=7:=by unfold o.q9;rw[gf,if_pos g5]
   rw[o.jH ek bI (by rw[uP];decide),uP,if_pos (show(7:Int)≠0 by decide)] at eC;refine aa ?_;intro ji lP iX;refine aa ?_;exact⟨by rw[eC];rfl,lP.ext zz AK⟩
  .refine aa ?_;refine⟨ek,aL,(),trivial,(b5.trans cr).trans e6,fun i U=>?_⟩;by_cases Cc:i=j
   .subst Cc;unfold o.q9;rw[gf,if_neg g5]
   .exact bI i AK
 .rw[o.pO fun i U=>bI i AK,if_neg Bs] at eC;refine aa ?_;intro eO pe kk;refine aa ?_;exact⟨by rw[eC];rfl,pe.ext ll AK⟩
theorem apA(cs:C_ B_)(m:o.Model)(k:Nat)(w:A_)(h:o.eh w cs m)(aK:m.cK)(hk:k<m.props.length)(YM:k<=8)(Jp:m.scalars.length<=2/\m.vars.length<=12/\m.aw.length<=4)(Ci:m.procs.length<=6) :
  DD F.KS #[.agg cs.toArray,.I k] w fun v w'=>v = .I (o.nF m k)/\Ext w w':=by
 have aW:=h;obtain⟨b6,bx,bR,c1,bX,c2,bZ,bu,ca,bC,rfl,af,h1,I,ab,aH,e2,eE,eJ,er,eH⟩:=h.form;have eC:=o.D7 hk;refine br E.KS ?_;refine aa ?_;intro w1 bw cM ai al;refine aa ?_;apply I_<;>intro g1
 .rw[if_pos AK] at eC;refine aa ?_;exact⟨by rw[eC],ai⟩
 rw[if_neg AK] at eC;obtain⟨a,rfl⟩:=aH.addr;obtain⟨mc,gZ,au,h7⟩:=aH.at k hk;obtain⟨QV,ce,rfl,le⟩:=h7.form;replace au:=au.ext ai;refine aa ?_;intro aD dR kT aj b9;replace al:=aj.obj al;have aJ:=ai.trans aj;refine aa ?_;refine J_ (CK m.props[k].name aD mc) ?_;rintro _ aN ⟨rfl,ah⟩;replace al:=ah.obj al;replace b9:=ah.obj b9;have a7:=aJ.trans ah;refine aa ?_;refine N_ (fun g2=>?_) (fun g2=>?_);rotate_left
 .rw[if_pos g2] at eC;refine aa ?_;exact⟨by rw[eC],a7⟩
 rw[if_neg (by rw[g2];decide)] at eC;refine aa ?_;intro aU ax;replace al:=ax.obj al;replace b9:=ax.obj b9;have bD:=a7.trans ax;refine aa ?_;refine J_ (DA _ m 5 k aU (aW.ext bD) AK AK (by
  have cZ:=o.xq 1 5 k m.vars.length;have dt:=o.xq 2 5 k m.aw.length;have ef:=o.xq 3 5 k m.procs.length;have gP:o.ie 5 k m.props.length<=k:=by unfold o.ie; (repeat' split)<;>omega
  omega)) ?_
 rintro _ bt ⟨⟨v2,rfl,Ff⟩,aI⟩;refine⟨aI,?_⟩;rw[o.Vo] at Ff;replace al:=aI.obj al;replace b9:=aI.obj b9;have bJ:=bD.trans aI;refine aa ?_;refine J_ (EA v2 _ m.props[k].name _ bt Ff) ?_;rintro _ AV ⟨rfl,rfl⟩;refine aa ?_;apply I_<;>intro g3
 .rw[if_pos g3] at eC;refine aa ?_;exact⟨by rw[eC],bJ⟩
 rw[if_neg g3] at eC;have mb:∀w',Ext w w'->o.fZ w' [.slice b6 m.scalars.length bx,.slice bR m.vars.length c1,.slice bX m.aw.length c2,.slice bZ m.procs.length bu,.slice none 0 0,.I 0] (o.eR m):=fun w' e =>
  ⟨aK.scope.rM.1,_,_,_,_,_,rfl,af.ext e,h1.ext e,I.ext e,ab.ext e,bn.nil,aK.scope.rM.2⟩
 refine aa ?_;refine J_ (abK _ m.props[k].expr _ (o.eR m) _ (h7.ext bJ) (mb _ bJ)) ?_;rintro _ bz ⟨rfl,aM⟩;refine aa ?_;apply I_<;>intro g4;rotate_left
 .rw[if_pos g4] at eC;refine aa ?_;exact⟨by rw[eC],bJ.trans aM⟩
 rw[if_neg (by simpa using g4)] at eC;refine aa ?_;apply I_<;>intro g5;rotate_left
 .rw[if_pos g5] at eC;refine aa ?_;exact⟨by rw[eC],bJ.trans aM⟩
 rw[if_neg (by simpa using g5)] at eC;refine aa ?_;exact⟨by rw[eC],bJ.trans aM⟩
theorem apt(cs:C_ B_)(m:o.Model)(w:A_)(h:o.eh w cs m)(aK:m.cK) :
  DD F.KN #[.agg cs.toArray] w fun v w'=>v=BL (o.check m)/\Ext w w':=by
 have aW:=h;obtain⟨b6,bx,bR,c1,bX,c2,bZ,bu,ca,bC,rfl,af,h1,I,ab,aH,e2,eE,eJ,er,eH⟩:=h.form;refine br E.KN ?_;simp -dsimp only[cB];refine eb ?_;intro w1 bw cM ai al;refine eb ?_;intro aD bS dm aj av;replace al:=aj.obj al;have aJ:=ai.trans aj;have gz:=cA al;have z2:=cA av;have z3:=ai.size;refine eb ?_;simp -dsimp only[cB];refine eb ?_;refine J_ (apu _ m aD (aW.ext aJ)) ?_;rintro _ aN ⟨rfl,ah⟩;replace al:=ah.obj al;replace av:=ah.obj av;unfold BL;have z4:=aj.size;have z5:=ah.size;refine eb ?_;intro aU bW fe ax bl;replace al:=ax.obj al;replace av:=ax.obj av;have bD:=(aJ.trans ah).trans ax;have A1:=cA bl;have yg:=al;have zS:=av;have BV:=aW.ext bD;refine eb ?_;refine S_ [1,2,3] (fun _:o.sL=>[]) (fun f w'=>Mod (fun i=>i=bW) aU w'/\w'.heap[bW]? = some (.cells #[.I f.cN,.I f.part,.I f.item,.I f.sub] T.x) /\
  ((f.cN≠0/\f=o.check m)\/(f.cN=0/\(o.data m).cN=0/\∀j,j<m.procs.length->(o.iV m j).1=0))) ?_ ?_
 .refine aa ?_;refine L_ 4 m.procs.length [1,2,3] (fun _:o.sL=>[]) (o.data m) (fun k f w'=>Mod (fun i=>i=bW) aU w'/\w'.heap[bW]? = some (.cells #[.I f.cN,.I f.part,.I f.item,.I f.sub] T.x) /\
   ((f=o.data m/\(o.data m).cN≠0)\/((o.data m).cN=0/\f.cN=0/\∀j,j<k->(o.iV m j).1=0)\/((o.data m).cN=0/\f=o.mL m/\(o.mL m).cN≠0))) bc bc ⟨Mod.refl _ _,bl,by
     by_cases h:(o.data m).cN=0
     .exact .inr (.inl ⟨h,h,fun j h=>absurd h (K8 _)⟩)
     .exact .inl ⟨rfl,h⟩⟩ ?_
  clear al av bl;rintro k f S bt hk ⟨m5,bl,ay⟩;have al:=m5.obj AK yg;have av:=m5.obj AK zS;have bJ:=m5.ext bD (fun i U e=>AK);have WZ:f.cN≠0->(f.cN≠0/\f=o.check m):=fun hw=>⟨hw,by
   rcases ay with ⟨rfl,h⟩ | ⟨_,h,_⟩ | ⟨h1,rfl,I⟩
   .rw[o.check,if_pos h]
   .exact absurd h hw
   .rw[o.check,if_neg (by simpa using h1),if_pos I]⟩
  refine aa ?_;apply I_<;>intro g1
  .have a1:k<m.procs.length:=AK
   refine aa ?_;apply I_<;>intro g2
   .have lJ:(o.data m).cN=0/\f.cN=0/\∀j,j<k->(o.iV m j).1=0:=by
     rcases ay with ⟨rfl,h⟩ | h | ⟨h1,rfl,I⟩
     .exact absurd g2 h
     .exact h
     .exact absurd g2 I
    have E0:k<=6:=by
     apply Classical.byContradiction;intro az
     have:=o.Ik (m:=m) (i:=6) AK (lJ.2.2 6 AK)
     omega
    refine aa ?_;refine J_ (apz _ m k bt (aW.ext bJ) aK a1 E0 (o.H0 lJ.1) fun _=>lJ.2.2) ?_;rintro _ bz ⟨rfl,aM⟩;unfold BL;replace al:=aM.obj al;replace av:=aM.obj av;replace bl:=aM.obj bl;refine aa ?_;intro bK dL ct;refine aa ?_;refine⟨a1,aL,_,trivial,(m5.trans aM.mod).trans (dL.mod rfl),ct,?_⟩;by_cases af:(o.iV m k).1=0
    .rw[if_neg (by simpa using af)];refine .inr (.inl ⟨lJ.1,rfl,fun j aF=>?_⟩);by_cases hh:j=k
     .subst hh;exact af
     .exact lJ.2.2 j AK
    .rw[if_pos af]
     have:=o.Gi a1 lJ.2.2 af
     exact .inr (.inr ⟨lJ.1,this.symm,by rw[this];exact af⟩)
   .refine aa ?_;exact⟨f,trivial,m5,bl,.inl (WZ g2)⟩
  .refine aa ?_;refine⟨f,trivial,m5,bl,?_⟩;by_cases hw:f.cN=0
   .refine .inr ?_;rcases ay with ⟨rfl,h⟩ | ⟨h1,I,ab⟩ | ⟨h1,rfl,I⟩
    .exact absurd hw h
    .exact⟨I,h1,fun j aF=>ab j AK⟩
    .exact absurd hw I
   .exact .inl (WZ hw)
 clear al av bl;rintro f S bt ⟨m5,bl,ay⟩;have al:=m5.obj AK yg;have av:=m5.obj AK zS;have bJ:=m5.ext bD (fun i U e=>AK);refine aa ?_;apply I_<;>intro g1;rotate_left
 .have l7:f=o.check m:=by
   rcases ay with ⟨_,h⟩ | ⟨h,_⟩
   .exact h
   .exact absurd h g1
  refine aa ?_;intro bz gV cb;refine aa ?_;exact⟨by rw[l7],gV.ext bJ AK⟩
 have dh:(o.data m).cN=0/\∀j,j<m.procs.length->(o.iV m j).1=0:=by
  rcases ay with ⟨h,_⟩ | ⟨_,h⟩
  .exact absurd g1 h
  .exact h
 obtain⟨bb,l5⟩:=dh;have Jp:=o.H0 bb;have sm:m.procs.length<=6:=by
  apply Classical.byContradiction;intro az
  have:=o.Ik (i:=6) AK (l5 6 AK)
  omega
 have sj:o.vy m:=⟨AK,AK,AK,fun p au=>by
  obtain⟨j,aF,rfl⟩:=List.mem_iff_getElem.1 au
  have:=o.Q8 (o.D6 aF (l5 j aF)).2.1
  omega⟩
 have rv:=o.Q9 l5;have l7:o.check m=if (o.mL m).cN≠0 then o.mL m else o.p0 m:=by rw[o.check,if_neg (by simpa using bb)]
 clear bl;refine aa ?_;refine J_ (apy _ m bt (aW.ext bJ) sj) ?_;rintro _ bz ⟨rfl,aM⟩;replace al:=aM.obj al;replace av:=aM.obj av;have cv:=bJ.trans aM;refine aa ?_;apply I_<;>intro g2
 .rw[if_pos (.inl AK)] at rv;rw[rv,if_pos (show(11:Int)≠0 by decide)] at l7;refine aa ?_;intro bK dL ct;refine aa ?_;exact⟨by rw[l7];rfl,dL.ext cv AK⟩
 refine aa ?_;apply I_<;>intro g3
 .rw[if_pos (.inr AK)] at rv;rw[rv,if_pos (show(11:Int)≠0 by decide)] at l7;refine aa ?_;intro bK dL ct;refine aa ?_;exact⟨by rw[l7];rfl,dL.ext cv AK⟩
 rw[if_neg AK] at rv;rw[rv,if_neg (by simp[o.uH])] at l7;have ai1:=al;have ai5:=av;refine aa ?_;refine L_ 8 m.props.length [1,2] (fun _:Unit=>[]) () (fun k _ w'=>Ext bz w'/\∀j,j<k->o.nF m j=0) bc bc ⟨Ext.refl _,fun j h=>absurd h (K8 _)⟩ ?_;clear al av;rintro k _ k7 bK hk ⟨bq,bI⟩;have al:=bq.obj ai1;have av:=bq.obj ai5;have dz:=cv.trans bq;refine aa ?_;apply I_<;>intro g4
 .have a1:k<m.props.length:=AK
  have YM:k<=8:=by
   apply Classical.byContradiction;intro az
   have:=o.agC (m:=m) (i:=8) AK (bI 8 AK)
   omega
  refine aa ?_;refine J_ (apA _ m k bK (aW.ext dz) aK a1 YM Jp sm) ?_;rintro _ c4 ⟨rfl,bG⟩;replace al:=bG.obj al;replace av:=bG.obj av;refine aa ?_;apply I_<;>intro g5;rotate_left
  .rw[o.abj a1 bI g5] at l7;refine aa ?_;intro c6 hQ dD;refine aa ?_;exact⟨by rw[l7];rfl,hQ.ext (dz.trans bG) AK⟩
  .refine aa ?_;refine⟨a1,aL,(),trivial,bq.trans bG,fun j aF=>?_⟩;by_cases hh:j=k
   .subst hh;simpa using g5
   .exact bI j AK
 .rw[o.Rb fun j aF=>bI j AK] at l7;refine aa ?_;intro c4 jc cG;refine aa ?_;exact⟨by rw[l7];rfl,jc.ext dz AK⟩
end Go.Proofs.R
end
section
namespace ba
open Go Go.RowKit
def vh(l:C_ ByteArray):C_ (ByteArray×B_):=l.map fun x=>(x,.bool true)
theorem aqm(l:C_ ByteArray)(x:ByteArray):((vh l).find? (fun p=>decide (x=p.1))).map (·.2)=if x∈l then some (.bool true) else none:=by
 induction l with
 | nil=>rfl
 | cons y l fh =>
  simp only[vh,List.map_cons,List.find?_cons,List.mem_cons];by_cases h:x=y
  .simp[h]
  .simp only[h,decide_false,false_or];exact fh
structure Bc(es:Array MapEntry)(c:Nat)(L:List ByteArray):Prop where
 Aq:∃l,iQ Value.string es.toList (vh l)/\∀x,x∈l↔x∈L
 born:∀e∈es.toList,e.born<c
 nodup:(es.toList.map (·.born)).Nodup
theorem iQ.mem{l:C_ ByteArray}:∀{es:C_ MapEntry},iQ Value.string es (vh l)->∀e∈es,∃x∈l,e.key = .string x/\e.val = .bool true:=by
 induction l with
 | nil=>intro es h e he;cases es with | nil=>cases he | cons _ _=>simp[iQ,vh] at h
 | cons y l fh =>
  intro es h e he;cases es with
  | nil=>cases he
  | cons f es =>
   simp only[iQ,vh,List.map_cons,List.cons.injEq,Prod.mk.injEq] at h;rcases List.mem_cons.1 he with rfl | he
   .exact⟨y,Bs,h.1.1,h.1.2⟩
   .obtain⟨x,ag,I⟩:=fh (es:=es) h.2 e he;exact⟨x,by simp[ag],I⟩
theorem iQ.QW{l:C_ ByteArray}:∀{es:C_ MapEntry},iQ Value.string es (vh l)->∀x∈l,∃e∈es,e.key = .string x:=by
 induction l with
 | nil=>intro es h x ag;cases ag
 | cons y l fh =>
  intro es h x ag;cases es with
  | nil=>simp[iQ,vh] at h
  | cons f es =>
   simp only[iQ,vh,List.map_cons,List.cons.injEq,Prod.mk.injEq] at h;rcases List.mem_cons.1 ag with rfl | ag
   .exact⟨f,Bs,h.1.1⟩
   .obtain⟨e,he,I⟩:=fh (es:=es) h.2 x ag;exact⟨e,by simp[he],I⟩
theorem Bc.mem{es:Array MapEntry}{c:Nat}{L:C_ ByteArray}(h:Bc es c L):∀e∈es.toList,∃x∈L,e.key = .string x/\e.val = .bool true:=fun e he=>by
 obtain⟨l,h1,I⟩:=h.Aq;obtain⟨x,ag,ab⟩:=h1.mem e he;exact⟨x,(I x).1 ag,ab⟩
theorem Bc.QW{es:Array MapEntry}{c:Nat}{L:C_ ByteArray}(h:Bc es c L):∀x∈L,∃e∈es.toList,e.key = .string x:=fun x ag=>by
 obtain⟨l,h1,I⟩:=h.Aq;exact h1.QW x ((I x).2 ag)
theorem NT{d:TypeDesc}{k:B_}:∀{es:C_ MapEntry} {i j:Nat} {v:B_},Instr.findNow d k es i=some (some (j,v))->i<=j/\∃e,es[j - i]? = some e/\Instr.sameNow d k e.key=some true
 | [],i,j,v,h=>by simp[Instr.findNow] at h
 | e :: es,i,j,v,h=>by
  unfold Instr.findNow at h;split at h
  .rename_i ak;injection h with h;injection h with h;injection h with h1 I
   subst h1;exact⟨GA _,e,Bs,ak⟩
  .obtain⟨h1,e',I,ab⟩:=NT h;refine⟨AK,e',?_,ab⟩;rw[show j - i=(j - (i+1))+1 from AK,List.getElem?_cons_succ];exact I
  .cases h
theorem amZ{es:Array MapEntry}{j:Nat}{e:MapEntry}{f:MapEntry->MapEntry}(aF:es[j]? = some e)(ay:f e=e):es.modify j f=es:=by
 apply Array.ext_getElem?;intro i;rw[Array.getElem?_modify];by_cases h:j=i
 .subst h;rw[if_pos rfl,aF,AG3,ay]
 .rw[if_neg h]
def ga(w:A_)(b:Nat)(L:C_ ByteArray):Prop := ∃es c,w.heap[b]? = some (.map es c)/\Bc es c L
theorem ga.of{w w':A_}{b:Nat}{L:C_ ByteArray}(h:ga w b L)(e:w'.heap[b]? = w.heap[b]?):ga w' b L:=let ⟨es,c,h1,I⟩:=h; ⟨es,c,e.trans h1,I⟩
theorem ga.lt{w:A_}{b:Nat}{L:C_ ByteArray}(h:ga w b L):b<w.heap.size:=let ⟨_,_,h1,_⟩:=h;cA h1
theorem ga.ext{w w':A_}{b:Nat}{L:C_ ByteArray}(h:ga w b L)(e:Ext w w'):ga w' b L:=h.of (e.heap h.lt)
theorem ga.wr{w w':A_}{b k:Nat}{L:C_ ByteArray}(h:ga w b L)(e:dy k w w')(hk:b≠k):ga w' b L:=h.of (e.block b hk)
theorem ga.jB{w:A_}{b:Nat}{L nv:C_ ByteArray}(h:ga w b L)(e:∀x,x∈L↔x∈nv):ga w b nv:=by
 obtain⟨es,c,h1,⟨⟨l,I,ab⟩,aH,a8⟩⟩:=h;exact⟨es,c,h1,⟨⟨l,I,fun x=>(ab x).trans (e x)⟩,aH,a8⟩⟩
theorem ga.empty{w:A_}{b:Nat}(h:w.heap[b]? = some (.map #[] 0)):ga w b []:=⟨_,_,h,⟨⟨[],rfl,fun _=>Iff.rfl⟩,fun e he=>by simp at he,Bs⟩⟩
theorem ga.look{w:A_}{b:Nat}{L:C_ ByteArray}(h:ga w b L)(x:ByteArray):∃es r,rX w (.map (some b)) es/\Instr.findNow .string (.string x) es.toList 0=some r/\nn (.bool false) false r = .bool (decide (x∈L)):=by
 obtain⟨es,c,h1,⟨⟨l,I,ab⟩,_,_⟩⟩:=h;obtain⟨r,nk,kn⟩:=zD Lu x es.toList _ 0 I;rw[aqm] at kn;refine⟨es,r,.inr ⟨b,c,rfl,h1⟩,nk,?_⟩;by_cases ag:x∈L
 .rw[if_pos ((ab x).2 ag)] at kn;simp[nn,kn,ag]
 .rw[if_neg (fun h=>ag ((ab x).1 h))] at kn;simp[nn,kn,ag]
theorem ga.put{w:A_}{b:Nat}{L:C_ ByteArray}(h:ga w b L)(x:ByteArray):∃es c q,w.heap[b]? = some (.map es c)/\Instr.findNow .string (.string x) es.toList 0=some q /\
  ∀w':A_,w'.heap[b]? = some (su es c (.string x) (.bool true) q)->ga w' b (L++[x]):=by
 obtain⟨es,c,h1,hm⟩:=h;obtain⟨l,I,ab⟩:=hm.Aq;obtain⟨r,nk,kn⟩:=zD Lu x es.toList _ 0 I;refine⟨es,c,r,h1,nk,fun w' hw=>?_⟩;cases r with
 | none =>
  refine⟨_,_,hw,⟨⟨l++[x],?_,fun y=>?_⟩,?_,?_⟩⟩
  .have:=iQ.push I x (.bool true) c
   simpa[vh] using this
  .simp[ab y]
  .intro e he;simp only[Array.toList_push,List.mem_append,List.mem_singleton] at he;rcases he with he | rfl
   .have:=hm.born e he;omega
   .show c<c+1;omega
  .simp only[Array.toList_push,List.map_append,List.map_cons,List.map_nil];rw[AK1];refine⟨hm.nodup,Bs,fun a aV gS BY=>?_⟩;obtain⟨e,he,rfl⟩:=List.mem_map.1 aV;simp only[List.mem_singleton] at BY
   have:=hm.born e he
   omega
 | some Qq =>
  obtain⟨j,v⟩:=Qq;obtain⟨_,e,he,ak⟩:=NT nk;have uS:e∈es.toList:=List.mem_of_getElem? he;obtain⟨y,bV,hk,aG⟩:=hm.mem e uS;have alB:x=y:=by rw[hk,Lu] at ak;simpa using ak
  subst alB;have alb:es.modify j (fun e=>{ e with key:=.string x,val:=.bool true })=es:=amZ (e:=e) (by simpa using he) (by cases e;simp only at hk aG;subst hk aG;rfl);have nR:w'.heap[b]? = some (.map es c):=by rw[hw];show some (Obj.map (es.modify j _) c)=_;rw[alb]
  exact⟨es,c,nR,⟨⟨l,I,fun z=>by rw[ab z];simp;rintro rfl;exact bV⟩,hm.born,hm.nodup⟩⟩
def ob(w:A_)(r b:Nat)(L D:C_ ByteArray)(n:Nat)(cur:H_ ByteArray):Prop :=
 ∃es c since seen bx,w.heap[b]? = some (.map es c)/\Bc es c L/\w.heap[r]? = some (.mapIter (some b) since seen bx)/\(∀x∈es.toList,x.born<since)/\since<=bx/\since<=c/\(leftOf es seen).size=n /\
  (∀e∈es.toList,seen.contains e.born=true->∃x∈D,e.key = .string x)/\(∀x∈D,x∈L)/\(∀x,cur=some x->∃(RH:Array Nat) (e:MapEntry),bx=c/\seen=RH.push e.born/\e∈es.toList/\e.key = .string x/\e.val = .bool true)
theorem ob.of{w w':A_}{r b:Nat}{L D:C_ ByteArray}{n:Nat}{cur:H_ ByteArray}(h:ob w r b L D n cur)(bB:w'.heap[b]? = w.heap[b]?)(aJ:w'.heap[r]? = w.heap[r]?):ob w' r b L D n cur :=
 let ⟨es,c,since,seen,bx,h1,I,ab,aH⟩:=h; ⟨es,c,since,seen,bx,bB.trans h1,I,aJ.trans ab,aH⟩
theorem ob.sub{w:A_}{r b:Nat}{L D:C_ ByteArray}{n:Nat}{cur:H_ ByteArray}(h:ob w r b L D n cur):∀x∈D,x∈L:=let ⟨_,_,_,_,_,_,_,_,_,_,_,_,_,I,_⟩:=h;I
theorem ob.ne{w:A_}{r b:Nat}{L D:C_ ByteArray}{n:Nat}{cur:H_ ByteArray}(h:ob w r b L D n cur):r≠b:=by
 obtain⟨es,c,since,seen,bx,h1,I,ab,aH⟩:=h;intro e;rw[e,h1] at ab;cases ab
theorem ob.lt{w:A_}{r b:Nat}{L D:C_ ByteArray}{n:Nat}{cur:H_ ByteArray}(h:ob w r b L D n cur):r<w.heap.size:=by
 obtain⟨es,c,since,seen,bx,h1,I,ab,aH⟩:=h;exact cA ab
theorem ob.wr{w w':A_}{r b k:Nat}{L D:C_ ByteArray}{n:Nat}{cur:H_ ByteArray}(h:ob w r b L D n cur)(e:dy k w w')(h1:b≠k)(I:r≠k):ob w' r b L D n cur:=h.of (e.block b h1) (e.block r I)
theorem ar4(k:Nat)(w:A_):dy k w w.drew:=⟨rfl,rfl,rfl,rfl,fun _ _=>rfl⟩
section
variable{P:Program}{cT:Value->World->Prop}{S:Fr}{w:World}{KW:World->Prop}{aE:Value->Prop}
theorem AA2{b:Nat}{L:C_ ByteArray}{x:ByteArray}{t}(h:ga w b L)(hk:aE (.bool (decide (x∈L)))):Ba .string (.bool false) false (.map (some b)) (.string x) w aE t:=by
 obtain⟨es,r,h1,I,ab⟩:=h.look x;exact _m h1 I (by rw[ab];exact hk)
theorem _x{b:Nat}{L:C_ ByteArray}{x:ByteArray}{t}(h:ga w b L)(hk:∀w1,dy b w w1->ga w1 b (L++[x])->KW w1):y3 .string (.map (some b)) (.string x) (.bool true) w KW t:=by
 obtain⟨es,c,q,h1,I,ab⟩:=h.put x;exact _t h1 I (hk _ (dy.fF w b _) (ab _ (CR (cA h1))))
theorem AB9{b:Nat}{L:C_ ByteArray}{x:G_}{hY k e ty:F_}{t}(ag:aX S x = .map (some b))(aB:P.underlying hY=some (.map k e))(h:ga w b L)
  (hk:∀w1 r n,w.heap.size<=r->Ext w w1->ob w1 r b L [] n none->cT (.pointer (some ⟨r,0,none⟩)) w1):sP P (.range hY x) ty S w cT t:=by
 obtain⟨es,c,h1,I⟩:=h;have h8:=run_range_map (P:=P) w hY k e b es c aB h1;refine _D (v:=.pointer (some ⟨w.heap.size,0,none⟩)) (w':=w.alloc (.mapIter (some b) c #[] c)) (by simp[execOp,ag,h8,Result.andThen]) ?_;refine hk _ _ _ (GA _) ((Ext.refl w).alloc _) ⟨es,c,c,#[],c,heap_alloc_old h1,I,heap_alloc_new w _,I.born,GA _,GA _,rfl,?_,?_,?_⟩
 .intro e _ h;simp at h
 .intro x ag;cases ag
 .intro x ag;cases ag
theorem AC0{r b n:Nat}{L D:C_ ByteArray}{cur:H_ ByteArray}{x:G_}{ty:F_}{t}(ag:aX S x = .pointer (some ⟨r,0,none⟩))(h:ob w r b L D n cur)
  (af:(∀y∈L,y∈D)->cT (.tuple #[.bool false]) w)
  (h1:∀y w1 je,y∈L->je<n->dy r w w1->ob w1 r b L (D++[y]) je (some y)->cT (.tuple #[.bool true,.string y,.bool true]) w1):sP P (.next x false) ty S w cT t:=by
 have cz:=h.ne;obtain⟨es,c,since,seen,bx,ao,hm,aP,hold,mb,PL,az,im,Xx,_⟩:=h;rcases run_next_at (P:=P) w ty r b since bx seen es c aP ao hold mb with ⟨bI,h8⟩ | ⟨e,he,w1,XV,h8⟩
 .refine _D (v:=.tuple #[.bool false]) (w':=w) (by simp[execOp,ag,h8,Result.andThen]) (af fun y bV=>?_);obtain⟨e,he,hk⟩:=hm.QW y bV;obtain⟨z,Zw,tG⟩:=im e he (all_seen es seen bI e he);rw[hk] at tG;injection tG with tG
  rw[tG];exact Zw
 .obtain⟨O1,atG⟩:=mem_left he;obtain⟨y,bV,hk,aG⟩:=hm.mem e O1;have iy:dy r w w1:=by
   rcases XV with rfl | rfl
   .exact dy.refl _ _
   .exact ar4 r w
  have dr:w1.heap.size=w.heap.size:=iy.size;have ix:r<w1.heap.size:=by rw[dr];exact cA aP
  have PK:Go.ChangeMaps.setBlock w1 r (.mapIter (some b) since (seen.push e.born) c)=ba.fF w1 r (.mapIter (some b) since (seen.push e.born) c):=rfl;rw[PK] at h8;refine _D (v:=.tuple #[.bool true,e.key,e.val]) (w':=fF w1 r (.mapIter (some b) since (seen.push e.born) c)) (by simp[execOp,ag,h8,Result.andThen]) ?_;rw[hk,aG];refine h1 y _ _ bV (Nat.lt_of_lt_of_eq (left_shrinks es seen e he) az) (iy.trans (dy.fF _ _ _)) ⟨es,c,since,seen.push e.born,c,?_,hm,CR ix,hold,PL,PL,rfl,fun f ay an=>?_,fun z bI=>?_,fun z bI=>?_⟩
  .rw[RK (Ne.symm cz)];rcases XV with rfl | rfl<;>exact ao
  .rw[contains_push] at an;rcases Bool.or_eq_true_iff.1 an with an | an
   .obtain⟨x,oF,gW⟩:=im f ay an;exact⟨x,by simp[oF],gW⟩
   .have qo:f.born=e.born:=by simpa using an
    have a8:=find_born f es.toList hm.nodup ay;rw[qo,find_born e es.toList hm.nodup O1] at a8;injection a8 with a8
    have:f=e:=a8.symm
    subst this;exact⟨y,Bs,hk⟩
  .rcases List.mem_append.1 bI with bI | bI
   .exact Xx z bI
   .simp only[List.mem_singleton] at bI;subst bI;exact bV
  .injection bI with bI
   subst bI;exact⟨seen,e,rfl,rfl,O1,hk,aG⟩
theorem AC1{r b n:Nat}{L D:C_ ByteArray}{y:ByteArray}{x:G_}{ty:F_}{t}(ag:aX S x = .pointer (some ⟨r,0,none⟩))(h:ob w r b L D n (some y))
  (hk:cT (.tuple #[.string y,.bool true]) w):sP P (.entry x) ty S w cT t:=by
 obtain⟨es,c,since,seen,bx,ao,hm,aP,hold,mb,PL,az,im,Xx,an⟩:=h;obtain⟨RH,e,rfl,rfl,he,zY,cI⟩:=an y rfl;have h8:(Instr.entry (.pointer (some ⟨r,0,none⟩))).run P w = .ok (.tuple #[e.key,e.val]) w:=run_entry_at w r b since RH es bx e aP ao he hm.nodup;refine _D (v:=.tuple #[e.key,e.val]) (w':=w) (by simp[execOp,ag,h8,Result.andThen]) ?_;rw[zY,cI];exact hk
end
end ba
end
section
namespace Go.Proofs.R
open Go Go.RowKit ba
def xp(f:o.sL):C_ PanicEntry:=[{ v:=.iface T.ij (.agg #[.int .i64 f.cN,.int .i64 f.part,.int .i64 f.item,.int .i64 f.sub]),recovered:=false }]
theorem rO(e p i s:Int)(w:A_):qY Tryz.prog F.d #[.I e,.I p,.I i,.I s] w (fun _ w'=>e=0/\w'=w) (fun c w'=>e≠0/\c=xp ⟨e,p,i,s⟩/\w'=w):=by
 refine _o lN E.d Bp (args:=[_,_,_,_]) (Nat.le_of_ble_eq_true rfl) ?_;dsimp only[C.d];refine oh ?_;refine aa ?_;refine I_ (fun g=>?_) (fun g=>?_)
 .refine aa ?_;exact⟨g,aL⟩
 .refine aa ?_;exact⟨g,aL,aL⟩
theorem LO(b:Nat)(L:C_ ByteArray)(x:ByteArray)(p i:Int)(w:A_)(h:ga w b L):qY Tryz.prog F.p #[.map (some b),.string x,.I p,.I i] w
  (fun _ w' => ¬x∈L/\dy b w w'/\ga w' b (L++[x])) (fun c w'=>x∈L/\c=xp ⟨7,p,i,0⟩/\w'=w):=by
 refine _o lN E.p Bp (args:=[_,_,_,_]) (Nat.le_of_ble_eq_true rfl) ?_;dsimp only[C.p];refine oh ?_;refine aa ?_;refine AA2 h ?_;refine aa ?_;refine I_ (fun g=>?_) (fun g=>?_)
 .refine aa ?_;refine X_ (rO 7 p i 0 w) ?_ ?_
  .rintro _ _ ⟨af,_⟩;exact absurd af BN
  .rintro c _ ⟨_,rfl,rfl⟩;refine aa ?_;exact⟨g,aL,aL⟩
 .refine aa ?_;refine _x h fun w1 hw h1=>?_;refine aa ?_;exact⟨g,hw,h1⟩
end Go.Proofs.R
end