/- Parts. -/
import Derived.Test.YtakmdjclehkglaaGreatDoorQasn
set_option linter.all false
set_option maxRecDepth 8000
set_option maxHeartbeats 16000000
section
namespace Go.Proofs.R
open Go Go.RowKit ba
theorem Lq(v:B_)(l:C_ Int)(n:Int)(w:A_)(aC:oX w v l):DD F.Ks #[v,.I n] w fun v w'=>v = .tuple #[.I (o.hZ l n).1,.bool (decide ((o.hZ l n).2=0))]/\Ext w w':=by
 obtain⟨aQ,cap,rfl,hlen⟩:=aC.form;refine br E.Ks ?_;refine aA ?_;apply I_<;>intro g1
 .refine aA ?_;rw[o.hZ,o.gX (.inl g1)];exact cd
 refine aA ?_;apply I_<;>intro g2
 .refine aA ?_;rw[o.hZ,o.gX (.inr AK)];exact cd
 obtain⟨i,rfl⟩:=QA (show 0<=n by omega);obtain⟨a,rfl⟩:=aC.addr;refine aA ?_;rw[o.hZ,o.iM AK AK];simp only[Int.toNat_natCast];exact cd
theorem arJ(l:C_ Int)(n:Int):(o.hZ l n).2=0\/o.hZ l n=(0,8):=by
 unfold o.hZ;split
 .exact .inl rfl
 .exact .inr rfl
theorem AR(b:Bool)(w:A_):DD F.Kq #[.bool b] w fun v w'=>v = .I (o.bit b)/\w'=w:=by
 refine br E.Kq ?_;refine aA ?_;refine N_ (fun h=>?_) (fun h=>?_)
 all_goals
  subst h;refine aA ?_;exact⟨rfl,trivial⟩
theorem RF(n:Int)(w:A_):DD F.Kj #[.I n] w fun v w'=>v = .bool (o.within n)/\w'=w:=by
 refine br E.Kj ?_
 (repeat' (refine aA ?_;first | (refine I_ (fun _=>?_) (fun _=>?_)<;>try (exfalso;omega)) | refine N_ (fun _=>?_) (fun _=>?_)))<;>try refine aA ?_
 all_goals
  refine⟨?_,aL⟩;congr 1
  first | (rw[AG4];simp[o.within];omega) | (simp[o.within];omega)
theorem R4(a b n:Int)(w:A_):DD F.Ki #[.I a,.I b,.I n] w
  fun v w'=>v = .tuple #[.I (if o.within a&&o.within b&&o.within n then n else 0),.bool (o.within a&&o.within b&&o.within n)]/\w'=w:=by
 refine br E.Ki ?_;refine aA ?_;refine J_ (RF a w) ?_;rintro _ _ ⟨rfl,rfl⟩;refine aA ?_;cases h1:o.within a with
 | false =>
  refine aA ?_;exact⟨Bs,trivial⟩
 | true =>
  refine aA ?_;refine J_ (RF b _) ?_;rintro _ _ ⟨rfl,rfl⟩;refine aA ?_;cases I:o.within b with
  | false =>
   refine aA ?_;exact⟨Bs,trivial⟩
  | true =>
   refine aA ?_;refine J_ (RF n _) ?_;rintro _ _ ⟨rfl,rfl⟩;refine aA ?_;cases ab:o.within n with
   | false =>
    refine aA ?_;exact⟨Bs,trivial⟩
   | true =>
    refine aA ?_;exact⟨Bs,trivial⟩
theorem R5(f:Int->Int->Int)(a b n:Int)(h:o.within a=true->o.within b=true->n=f a b) :
  (if (o.within a&&o.within b&&o.within n)=true then n else 0)=(o.tell f a b).1/\(o.within a&&o.within b&&o.within n)=(o.tell f a b).2:=by
 unfold o.tell;cases h1:o.within a with
 | false=>simp
 | true =>
  cases I:o.within b with
  | false=>simp
  | true =>
   rw[h h1 I];cases ab:o.within (f a b)<;>simp
theorem apf:uh F.Ke (o.tell (· + ·)):=by
 intro a b w;refine br E.Ke ?_;refine aA ?_;refine _l ?_;refine aA ?_;refine J_ (R4 a b _ w) ?_;rintro _ _ ⟨rfl,rfl⟩;obtain⟨h1,I⟩:=R5 (· + ·) a b (IntKind.i64.wrap (a+b)) (fun h1 I=>by simp[o.within] at h1 I;exact IntWalk.i64_in _ AK);rw[h1,I];refine aA ?_;exact cd
theorem ab4:uh F.Kh (o.tell (· - ·)):=by
 intro a b w;refine br E.Kh ?_;refine aA ?_;refine _l ?_;refine aA ?_;refine J_ (R4 a b _ w) ?_;rintro _ _ ⟨rfl,rfl⟩;obtain⟨h1,I⟩:=R5 (· - ·) a b (IntKind.i64.wrap (a - b)) (fun h1 I=>by simp[o.within] at h1 I;exact IntWalk.i64_in _ AK);rw[h1,I];refine aA ?_;exact cd
theorem apP:uh F.Kf (o.tell (· * ·)):=by
 intro a b w;refine br E.Kf ?_;refine aA ?_;refine _l ?_;refine aA ?_;refine J_ (R4 a b _ w) ?_;rintro _ _ ⟨rfl,rfl⟩;obtain⟨h1,I⟩:=R5 (· * ·) a b (IntKind.i64.wrap (a*b)) (fun h1 I=>by simp[o.within] at h1 I;have:=aaG h1 I;exact IntWalk.i64_in _ AK);rw[h1,I];refine aA ?_;exact cd
def rP(op a b:Int):Int×Int:=match o.hj op with | some ae=>o.xu ae [a,b] | none=>(0,0)
theorem api(op a b:Int)(w:A_)(mG:11<=op/\op<=19) :
  DD F.Kt #[.I op,.I a,.I b] w fun v w'=>v = .tuple #[.I (rP op a b).1,.I (rP op a b).2]/\Ext w w':=by
 have num:∀f:Int->Int->Int×Bool,(if (f a b).2=true then ((f a b).1,(0:Int)) else (0,10))=(let r:=f a b;if r.2=true then (r.1,0) else (0,10)):=fun _=>rfl;have an:op=11\/op=12\/op=13\/op=14\/op=15\/op=16\/op=17\/op=18\/op=19:=AK
 refine br E.Kt ?_;rcases an with e | e | e | e | e | e | e | e | e
 .have key:rP op a b=if (o.tell (· + ·) a b).2=true then ((o.tell (· + ·) a b).1,0) else (0,10):=by subst e;rfl
  rw[key];refine aA ?_;refine J_ (apf a b w) ?_;rintro _ w1 ⟨rfl,ai⟩;refine aA ?_;refine N_ (fun h=>?_) (fun h=>?_)
  all_goals
   refine aA ?_;rw[h];exact cd
 .have key:rP op a b=if (o.tell (· - ·) a b).2=true then ((o.tell (· - ·) a b).1,0) else (0,10):=by subst e;rfl
  rw[key];refine aA ?_;refine J_ (ab4 a b w) ?_;rintro _ w1 ⟨rfl,ai⟩;refine aA ?_;refine N_ (fun h=>?_) (fun h=>?_)
  all_goals
   refine aA ?_;rw[h];exact cd
 .have key:rP op a b=if (o.tell (· * ·) a b).2=true then ((o.tell (· * ·) a b).1,0) else (0,10):=by subst e;rfl
  rw[key];refine aA ?_;refine J_ (apP a b w) ?_;rintro _ w1 ⟨rfl,ai⟩;refine aA ?_;refine N_ (fun h=>?_) (fun h=>?_)
  all_goals
   refine aA ?_;rw[h];exact cd
 .have key:rP op a b=(o.bit (decide (a=b)),0):=by subst e;rfl
  rw[key];refine aA ?_;refine J_ (AR _ w) ?_;rintro _ _ ⟨rfl,rfl⟩;refine aA ?_;exact cd
 .have key:rP op a b=(o.bit (!decide (a=b)),0):=by subst e;rfl
  rw[key];refine aA ?_;refine J_ (AR _ w) ?_;rintro _ _ ⟨rfl,rfl⟩;refine aA ?_;exact cd
 .have key:rP op a b=(o.bit (decide (a<b)),0):=by subst e;rfl
  rw[key];refine aA ?_;refine J_ (AR _ w) ?_;rintro _ _ ⟨rfl,rfl⟩;refine aA ?_;exact cd
 .have key:rP op a b=(o.bit (decide (a<=b)),0):=by subst e;rfl
  rw[key];refine aA ?_;refine J_ (AR _ w) ?_;rintro _ _ ⟨rfl,rfl⟩;refine aA ?_;exact cd
 .have key:rP op a b=(o.bit (!decide (a=0) && !decide (b=0)),0):=by subst e;rfl
  rw[key];refine aA ?_;refine I_ (fun h1=>?_) (fun h1=>?_)
  all_goals
   refine aA ?_;refine J_ (AR _ w) ?_;rintro _ _ ⟨rfl,rfl⟩;refine aA ?_;refine⟨?_,fK⟩;simp[h1]
 .have key:rP op a b=(o.bit (!decide (a=0) || !decide (b=0)),0):=by subst e;rfl
  rw[key];refine aA ?_;refine I_ (fun h1=>?_) (fun h1=>?_)
  all_goals
   refine aA ?_;refine J_ (AR _ w) ?_;rintro _ _ ⟨rfl,rfl⟩;refine aA ?_;refine⟨?_,fK⟩;simp[h1]
end Go.Proofs.R
end
section
namespace Go.Proofs.R
open Go Go.RowKit ba
theorem LZ(l:C_ Int)(n:Int):(decide ((o.hZ l n).2=0)=true->o.hZ l n=((o.hZ l n).1,0))/\(decide ((o.hZ l n).2=0)=false->o.hZ l n=(0,8)):=by
 rcases arJ l n with h | h
 .exact⟨fun _=>Prod.ext rfl h,fun bo=>by simp[h] at bo⟩
 .exact⟨fun bo=>by simp[h] at bo,fun _=>h⟩
theorem ap5(x:o.Node)(cs:C_ B_)(v:o.Env)(w:A_)(ag:x.ok)(h:o.qd w cs v)(ab:x.op≠3)(t:Int) :
  DD F.Kz #[.agg x.enc.toArray,.agg cs.toArray] w fun u w'=>u = .tuple #[.I (o.ha x v t).1,.I (o.ha x v t).2]/\Ext w w':=by
 obtain⟨a0,bx,db,c1,a2,c2,a3,bu,rfl,pj,cZ,dt,ef,gP,e2,eE,eJ,er⟩:=h.form;refine br E.Kz ?_;refine aA ?_;refine O_ fun w1 bw cM ai al=>?_;refine aA ?_;refine O_ fun aD bS dm aj av=>?_;have he:=ai.trans aj;have cE:aD.heap[bw]? = some (.cells #[.I x.op,.I x.n] T.h):=aj.obj al;clear al;refine aA ?_;apply I_<;>intro g1
 .have hk:o.ha x v t=if o.within x.n then (x.n,0) else (0,10):=by rw[o.ha,if_pos g1]
  (repeat' (refine aA ?_;first | (refine I_ (fun _=>?_) (fun _=>?_)<;>try (exfalso;omega)) | refine N_ (fun _=>?_) (fun _=>?_)))<;>try refine aA ?_
  all_goals
   refine⟨?_,fK⟩;rw[hk];unfold o.within;split<;>first | rfl | (rename_i c3;simp at c3;exfalso;omega)
 refine aA ?_;apply I_<;>intro g2
 .by_cases uI:x.n<0\/(v.vars.length:Int)<=x.n
  .have hk:o.ha x v t=(0,8):=by rw[o.ha,if_neg g1,if_pos g2,o.gX uI]
   rw[hk]
   (repeat' (refine aA ?_;first | (refine I_ (fun _=>?_) (fun _=>?_)<;>try (exfalso;omega)) | refine N_ (fun _=>?_) (fun _=>?_)))<;>try refine aA ?_
   all_goals exact cd
  obtain⟨i,U⟩:=QA (show 0<=x.n by omega);have jX:i<v.vars.length:=AK
  obtain⟨a,rfl⟩:=pj.addr;obtain⟨bL,kl,gu⟩:=pj.at i jX;have az:o.nth v.vars x.n=some v.vars[i]:=by rw[U,o.iM AK AK];simp only[Int.toNat_natCast]
  have hk:o.ha x v t=o.hZ v.vars[i] 0:=by rw[o.ha,if_neg g1,if_pos g2,az]
  rw[hk];rw[U] at cE;refine aA ?_;refine M_ (he.cell kl) ?_;refine aA ?_;refine J_ (Lq _ v.vars[i] 0 aD (gu.ext he)) ?_;rintro _ aN ⟨rfl,ah⟩;obtain⟨ks,jE⟩:=LZ v.vars[i] 0;refine aA ?_;refine N_ (fun g=>?_) (fun g=>?_)
  .refine aA ?_;rw[ks g];exact cd
  .refine aA ?_;rw[jE g];exact cd
 refine aA ?_;apply I_<;>intro g4
 .have hk:o.ha x v t=o.hZ v.locals x.n:=by rw[o.ha,if_neg g1,if_neg g2,if_neg ab,if_pos g4]
  rw[hk];refine aA ?_;refine J_ (Lq _ v.locals x.n aD (dt.ext he)) ?_;rintro _ aN ⟨rfl,ah⟩;obtain⟨ks,jE⟩:=LZ v.locals x.n;refine aA ?_;refine N_ (fun g=>?_) (fun g=>?_)
  .refine aA ?_;rw[ks g];exact cd
  .refine aA ?_;rw[jE g];exact cd
 refine aA ?_;apply I_<;>intro g5
 .have hk:o.ha x v t=(v.self,0):=by rw[o.ha,if_neg g1,if_neg g2,if_neg ab,if_neg g4,if_neg AK,if_pos g5]
  rw[hk];refine aA ?_;exact cd
 refine aA ?_;apply I_<;>intro g6
 .have hk:o.ha x v t=o.hZ v.lens x.n:=by rw[o.ha,if_neg g1,if_neg g2,if_neg ab,if_neg g4,if_pos g6]
  rw[hk];refine aA ?_;refine J_ (Lq _ v.lens x.n aD (cZ.ext he)) ?_;rintro _ aN ⟨rfl,ah⟩;obtain⟨ks,jE⟩:=LZ v.lens x.n;refine aA ?_;refine N_ (fun g=>?_) (fun g=>?_)
  .refine aA ?_;rw[ks g];exact cd
  .refine aA ?_;rw[jE g];exact cd
 refine aA ?_;apply I_<;>intro g7;rotate_left
 .have hk:o.ha x v t=(0,0):=by rw[o.ha,if_neg g1,if_neg g2,if_neg ab,if_neg g4,if_neg g6,if_neg g5,if_neg g7]
  rw[hk];refine aA ?_;exact cd
 have hk:o.ha x v t=if 0<=x.n then (match o.nth v.at_ (x.n.tdiv 16) with | some l=>o.hZ l (x.n.tmod 16) | none=>(0,8)) else (0,8):=by
  rw[o.ha,if_neg g1,if_neg g2,if_neg ab,if_neg g4,if_neg g6,if_neg g5,if_pos g7];split
  .cases o.nth v.at_ (x.n.tdiv 16)<;>rfl
  .rfl
 refine aA ?_;apply I_<;>intro g8
 .rw[hk,if_neg AK];refine aA ?_;exact cd
 rw[if_pos AK] at hk;obtain⟨i,U⟩:=QA (show 0<=x.n by omega);obtain⟨_,gW⟩:=ag.n;rw[U] at gW;have ar:x.n.tdiv 16=((i / 16:Nat):Int):=by rw[U];rfl
 have akm:x.n.tmod 16=((i % 16:Nat):Int):=by rw[U];rfl
 refine aA ?_;refine _J AK ?_;rw[ar];refine aA ?_;apply I_<;>intro g9
 .rw[hk,o.gX (.inr AK)];refine aA ?_;exact cd
 have aF:i / 16<v.at_.length:=AK
 obtain⟨a,rfl⟩:=ef.addr;obtain⟨bL,kl,gu⟩:=ef.at (i / 16) aF;rw[ar,o.iM AK AK] at hk;simp only[Int.toNat_natCast] at hk;rw[hk];refine aA ?_;refine _J AK ?_;rw[ar];refine aA ?_;refine M_ (he.cell kl) ?_;refine aA ?_;refine _s AK ?_;refine aA ?_;refine P_ _ (fun w' e=>Lq _ v.at_[i / 16] _ w' (gu.ext (he.trans e))) ?_;obtain⟨ks,jE⟩:=LZ v.at_[i / 16] (x.n.tmod 16);refine aA ?_;intro aN ah;refine aA ?_;refine N_ (fun g=>?_) (fun g=>?_)
 .refine aA ?_;rw[ks g];exact cd
 .refine aA ?_;rw[jE g];exact cd
def tS(x:o.Node)(k:Int)(v:o.Env):Int×Int:=match o.hj x.op with | some ae=>o.xu ae [k] | none=>o.ha x v k
theorem apN(x:o.Node)(k:Int)(cs:C_ B_)(v:o.Env)(w:A_)(h:o.qd w cs v)(mG:x.op=3\/x.op=9\/x.op=10) :
  DD F.Ku #[.agg x.enc.toArray,.I k,.agg cs.toArray] w fun u w'=>u = .tuple #[.I (tS x k v).1,.I (tS x k v).2]/\Ext w w':=by
 obtain⟨a0,bx,db,c1,a2,c2,a3,bu,rfl,pj,cZ,dt,ef,gP,e2,eE,eJ,er⟩:=h.form;refine br E.Ku ?_;refine aA ?_;refine O_ fun w1 bw cM ai al=>?_;refine aA ?_;refine O_ fun aD bS dm aj av=>?_;have he:=ai.trans aj;have cE:aD.heap[bw]? = some (.cells #[.I x.op,.I x.n] T.h):=aj.obj al;clear al;refine aA ?_;apply I_<;>intro g9
 .have hk:tS x k v=(o.bit (decide (k=0)),0):=by rw[tS,g9];rfl
  rw[hk];refine aA ?_;refine J_ (AR _ aD) ?_;rintro _ _ ⟨rfl,rfl⟩;refine aA ?_;exact cd
 refine aA ?_;apply I_<;>intro g10
 .have hk:tS x k v=if (o.tell (· - ·) 0 k).2=true then ((o.tell (· - ·) 0 k).1,0) else (0,10):=by rw[tS,g10];rfl
  rw[hk];refine aA ?_;refine J_ (ab4 0 k aD) ?_;rintro _ aN ⟨rfl,ah⟩;refine aA ?_;refine N_ (fun g=>?_) (fun g=>?_)
  all_goals
   refine aA ?_;rw[g];exact cd
 have g3:x.op=3:=AK
 have gr:tS x k v=o.ha x v k:=by rw[tS,show o.hj x.op=none from by rw[g3];rfl]
 have hk:tS x k v=(match o.nth v.vars x.n with | some l=>(match o.nth l (k - 1) with | some y=>(y,0) | none=>(0,10)) | none=>(0,8)):=by
  rw[gr,o.ha,if_neg AK,if_neg AK,if_pos g3];cases o.nth v.vars x.n with
  | none=>rfl
  | some l=>simp only;cases o.nth l (k - 1)<;>rfl
 clear gr;by_cases uI:x.n<0\/(v.vars.length:Int)<=x.n
 .rw[o.gX uI] at hk;rw[hk]
  (repeat' (refine aA ?_;first | (refine I_ (fun _=>?_) (fun _=>?_)<;>try (exfalso;omega)) | refine N_ (fun _=>?_) (fun _=>?_)))<;>try refine aA ?_
  all_goals exact cd
 obtain⟨i,U⟩:=QA (show 0<=x.n by omega);have jX:i<v.vars.length:=AK
 obtain⟨a,rfl⟩:=pj.addr;obtain⟨bL,kl,gu⟩:=pj.at i jX;obtain⟨cn,ci,rfl,li⟩:=gu.form;rw[U,o.iM AK AK] at hk;simp only[Int.toNat_natCast] at hk;rw[U] at cE;have kn:=gu.ext he;generalize v.vars[i]=l at *;by_cases Ee:k<1\/(l.length:Int)<k
 .rw[o.gX AK] at hk;simp only at hk;rw[hk];by_cases as1:k<1
  .refine aA ?_;exact cd
  .refine aA ?_;refine M_ (he.cell kl) ?_;refine aA ?_;exact cd
 obtain⟨j,aF⟩:=QA (show 0<=k - 1 by omega);have sk:j<l.length:=AK
 rw[o.iM AK AK] at hk;simp only[aF,Int.toNat_natCast] at hk;rw[hk];obtain⟨cF,rfl⟩:=gu.addr;refine aA ?_;refine M_ (he.cell kl) ?_;refine aA ?_;refine M_ (he.cell kl) ?_;refine aA ?_;refine K_ j AK AK ?_;refine aA ?_;exact cd
end Go.Proofs.R
end
section
namespace Go.Proofs.R
open Go Go.RowKit ba
theorem ag7{v:o.Env}{x:o.Node}{st:C_ Int}(h:o.fI x.op=0):o.jn v x st=o.ha x v (st.getLastD 0):=by
 unfold o.jn;rw[(Le h).2.2.2]
theorem ag8{v:o.Env}{x:o.Node}{st:C_ Int}(h:o.fI x.op=1)(aC:1<=st.length):o.jn v x st=tS x st[st.length - 1] v:=by
 unfold o.jn tS;cases aO:o.hj x.op with
 | none=>simp only;rw[Ed st AK]
 | some ae =>
  have:=(o.Ge aO).1
  simp only;rw[show ae.parts.toNat=1 from AK,Nx aC]
theorem ag9{v:o.Env}{x:o.Node}{st:C_ Int}(h:o.fI x.op=2)(aC:2<=st.length):o.jn v x st=rP x.op st[st.length - 2] st[st.length - 1]:=by
 unfold o.jn rP;obtain⟨ae,aO,au⟩:=aaZ (show 9<=x.op/\x.op<=19 by have:=Lf h;omega);rw[aO];simp only;rw[show ae.parts.toNat=2 from AK,Wm aC]
theorem Rs(gZ:B_)(e:C_ o.Node)(cs:C_ B_)(v:o.Env)(w:A_)(he:o.eS w gZ e)(h:o.qd w cs v) :
  DD F.FM #[gZ,.agg cs.toArray] w fun u w'=>u = .tuple #[.I (o.eval e v).1,.I (o.eval e v).2]/\Ext w w':=by
 obtain⟨v0,v1,v2,v3,rfl,_⟩:=h.ex;obtain⟨aQ,cap,rfl,hlen⟩:=he.form;refine br E.FM ?_;refine aA ?_;refine O_ fun w1 dd tA ai al=>?_;refine aA ?_;apply I_<;>intro g1
 .refine aA ?_;rw[o.eval,o.mN,if_pos AK];exact cd
 refine aA ?_;apply I_<;>intro g2
 .refine aA ?_;rw[o.eval,o.mN,if_neg AK,if_pos AK];exact cd
 refine aA ?_;refine _i 7 e.length (fun k S w' => ∃u st,S 6=u/\nw w1.heap.size w' u st/\o.gi (o.jn v) (e.take k) []=(0,st)/\(0<k->1<=st.length)/\st.length<=12/\Ext w1 w')
  (by simp -dsimp only[c7,cB,Nat.reduceAdd,Nat.reduceEqDiff,reduceIte,reduceCtorEq,df]) ⟨.slice none 0 0,[],by simp -dsimp only[c7,cB,Nat.reduceAdd,Nat.reduceEqDiff,reduceIte,reduceCtorEq,df],aS.nil _ _ _ _ _,by simp[o.gi],Bs,Bs,Ext.refl _⟩ ?_
 rintro k S aD cc hk cj ⟨v6,st,bE,fO,h8,Ei,sd,aj⟩;have af:=cc 0 rfl;have ab:=cc 3 rfl;simp only[bN,Nat.reduceAdd,Nat.reduceEqDiff,reduceIte,kh,nG] at af ab;clear cc;obtain⟨qK,o1,rfl,cb,jZ⟩:=fO.form;have U:Ints aD _ st:=aS.jD (enc:=encI) (sz:=1) (fun _=>rfl) fO;unfold maxLen at jZ;refine dx (i_ af (i_ ab (i_ bE cj))) ?_;apply I_<;>intro g3;rotate_left
 .have a1:k=e.length:=AK
  subst a1;rw[AF3] at h8;have h1:=Ei AK;obtain⟨a,rfl⟩:=U.addr h1;have dW:o.eval e v=if st.length > 1 then (0,5) else (st.headD 0,0):=by
   rw[o.eval,o.mN,if_neg AK,if_neg AK,h8,if_neg Bs]
  rw[dW];clear dW;refine dx (i_ af (i_ ab (i_ bE cj))) ?_;apply I_<;>intro g4
  .refine aA ?_;rw[if_pos AK];exact cd
  .refine dx (i_ af (i_ ab (i_ bE cj))) ?_;refine K_ 0 rfl AK ?_;refine aA ?_;rw[if_neg AK]
   have:st.headD 0=st[0]:=by
    cases st with
    | nil=>simp at h1
    | cons z st=>rfl
   rw[this];exact cd
 have a1:k<e.length:=AK
 obtain⟨a,rfl⟩:=he.addr;have uX:=(he.at k a1).ok;have kV:=fun af=>o.RC (f:=o.jn v) (e:=e) AK a1 h8 af;have uT:=o.CM a1 h8;have Eg:=ai.trans aj;have ep:=aj.obj al;refine dx (i_ af (i_ ab (i_ bE cj))) ?_;refine J_ (acN e[k].op aD) ?_;rintro _ _ ⟨rfl,rfl⟩;generalize az:o.fI e[k].op=n at *;have j0 : -1<=n/\n<=2:=by rw[<-az];unfold o.fI; (repeat' split)<;>omega
 refine dx (i_ af (i_ ab (i_ bE cj))) ?_;apply I_<;>intro g4
 .have ak:o.stepG (o.jn v) e[k] st=(3,st):=by unfold o.stepG;rw[az,if_pos g4]
  rw[ak] at kV;refine aA ?_;rw[o.eval,kV Bs];exact cd
 refine dx (i_ af (i_ ab (i_ bE cj))) ?_;apply I_<;>intro g5
 .have ak:o.stepG (o.jn v) e[k] st=(4,st):=by unfold o.stepG;rw[az,if_neg g4,if_pos g5]
  rw[ak] at kV;refine aA ?_;rw[o.eval,kV Bs];exact cd
 obtain⟨p,rfl⟩:=QA (show 0<=n by omega);have eQ:o.stepG (o.jn v) e[k] st=if (o.jn v e[k] st).2≠0 then ((o.jn v e[k] st).2,st) else if (st.take (st.length - p)++[(o.jn v e[k] st).1]).length > 12 then (12,st) else (0,st.take (st.length - p)++[(o.jn v e[k] st).1]):=by
  unfold o.stepG;rw[az,if_neg g4,if_neg g5];simp only[Int.toNat_natCast]
 have iw:(st.take (st.length - p)++[(o.jn v e[k] st).1]).length=st.length - p+1:=by simp[List.length_take]
 rw[iw] at eQ;have fin:p=0\/p=1\/p=2:=AK
 rcases fin with Ab | Ab | Ab
 .have ay:=ag7 (v:=v) (st:=st) (x:=e[k]) AK;obtain⟨gz,z2,z3,z4⟩:=Le (x:=e[k].op) AK;refine dx (i_ af (i_ ab (i_ bE cj))) ?_;refine R_ (c:=[_,_,_,_,_]) ep (Ext.refl _) rfl ?_;refine dx (i_ af (i_ ab (i_ bE cj))) ?_;refine P_ _ (fun w' e'=>ap5 e[k] _ v w' uX (h.ext (Eg.trans e')) z3 (st.getLastD 0)) ?_;rw[<-ay];refine dx (i_ af (i_ ab (i_ bE cj))) ?_;intro aN ah;refine dx (i_ af (i_ ab (i_ bE cj))) ?_;apply I_<;>intro g6;rotate_left
  .rw[if_pos g6] at eQ;refine aA ?_;rw[o.eval,kV (by rw[eQ];exact g6),eQ];exact cd
  rw[if_neg (by simpa using g6)] at eQ;have dT:=fO.ext ah;refine dx (i_ af (i_ ab (i_ bE cj))) ?_;refine Y_ (cs:=[]) (by simp[List.range,List.range.loop,fa]) fun aU cC ff ax bp=>?_;have z12:=aj.size;have z23:=ah.size;have C7:=ax.size;have tn:nw w1.heap.size aU (.slice (some ⟨cC,0,none⟩) 0 0) []:=aS.empty AK bp;have dO:=dT.ext ax;have dF:nw w1.heap.size aU (.slice _ (st.length - p) _) (st.take (st.length - p)):=aS.head (enc:=encI) (sz:=1) (xs:=st) (fun _=>rfl) dO (st.length - p) (AH6 _ _);have cg:(st.take (st.length - p)).length=st.length - p:=by simp[List.length_take]
  refine dx (i_ af (i_ ab (i_ bE cj))) ?_;refine _N (st.length - p) (by simp -dsimp only[c7,cB,Nat.reduceAdd,Nat.reduceEqDiff,reduceIte,reduceCtorEq,df,bE];first | rfl | (congr 1;omega)) AK ?_;refine aA ?_;refine _j (xs:=[]) (ys:=st.take (st.length - p)) tn dF (fun _=>rfl) sa (by rw[cg];simp only[List.length_nil];omega) (by rw[cg];simp only[List.length_nil,maxLen];omega) AK fun v5 bt ni hg=>?_;have oz:Ext aN bt:=ax.grown hg fun q ar=>by simp[Value.ownBlock] at ar;omega
  rw[AF8] at ni;have z35:=oz.size;refine aA ?_;refine Y_ (cs:=[(o.jn v e[k] st).1].flatMap encI) (by simp[List.range,List.range.loop,fa,lay,de,bN,Value.cells,encI]) fun bz ez gm aM cb=>?_;have A0:=aM.size;have dn:=ni.ext aM;refine aA ?_;refine _O (xs:=st.take (st.length - p)) (ys:=[(o.jn v e[k] st).1]) dn (fun _=>rfl) (gT cb) rfl sa (by rw[cg];simp only[List.length_cons,List.length_nil];omega) (by rw[cg];simp only[List.length_cons,List.length_nil,maxLen];omega) AK fun CZ bK ec kU=>?_;have bq:Ext w1 bK:=Ext.grown (((aj.trans ah).trans oz).trans aM) kU fun q ar=>(dn.lt q ar).1;obtain⟨Gc,la,rfl,_⟩:=ec.form;rw[iw] at ec ⊢;by_cases g7:12<st.length - p+1
  .rw[if_pos AK] at eQ
   first
    | (exfalso;omega)
    | (refine aA ?_
       rw[o.eval,kV (by rw[eQ];simp),eQ];exact⟨aL,ai.trans bq⟩)
  rw[if_neg AK] at eQ;refine dx cj ?_;refine⟨a1,aL,_,_,rfl,ec,by rw[uT,eQ],fun _=>by rw[iw];omega,by rw[iw];omega,bq⟩
 .have ay:=ag8 (v:=v) (st:=st) (x:=e[k]) AK AK;obtain⟨r2,rfl⟩:=U.addr;refine dx (i_ af (i_ ab (i_ bE cj))) ?_;refine K_ (st.length - 1) AK AK ?_;refine dx (i_ af (i_ ab (i_ bE cj))) ?_;refine R_ (c:=[_,_,_,_,_]) ep (Ext.refl _) rfl ?_;refine dx (i_ af (i_ ab (i_ bE cj))) ?_;refine P_ _ (fun w' e'=>apN e[k] _ _ v w' (h.ext (Eg.trans e')) (aaS AK)) ?_;rw[<-ay];refine dx (i_ af (i_ ab (i_ bE cj))) ?_;intro aN ah;refine dx (i_ af (i_ ab (i_ bE cj))) ?_;apply I_<;>intro g6;rotate_left
  .rw[if_pos g6] at eQ;refine aA ?_;rw[o.eval,kV (by rw[eQ];exact g6),eQ];exact cd
  rw[if_neg (by simpa using g6)] at eQ;have dT:=fO.ext ah;refine dx (i_ af (i_ ab (i_ bE cj))) ?_;refine Y_ (cs:=[]) (by simp[List.range,List.range.loop,fa]) fun aU cC ff ax bp=>?_;have z12:=aj.size;have z23:=ah.size;have C7:=ax.size;have tn:nw w1.heap.size aU (.slice (some ⟨cC,0,none⟩) 0 0) []:=aS.empty AK bp;have dO:=dT.ext ax;have dF:nw w1.heap.size aU (.slice _ (st.length - p) _) (st.take (st.length - p)):=aS.head (enc:=encI) (sz:=1) (xs:=st) (fun _=>rfl) dO (st.length - p) (AH6 _ _);have cg:(st.take (st.length - p)).length=st.length - p:=by simp[List.length_take]
  refine dx (i_ af (i_ ab (i_ bE cj))) ?_;refine _N (st.length - p) (by simp -dsimp only[c7,cB,Nat.reduceAdd,Nat.reduceEqDiff,reduceIte,reduceCtorEq,df,bE];first | rfl | (congr 1;omega)) AK ?_;refine aA ?_;refine _j (xs:=[]) (ys:=st.take (st.length - p)) tn dF (fun _=>rfl) sa (by rw[cg];simp only[List.length_nil];omega) (by rw[cg];simp only[List.length_nil,maxLen];omega) AK fun v5 bt ni hg=>?_;have oz:Ext aN bt:=ax.grown hg fun q ar=>by simp[Value.ownBlock] at ar;omega
  rw[AF8] at ni;have z35:=oz.size;refine aA ?_;refine Y_ (cs:=[(o.jn v e[k] st).1].flatMap encI) (by simp[List.range,List.range.loop,fa,lay,de,bN,Value.cells,encI]) fun bz ez gm aM cb=>?_;have A0:=aM.size;have dn:=ni.ext aM;refine aA ?_;refine _O (xs:=st.take (st.length - p)) (ys:=[(o.jn v e[k] st).1]) dn (fun _=>rfl) (gT cb) rfl sa (by rw[cg];simp only[List.length_cons,List.length_nil];omega) (by rw[cg];simp only[List.length_cons,List.length_nil,maxLen];omega) AK fun CZ bK ec kU=>?_;have bq:Ext w1 bK:=Ext.grown (((aj.trans ah).trans oz).trans aM) kU fun q ar=>(dn.lt q ar).1;obtain⟨Gc,la,rfl,_⟩:=ec.form;rw[iw] at ec ⊢;by_cases g7:12<st.length - p+1
  .rw[if_pos AK] at eQ
   first
    | (exfalso;omega)
    | (refine aA ?_
       rw[o.eval,kV (by rw[eQ];simp),eQ];exact⟨aL,ai.trans bq⟩)
  rw[if_neg AK] at eQ;refine dx cj ?_;refine⟨a1,aL,_,_,rfl,ec,by rw[uT,eQ],fun _=>by rw[iw];omega,by rw[iw];omega,bq⟩
 .have ay:=ag9 (v:=v) (st:=st) (x:=e[k]) AK AK;obtain⟨r2,rfl⟩:=U.addr;refine dx (i_ af (i_ ab (i_ bE cj))) ?_;refine K_ (st.length - 2) AK AK ?_;refine dx (i_ af (i_ ab (i_ bE cj))) ?_;refine K_ (st.length - 1) AK AK ?_;refine dx (i_ af (i_ ab (i_ bE cj))) ?_;refine P_ _ (fun w' e'=>api e[k].op _ _ w' (Lf AK)) ?_;rw[<-ay];refine dx (i_ af (i_ ab (i_ bE cj))) ?_;intro aN ah;refine dx (i_ af (i_ ab (i_ bE cj))) ?_;apply I_<;>intro g6;rotate_left
  .rw[if_pos g6] at eQ;refine aA ?_;rw[o.eval,kV (by rw[eQ];exact g6),eQ];exact cd
  rw[if_neg (by simpa using g6)] at eQ;have dT:=fO.ext ah;refine dx (i_ af (i_ ab (i_ bE cj))) ?_;refine Y_ (cs:=[]) (by simp[List.range,List.range.loop,fa]) fun aU cC ff ax bp=>?_;have z12:=aj.size;have z23:=ah.size;have C7:=ax.size;have tn:nw w1.heap.size aU (.slice (some ⟨cC,0,none⟩) 0 0) []:=aS.empty AK bp;have dO:=dT.ext ax;have dF:nw w1.heap.size aU (.slice _ (st.length - p) _) (st.take (st.length - p)):=aS.head (enc:=encI) (sz:=1) (xs:=st) (fun _=>rfl) dO (st.length - p) (AH6 _ _);have cg:(st.take (st.length - p)).length=st.length - p:=by simp[List.length_take]
  refine dx (i_ af (i_ ab (i_ bE cj))) ?_;refine _N (st.length - p) (by simp -dsimp only[c7,cB,Nat.reduceAdd,Nat.reduceEqDiff,reduceIte,reduceCtorEq,df,bE];first | rfl | (congr 1;omega)) AK ?_;refine aA ?_;refine _j (xs:=[]) (ys:=st.take (st.length - p)) tn dF (fun _=>rfl) sa (by rw[cg];simp only[List.length_nil];omega) (by rw[cg];simp only[List.length_nil,maxLen];omega) AK fun v5 bt ni hg=>?_;have oz:Ext aN bt:=ax.grown hg fun q ar=>by simp[Value.ownBlock] at ar;omega
  rw[AF8] at ni;have z35:=oz.size;refine aA ?_;refine Y_ (cs:=[(o.jn v e[k] st).1].flatMap encI) (by simp[List.range,List.range.loop,fa,lay,de,bN,Value.cells,encI]) fun bz ez gm aM cb=>?_;have A0:=aM.size;have dn:=ni.ext aM;refine aA ?_;refine _O (xs:=st.take (st.length - p)) (ys:=[(o.jn v e[k] st).1]) dn (fun _=>rfl) (gT cb) rfl sa (by rw[cg];simp only[List.length_cons,List.length_nil];omega) (by rw[cg];simp only[List.length_cons,List.length_nil,maxLen];omega) AK fun CZ bK ec kU=>?_;have bq:Ext w1 bK:=Ext.grown (((aj.trans ah).trans oz).trans aM) kU fun q ar=>(dn.lt q ar).1;obtain⟨Gc,la,rfl,_⟩:=ec.form;rw[iw] at ec ⊢;by_cases g7:12<st.length - p+1
  .rw[if_pos AK] at eQ
   first
    | (exfalso;omega)
    | (refine aA ?_
       rw[o.eval,kV (by rw[eQ];simp),eQ];exact⟨aL,ai.trans bq⟩)
  rw[if_neg AK] at eQ;refine dx cj ?_;refine⟨a1,aL,_,_,rfl,ec,by rw[uT,eQ],fun _=>by rw[iw];omega,by rw[iw];omega,bq⟩
end Go.Proofs.R
end
section
namespace o
open Go
theorem ahw{m:Model}(aW:eX m){s:C_ Int}(ay:Fits m s):∀x∈s,-9223372036854775808<=x/\x<=9223372036854775807:=fun x ag=>by
 obtain⟨i,U,rfl⟩:=List.mem_iff_getElem.1 ag;have bo:i<(b1 m).length:=by have:=ay.len;unfold dN at this;omega
 have h1:=ay.cell i U bo;have I:=ae9 aW _ (GR bo);obtain⟨bw,bS,bW⟩:=I;omega
structure Tb(v:Env):Prop where
 vars:∀l∈v.vars,∀x∈l,ee x
 lens:∀x∈v.lens,ee x
 locals:∀x∈v.locals,ee x
 at_:∀l∈v.at_,∀x∈l,ee x
 self:ee v.self
theorem NI{m:Model}(aW:eX m){s:C_ Int}(ay:Fits m s){q:Nat}(ar:q<(insts m).length):Tb (cR m s q):=by
 have fs:=ahw aW ay;have uP:=(rC _ (GR ar)).elem;have gM:=Fz aW;refine⟨fun l aC x ag=>?_,fun x ag=>?_,fun x ag=>?_,fun l aC x ag=>?_,?_⟩
 .simp only[cR,List.mem_map] at aC;obtain⟨k,_,rfl⟩:=aC;exact fs x (List.mem_of_mem_drop (AJ9 ag))
 .simp only[cR,List.mem_map] at ag;obtain⟨k,_,rfl⟩:=ag;rw[List.getElem!_eq_getElem?_getD];cases hk:s[cm m k]? with
  | none=>simp[ee]
  | some y=>exact fs y (List.mem_of_getElem? hk)
 .rw[(GF s ar rfl).1] at ag;exact fs x (List.mem_of_mem_drop (AJ9 ag))
 .simp only[cR,List.mem_map] at aC;obtain⟨k,_,rfl⟩:=aC;unfold kz at ag;obtain⟨d,_,rfl⟩:=List.mem_map.1 ag
  have:=MR m s k d (insts m).length
  unfold ee;omega
 .rw[(GF s ar rfl).2];unfold ee;omega
end o
namespace ba
open Go Go.RowKit
theorem _k{b n k:Nat}{c:C_ B_}{ty:F_}{w:A_}{aE:B_->Prop}{t}(cs:C_ B_)(ao:w.heap[b]? = some (.cells c.toArray ty))(fx:(c.drop k).take n=cs)(az:cs.length=n)(hk:aE (.agg cs.toArray)):ui n (.pointer (some (Addr.add ⟨b,0,none⟩ k))) w aE t:=by
 refine Z_ (cs:=cs) (fun j v aF=>?_) az hk;subst fx;rw[List.getElem?_take] at aF;split at aF
 .rw[List.getElem?_drop] at aF;rw[add_add];exact fW ao (by simpa using aF)
 .cases aF
end ba
namespace Go.Proofs.R
open Go Go.RowKit ba
theorem Qm{w:A_}{v:B_}{l:C_ Int}(h:dw w v l)(fs:∀x∈l,o.ee x):oX w v l:=by
 obtain⟨aQ,cap,e,h1,I,ab,aH⟩:=h.ex;exact⟨aQ,cap,e,h1,I,ab,fun a aV i U=>⟨aH a aV i U,fs _ (GR U)⟩⟩
theorem ab0{w:A_}{v:B_}{l:C_ (C_ Int)}(h:xI w v l)(fs:∀r∈l,∀x∈r,o.ee x):vF w v l:=by
 obtain⟨aQ,cap,e,h1,I,ab,aH⟩:=h.ex;refine⟨aQ,cap,e,h1,I,ab,fun a aV i U=>?_⟩;obtain⟨u,hu,az⟩:=aH a aV i U;exact⟨u,hu,Qm az (fs _ (GR U))⟩
theorem NH{w:A_}{cs:C_ B_}{x:o.Env}(h:Mm w cs x)(aO:o.Tb x):o.qd w cs x:=by
 obtain⟨v0,v1,v2,v3,rfl,af,h1,I,ab⟩:=h.ex;exact⟨v0,v1,v2,v3,rfl,ab0 af aO.vars,Qm h1 aO.lens,Qm I aO.locals,ab0 ab aO.at_,aO.self⟩
def US(base:Nat)(ae:H_ (C_ Int))(u:B_)(w:A_):Prop :=
 (ae=none/\u = .tuple #[.slice none 0 0,.bool false])\/(∃t k1,ae=some t/\u = .tuple #[k1,.bool true]/\iS base w k1 t)
theorem ao6(cs:C_ B_)(v bL b2:B_)(m:o.Model)(s:C_ Int)(q p:Nat)(a:o.Act)(w:A_)(h:pD w cs m)(aK:m.cK)(aW:o.eX m)(ak:dw w v s)(ay:o.Fits m s)(aZ:o.fY m q p)
  (U:o.eS w bL a.index)(aG:o.eS w b2 a.value)(aV:o.n0 (o.inner (m.procs[p]'(aZ.au)) (o.eR m)) a) :
  DD F.F1 #[.agg cs.toArray,v,.I q,.agg (a.enc bL b2).toArray] w fun u w'=>US w.heap.size (o.h4 m s q a) u w'/\Ext w w':=by
 have eD:=h;obtain⟨eK,d0,dM,d1,et,d2,eB,d3,eL,d4,b6,bx,bR,c1,bX,c2,bZ,bu,ca,bC,cn,ci,fA,gp,rfl,dc,sf,en,dU,du,eW,fQ,af,h1,I,ab,aio,Ol⟩:=h.form;obtain⟨os,r9,rfl,F5⟩:=ak.form;obtain⟨Q1,dk,rfl,w8⟩:=U.form;obtain⟨tT,tg,rfl,lvl⟩:=aG.form;have z1:=aV.kind;have hlen:=ay.len;have kA:o.dN m<=64:=o.jd aW;have gM:=aW.gM;have ar:=aZ.ar;have at0:=aZ.Gt aW;obtain⟨f6,f7,f8⟩:=o.tI m;obtain⟨EW,qB⟩:=o.rB ar;have dh:=o.NI aW ay ar;refine br E.F1 ?_;refine J ?_;intro w1 cC ff ai bp;refine J ?_;intro aD hp ir aj ct;replace bp:=aj.obj bp;have aJ:=ai.trans aj;unfold o.Act.enc at ct;refine J ?_;apply I_<;>intro g5
 .obtain⟨gI,e1⟩:=aV.chan (.inr g5);have fl:a.to.toNat<m.aw.length:=e1;have hq:a.to=(a.to.toNat:Nat):=AK
  rw[hq] at ct;refine J ?_;refine J_ (Rn _ _ m s a.to.toNat aD (eD.ext aJ) aW (ak.ext Flat.ext aJ) hlen fl) ?_;rintro u aN ⟨hu,ah⟩;obtain⟨xd,uC,rfl,_⟩:=hu.form;have dY:(o.chanOf m s a.to.toNat).length=1+o.gE m a.to.toNat:=o.uz (by rw[hlen];exact o.nA fl);have Fi:=o.xS aW fl;have Zk:=o.nA fl;obtain⟨e2,E9⟩:=aV.recv g5;have E8:a.loc.toNat<(m.procs[p]'(aZ.au)).vars.length:=E9;have ak6:=aZ.room;have done:o.h4 m s q a=o.yM m s q a:=by unfold o.h4;rw[if_pos g5]
  rw[done];unfold o.yM;replace bp:=ah.obj bp;replace ct:=ah.obj ct;have a7:=aJ.trans ah;refine J ?_;refine J_ (ap0 _ _ aN hu AK) ?_;rintro u aU ⟨bU,ax⟩;replace bp:=ax.obj bp;replace ct:=ax.obj ct;have bD:=a7.trans ax;rcases bU with ⟨fD,rfl⟩ | ⟨r,x,hy,ja,rfl,wJ⟩
  .refine J ?_;exact⟨.inl ⟨by rw[fD],aL⟩,bD⟩
  obtain⟨anY,afW,rfl,_⟩:=wJ.form;have ix:=o.LN ja;rw[ja];obtain⟨om,rfl⟩:=du.addr;have yK:=du.ext Flat.ext bD;refine J ?_;intro bt aI;replace bp:=aI.obj bp;replace ct:=aI.obj ct;replace yK:=yK.ext Flat.ext aI;have bJ:=bD.trans aI;refine J ?_;rw[qB];refine J ?_;refine J_ (Ru _ _ _ m s r a.to.toNat bt (eD.ext bJ) aW (ak.ext Flat.ext bJ) ((kF wJ).ext Flat.ext aI) hlen fl AK) ?_;rintro u bz ⟨dn,aM⟩;obtain⟨CE,BE,rfl,_⟩:=dn.form;have cv:=bJ.trans aM;have jX:(o.hR s (o.cm m a.to.toNat) r).length=o.dN m:=by rw[o.FA AK];exact hlen
  refine⟨aM,?_⟩;refine J ?_;refine J_ (Ls _ _ m (o.hR s (o.cm m a.to.toNat) r) (o.dG m q+1+a.loc.toNat) _ x bz (eD.ext cv) aW (kF dn) jX AK AK) ?_;rintro u bK ⟨bU,bq⟩;rcases bU with ⟨fD,rfl⟩ | ⟨t,k1,alf,rfl,l9⟩
  .refine J ?_;exact⟨.inl ⟨fD,aL⟩,cv.trans bq⟩
  .obtain⟨rF,uB,rfl,_⟩:=l9.form;refine J ?_;exact⟨.inr ⟨t,_,alf,rfl,aS.low cv.size l9⟩,cv.trans bq⟩
 .refine J ?_;refine _k [.slice eK m.scalars.length d0,.slice dM m.vars.length d1,.slice et m.aw.length d2,.slice eB m.procs.length d3,.slice eL m.props.length d4] bp rfl rfl ?_;refine J ?_;refine _k [.slice b6 (o.layout m).vars.length bx,.slice bR (o.layout m).aw.length c1,.slice bX (o.layout m).insts.length c2,.I (o.layout m).cells,.slice bZ (o.layout m).aR.length bu,.slice ca (o.layout m).U.length bC] bp rfl rfl ?_;refine J ?_;refine J_ (ab3 _ _ _ m s q aD (dc.ext aJ) aK aW (sf.ext aJ) (ak.ext Flat.ext aJ) ay AK AK) ?_;rintro _ aN ⟨⟨es,rfl,az⟩,ah⟩;have dW:=NH az.here dh;have IX:=dW;obtain⟨a0,gI,db,cE,a2,cW,a3,fz,rfl,pj,cZ,dt,ef,gP,_⟩:=dW.form;replace bp:=ah.obj bp;replace ct:=ah.obj ct;have a7:=aJ.trans ah;refine J ?_;intro aU uw I8 ax jK;replace bp:=ax.obj bp;replace ct:=ax.obj ct;have bD:=a7.trans ax;refine J ?_;refine J_ (Rs _ a.value _ (o.cR m s q) aU (aG.ext bD) (IX.ext ax)) ?_;rintro _ bt ⟨rfl,aI⟩;obtain⟨n,o9⟩:∃n,n=(o.eval a.value (o.cR m s q)).1:=⟨_,rfl⟩;obtain⟨e,oA⟩:∃e,e=(o.eval a.value (o.cR m s q)).2:=⟨_,rfl⟩;rw[<-o9,<-oA];replace bp:=aI.obj bp;replace ct:=aI.obj ct;replace jK:=aI.obj jK;have bJ:=bD.trans aI;have gz:=aJ.size;refine J ?_;refine I_ (fun u0=>?_) (fun u0=>?_);rotate_left
  .refine J ?_;refine⟨.inl ⟨?_,aL⟩,bJ⟩;unfold o.h4;rw[if_neg g5,<-oA,if_pos u0]
  have done:o.h4 m s q a=if a.kind=1 then o.putAt m s (o.hn m a.to.toNat) n else if a.kind=2 then o.wV m s a (o.eval a.index (o.cR m s q)) n else if a.kind=3 then o.putAt m s (o.dG m q+1+a.to.toNat) n else o.vi m s a.to.toNat n:=by
   unfold o.h4;rw[if_neg g5,<-oA,if_neg (by simpa using u0),<-o9]
  rw[done];have rA:=ak.ext Flat.ext bJ;have XS:=eD.ext bJ;refine J ?_;apply I_<;>intro g1
  .obtain⟨gI,b0,e1,jb⟩:=aV.set g1;have hs:a.to.toNat<m.vars.length:=(List.getElem?_eq_some_iff.1 e1).1;obtain⟨eV,hP⟩:=o.xr hs;have nL:=o.LV aW hs;have PX:=o.rQ hs;have eU:=o.mZ m;have Pm:=o.ss hs;have ajl:o.cells m.vars[a.to.toNat] m.scalars=1:=by
    have Fs:m.vars[a.to.toNat]=b0:=(List.getElem?_eq_some_iff.1 e1).2;rw[Fs];unfold o.cells;rw[if_pos jb]
   obtain⟨om,rfl⟩:=en.addr;have Rh:=en.ext Flat.ext bJ;refine J ?_;intro bz aM;replace bp:=aM.obj bp;replace ct:=aM.obj ct;replace Rh:=Rh.ext Flat.ext aM;have cv:=bJ.trans aM;refine J ?_;refine K_ a.to.toNat AK AK ?_;refine J ?_;refine J_ (Ls _ _ m s (o.hn m a.to.toNat) _ n bz (eD.ext cv) aW (ak.ext Flat.ext cv) hlen (by rw[hP]) AK) ?_;rintro u bK ⟨bU,bq⟩;rcases bU with ⟨fD,rfl⟩ | ⟨t,k1,ja,rfl,l9⟩
   .refine J ?_;exact⟨.inl ⟨by rw[if_pos g1];exact fD,aL⟩,cv.trans bq⟩
   .obtain⟨rF,uB,rfl,_⟩:=l9.form;refine J ?_;exact⟨.inr ⟨t,_,by rw[if_pos g1];exact ja,rfl,aS.low cv.size l9⟩,cv.trans bq⟩
  refine J ?_;apply I_<;>intro g2
  .obtain⟨gI,Fq,Pe⟩:=aV.item g2;have hs:a.to.toNat<m.vars.length:=Fq;obtain⟨eV,hP⟩:=o.xr hs;have PX:=o.rQ hs;have eU:=o.mZ m;have Pm:=o.ss hs;have dY:=o.r7 m.vars[a.to.toNat] m.scalars;have alo:=o.RR (s:=s) (inst:=(q:Int)) hs;have at7:=o.LF m s q;obtain⟨alr,als⟩:=List.getElem?_eq_some_iff.1 alo;have ix:((o.cR m s q).vars[a.to.toNat]).length=o.ph m a.to.toNat:=by rw[als,K9,AF7];omega
   obtain⟨om,rfl⟩:=en.addr;obtain⟨pH,rfl⟩:=pj.addr;obtain⟨hy,jt,ma⟩:=pj.at a.to.toNat alr;obtain⟨au1,asT,rfl,_⟩:=ma.form;rw[ix] at jt;refine J ?_;refine J_ (Rs _ a.index _ (o.cR m s q) bt (U.ext bJ) (IX.ext (ax.trans aI))) ?_;rintro _ bz ⟨rfl,aM⟩;obtain⟨k,E1⟩:∃k,k=(o.eval a.index (o.cR m s q)).1:=⟨_,rfl⟩;obtain⟨f,EU⟩:∃f,f=(o.eval a.index (o.cR m s q)).2:=⟨_,rfl⟩;have oC:∀n,o.wV m s a (o.eval a.index (o.cR m s q)) n=if f≠0\/k<1\/(o.ph m a.to.toNat:Int)<k then none else o.putAt m s (o.hn m a.to.toNat+k.toNat - 1) n:=fun n=>by unfold o.wV;rw[<-E1,<-EU]
   rw[oC,<-E1,<-EU];clear oC;replace bp:=aM.obj bp;replace ct:=aM.obj ct;replace jK:=aM.obj jK;have cv:=bJ.trans aM;have aju:=((ax.trans aI).trans aM).cell jt;refine J ?_;refine I_ (fun j2=>?_) (fun j2=>?_);rotate_left
   .refine J ?_;exact⟨.inl ⟨by rw[if_neg g1,if_pos g2,if_pos (.inl j2)],aL⟩,cv⟩
   refine J ?_;refine I_ (fun hS=>?_) (fun hS=>?_)
   .refine J ?_;exact⟨.inl ⟨by rw[if_neg g1,if_pos g2,if_pos (.inr (.inl hS))],aL⟩,cv⟩
   refine J ?_;refine K_ a.to.toNat AK AK ?_;refine J ?_;refine M_ aju ?_;refine J ?_;refine I_ (fun wW=>?_) (fun wW=>?_)
   .refine J ?_;exact⟨.inl ⟨by rw[if_neg g1,if_pos g2,if_pos (.inr (.inr AK))],aL⟩,cv⟩
   have abw:=en.ext Flat.ext cv;refine J ?_;intro bK bq;replace bp:=bq.obj bp;replace ct:=bq.obj ct;replace abw:=abw.ext Flat.ext bq;have dz:=cv.trans bq;refine J ?_;refine K_ a.to.toNat AK AK ?_;refine J ?_;refine J_ (Ls _ _ m s (o.hn m a.to.toNat+k.toNat - 1) _ n bK (eD.ext dz) aW (ak.ext Flat.ext dz) hlen (by rw[hP];omega) AK) ?_;rintro u c4 ⟨bU,bG⟩;rcases bU with ⟨fD,rfl⟩ | ⟨t,k1,ja,rfl,l9⟩
   .refine J ?_;exact⟨.inl ⟨by rw[if_neg g1,if_pos g2,if_neg AK];exact fD,aL⟩,dz.trans bG⟩
   .obtain⟨rF,uB,rfl,_⟩:=l9.form;refine J ?_;exact⟨.inr ⟨t,_,by rw[if_neg g1,if_pos g2,if_neg AK];exact ja,rfl,aS.low dz.size l9⟩,dz.trans bG⟩
  refine J ?_;apply I_<;>intro g3
  .obtain⟨gI,hs⟩:=aV.loc g3;have fl:a.to.toNat<(m.procs[p]'(aZ.au)).vars.length:=hs;have Fi:=aZ.room;obtain⟨om,rfl⟩:=du.addr;have yL:=du.ext Flat.ext bJ;refine J ?_;intro bz aM;replace bp:=aM.obj bp;replace ct:=aM.obj ct;replace yL:=yL.ext Flat.ext aM;have cv:=bJ.trans aM;refine J ?_;rw[qB];refine J ?_;refine J_ (Ls _ _ m s (o.dG m q+1+a.to.toNat) _ n bz (eD.ext cv) aW (ak.ext Flat.ext cv) hlen AK AK) ?_;rintro u bK ⟨bU,bq⟩;rcases bU with ⟨fD,rfl⟩ | ⟨t,k1,ja,rfl,l9⟩
   .refine J ?_;exact⟨.inl ⟨by rw[if_neg g1,if_neg g2,if_pos g3];exact fD,aL⟩,cv.trans bq⟩
   .obtain⟨rF,uB,rfl,_⟩:=l9.form;refine J ?_;exact⟨.inr ⟨t,_,by rw[if_neg g1,if_neg g2,if_pos g3];exact ja,rfl,aS.low cv.size l9⟩,cv.trans bq⟩
  have g4:a.kind=4:=AK
  rw[if_neg g1,if_neg g2,if_neg g3];obtain⟨gI,hs⟩:=aV.chan (.inl g4);have fl:a.to.toNat<m.aw.length:=hs;have Ym:=aW.chan _ (GR fl);obtain⟨pG,rfl⟩:=I.addr;have ej:=((I.at a.to.toNat fl).cells).ext bJ;refine J ?_;refine K_ a.to.toNat AK fl ?_;refine eb ?_;intro bz asC atg aM OB;replace bp:=aM.obj bp;replace ct:=aM.obj ct;have cv:=bJ.trans aM;refine eb ?_;simp -dsimp only[cB];refine eb ?_;intro bK bq;replace bp:=bq.obj bp;replace ct:=bq.obj ct;replace OB:=bq.obj OB;have dz:=cv.trans bq;have mb:=o.Nb Ym gM.1;have Jc:o.vS m a.to.toNat=o.eY m.aw[a.to.toNat].scalar m.aw[a.to.toNat].aR m.aw[a.to.toNat].U m.scalars:=by unfold o.vS;rw[List.getElem?_eq_getElem fl]
  clear ej;unfold o.dB.enc at OB;refine eb ?_;refine S_ [1,4,7,14,18] (fun x:Int×Int=>[(19,.I x.1),(20,.I x.2)]) (fun x W=>Ext bK W/\x.1=(o.vS m a.to.toNat).aR/\x.2=(o.vS m a.to.toNat).U) ?_ ?_
  .refine J ?_;refine I_ (fun j2=>?_) (fun j2=>?_)
   .have bI:=Ym.kZ.resolve_left AK;obtain⟨j,aF,atK,EZ⟩:∃(j:Nat) (aF:j<m.scalars.length),m.aw[a.to.toNat].scalar=(j:Int)+1/\o.size m.aw[a.to.toNat].scalar m.scalars=m.scalars[j].size:=by
     unfold o.size at bI ⊢;cases ag:m.scalars[(m.aw[a.to.toNat].scalar - 1).toNat]? with
     | none=>rw[ag] at bI;exact absurd rfl bI
     | some x =>
      rw[ag] at bI;obtain⟨aF,rfl⟩:=List.getElem?_eq_some_iff.1 ag;simp only at bI ⊢;split at bI
      .rename_i c3;exact⟨_,aF,AK,by rw[if_pos c3]⟩
      .exact absurd rfl bI
    obtain⟨zj,rfl⟩:=af.addr;have fx:=((af.at j aF).cells).ext dz;refine J ?_;refine K_ j AK aF ?_;refine J ?_;intro c4 bG;refine J ?_;refine⟨(0,m.scalars[j].size),⟨rfl,rfl,trivial⟩,bG,?_,?_⟩
    .rw[Jc];unfold o.eY;rw[if_neg AK]
    .rw[Jc];unfold o.eY;rw[if_neg AK];exact EZ.symm
   .refine J ?_;refine⟨(m.aw[a.to.toNat].aR,m.aw[a.to.toNat].U),⟨rfl,rfl,trivial⟩,Ext.refl _,?_,?_⟩
    .rw[Jc];unfold o.eY;rw[if_pos AK]
    .rw[Jc];unfold o.eY;rw[if_pos AK]
  rintro⟨aR,cH⟩ S c4 ⟨bG,hN,tv⟩;simp only at hN tv;replace bp:=bG.obj bp;replace ct:=bG.obj ct;have fk:=dz.trans bG;have Sn:=fk.size;rw[show o.vi m s a.to.toNat n=if n<aR\/cH<n then none else (o.nr (o.chanOf m s a.to.toNat) n).map (o.hR s (o.cm m a.to.toNat)) from by unfold o.vi;rw[<-hN,<-tv]];refine J ?_;refine I_ (fun j2=>?_) (fun j2=>?_)
  .refine J ?_;exact⟨.inl ⟨by rw[if_pos (.inl j2)],aL⟩,fk⟩
  refine J ?_;refine I_ (fun hS=>?_) (fun hS=>?_)
  .refine J ?_;exact⟨.inl ⟨by rw[if_pos (.inr AK)],aL⟩,fk⟩
  rw[if_neg AK];have hq:a.to=(a.to.toNat:Nat):=AK
  rw[hq] at ct;have dY:(o.chanOf m s a.to.toNat).length=1+o.gE m a.to.toNat:=o.uz (by rw[hlen];exact o.nA fl);have Fi:=o.xS aW fl;refine J ?_;refine J_ (Rn _ _ m s a.to.toNat c4 (eD.ext fk) aW (ak.ext Flat.ext fk) hlen fl) ?_;rintro u c6 ⟨hu,b5⟩;obtain⟨xd,uC,rfl,_⟩:=hu.form;replace bp:=b5.obj bp;replace ct:=b5.obj ct;have ll:=fk.trans b5;refine J ?_;refine J_ (apZ _ _ n c6 hu AK) ?_;rintro u eO ⟨bU,cr⟩;replace bp:=cr.obj bp;replace ct:=cr.obj ct;have lk:=ll.trans cr;rcases bU with ⟨fD,rfl⟩ | ⟨r,hy,ja,rfl,wJ⟩
  .refine J ?_;exact⟨.inl ⟨by rw[fD];rfl,aL⟩,lk⟩
  .obtain⟨anY,afW,rfl,_⟩:=wJ.form;have ix:=o.Ll ja;refine J ?_;refine J_ (Ru _ _ _ m s r a.to.toNat eO (eD.ext lk) aW (ak.ext Flat.ext lk) (kF wJ) hlen fl AK) ?_;rintro u gy ⟨oE,e6⟩;obtain⟨CE,BE,rfl,_⟩:=oE.form;refine J ?_;exact⟨.inr ⟨_,_,by rw[ja];rfl,rfl,aS.low lk.size oE⟩,lk.trans e6⟩
end Go.Proofs.R
end
section
namespace o
open Go
theorem MH(m:Model)(q:Nat)(l:C_ Act)(s:C_ Int){k:Nat}(hk:k<l.length):k8 m q (l.take (k+1)) s=match k8 m q (l.take k) s with | none=>none | some t=>h4 m t q l[k]:=by
 rw[Ly hk,Vh]<;>rfl
theorem MG(m:Model)(q:Nat):∀(l:C_ Act) (s:C_ Int) (k:Nat),k8 m q (l.take k) s=none->k8 m q l s=none
 | [],s,k,h=>by simp[k8] at h
 | a :: l,s,0,h=>by simp[k8] at h
 | a :: l,s,k+1,h=>by
  simp only[List.take_succ_cons,k8] at h ⊢;cases h1:h4 m s q a with
  | none=>rfl
  | some t=>rw[h1] at h;exact MG m q l t k h
end o
namespace Go.Proofs.R
open Go Go.RowKit ba
theorem apc(cs:C_ B_)(v:B_)(m:o.Model)(s:C_ Int)(ref:Int)(q p k:Nat)(w:A_)(h:pD w cs m)(aK:m.cK)(ak:dw w v s)(ay:o.Fits m s)(bF:o.fr m ref q p k) :
  DD F.K6 #[.agg cs.toArray,v,.I ref] w fun u w'=>US w.heap.size (o.hF m s q (o.bT m p k)) u w'/\Ext w w':=by
 have eD:=h;have aW:=o.j3 bF.ok;obtain⟨eK,d0,dM,d1,et,d2,eB,d3,eL,d4,b6,bx,bR,c1,bX,c2,bZ,bu,ca,bC,cn,ci,fA,gp,rfl,dc,sf,en,dU,du,eW,fQ,af,h1,I,ab,aio,Ol⟩:=h.form;obtain⟨os,r9,rfl,F5⟩:=ak.form;have aZ:=bF.inst;have o6:=bF.cin;have sj:=o6.gM;have ar:=aZ.ar;have hlen:=ay.len;have kA:o.dN m<=64:=o.jd aW;have EX:=aZ.room;obtain⟨r,rfl⟩:=QA bF.aR;have aP:r<(o.refs m).length:=bF.U;have gu:(o.refs m)[r].inst=(q:Int):=bF.at_.pk;have pd:(o.refs m)[r].cmd=(k:Int):=bF.at_.sC;obtain⟨EW,qB⟩:=o.rB ar;obtain⟨jG,rfl⟩:=Ol.addr;obtain⟨a2,rfl⟩:=du.addr;obtain⟨MO,rfl⟩:=ak.addr;have dh:=o.NI aW ay ar;obtain⟨c,yh⟩:∃c,c=o.bT m p k:=⟨_,rfl⟩;rw[<-yh] at o6 sj ⊢;refine br E.K6 ?_;refine J ?_;intro w1 bW fe ai bl;have aiC:=Ol.ext Flat.ext ai;refine J ?_;intro aD iI ov aj cG;have qm:(o.refs m)[r].enc=[.I q,.I k]:=by unfold o.Ref.enc;rw[gu,pd]
 rw[qm] at cG;replace bl:=aj.obj bl;have aJ:=ai.trans aj;clear aiC;refine J ?_;refine J_ (Rj _ m r q p k aD (eD.ext aJ) bF) ?_;rintro _ aN ⟨⟨fq,dH,rfl,h6,gG⟩,ah⟩;rw[<-yh] at h6 gG ⊢;obtain⟨gw,fS,rfl,_⟩:=h6.form;obtain⟨sy,r6,rfl,_⟩:=gG.form;replace bl:=ah.obj bl;replace cG:=ah.obj cG;have a7:=aJ.trans ah;unfold o.ea.enc;refine J ?_;intro aU ik l6 ax dD;replace bl:=ax.obj bl;replace cG:=ax.obj cG;have bD:=a7.trans ax;have ly:=ak.ext Flat.ext bD;have yK:=du.ext Flat.ext bD;have Y7:=h6.ext (ah.trans ax);have Y4:=gG.ext (ah.trans ax);clear h6 gG;refine J ?_;refine K_ (o.dG m q) (by rw[qB]) AK ?_;refine J ?_;intro bt aI;replace bl:=aI.obj bl;replace cG:=aI.obj cG;replace dD:=aI.obj dD;have bJ:=bD.trans aI;have akw:=Y7.ext aI;have Y5:=Y4.ext aI;have uR:s[o.dG m q]? = some (s[o.dG m q]' AK):=List.getElem?_eq_getElem AK;clear Y7 Y4 ly yK;refine eb ?_;apply I_<;>intro g1;rotate_left
 .refine J ?_;exact⟨.inl ⟨by unfold o.hF;rw[uR,if_pos (by simpa using g1)],aL⟩,bJ⟩
 have rj:o.hF m s q c=if 0<c.guard.length/\((o.eval c.guard (o.cR m s q)).2≠0\/(o.eval c.guard (o.cR m s q)).1=0) then none else (o.k8 m q c.bQ s).map fun t=>t.set (o.dG m q) c.to:=by
  unfold o.hF;rw[uR,if_neg (by simpa using g1)]
 have ai8:=bl;have ajf:=cG;have X5:=dD;refine eb ?_;refine S_ [1,3,8,9] (fun _:Unit=>[]) (fun _ W=>Ext bt W/\¬(0<c.guard.length/\((o.eval c.guard (o.cR m s q)).2≠0\/(o.eval c.guard (o.cR m s q)).1=0))) ?_ ?_
 .refine J ?_;apply I_<;>intro g2;rotate_left
  .refine J ?_;exact⟨(),trivial,Ext.refl _,fun c3=>AK⟩
  have rA:=ak.ext Flat.ext bJ;refine J ?_;intro bz aM;replace bl:=aM.obj bl;replace cG:=aM.obj cG;replace dD:=aM.obj dD;have cv:=bJ.trans aM;refine J ?_;refine _k [.slice eK m.scalars.length d0,.slice dM m.vars.length d1,.slice et m.aw.length d2,.slice eB m.procs.length d3,.slice eL m.props.length d4] bl rfl rfl ?_;refine J ?_;refine _k [.slice b6 (o.layout m).vars.length bx,.slice bR (o.layout m).aw.length c1,.slice (some a2) (o.layout m).insts.length c2,.I (o.layout m).cells,.slice bZ (o.layout m).aR.length bu,.slice ca (o.layout m).U.length bC] bl rfl rfl ?_;refine J ?_;refine J_ (ab3 _ _ _ m s q bz (dc.ext cv) aK aW (sf.ext cv) (ak.ext Flat.ext cv) ay AK AK) ?_;rintro _ bK ⟨⟨es,rfl,az⟩,bq⟩;have dW:=NH az.here dh;refine⟨bq,?_⟩;refine J ?_;refine J_ (Rs _ c.guard _ (o.cR m s q) bK (akw.ext (aM.trans bq)) dW) ?_;rintro _ c4 ⟨rfl,bG⟩;obtain⟨n,o9⟩:∃n,n=(o.eval c.guard (o.cR m s q)).1:=⟨_,rfl⟩;obtain⟨e,oA⟩:∃e,e=(o.eval c.guard (o.cR m s q)).2:=⟨_,rfl⟩;rw[<-o9,<-oA];rw[<-o9,<-oA] at rj;have fk:=(cv.trans bq).trans bG;refine J ?_;refine I_ (fun j2=>?_) (fun j2=>?_);rotate_left
  .refine J ?_;exact⟨.inl ⟨by rw[rj,if_pos ⟨AK,.inl j2⟩],aL⟩,fk⟩
  refine J ?_;refine I_ (fun hS=>?_) (fun hS=>?_)
  .refine J ?_;exact⟨.inl ⟨by rw[rj,if_pos ⟨AK,.inr hS⟩],aL⟩,fk⟩
  .refine J ?_;exact⟨(),trivial,(aM.trans bq).trans bG,fun c3=>by rcases c3.2 with h | h;exact h j2;exact hS h⟩
 clear bl cG dD;rintro _ S bz ⟨aM,tu⟩;have hJ:o.hF m s q c=(o.k8 m q c.bQ s).map fun t=>t.set (o.dG m q) c.to:=by rw[rj,if_neg tu]
 rw[hJ];clear rj tu hJ;have dD:=aM.obj X5;refine J ?_;refine L_ 13 c.bQ.length [1,3,8,9] (fun v:gA=>[(12,.slice v.1 v.2.1 v.2.2)]) (some MO,s.length,r9) (fun n v W=>Ext bt W/\∃t,o.k8 m q (c.bQ.take n) s=some t/\dw W (.slice v.1 v.2.1 v.2.2) t/\o.Fits m t) bc bc ⟨aM,s,rfl,ak.ext Flat.ext (bJ.trans aM),ay⟩ ?_;clear dD aM;rintro n k1 a6 bK az ⟨bq,t,aB,Fc,rm⟩;have bl:=bq.obj ai8;have cG:=bq.obj ajf;have dD:=bq.obj X5;have akr:=Y5.ext bq;have dz:=bJ.trans bq;refine J ?_;apply I_<;>intro g2
 .have j0:n<c.bQ.length:=AK
  obtain⟨oi,rfl⟩:=Y5.addr;obtain⟨bL,b2,rh,pa,pV⟩:=akr.at n j0;have Ez:=o6.act n j0;obtain⟨auY,asS,rfl,_⟩:=pa.form;obtain⟨auZ,zt,rfl,_⟩:=pV.form;refine J ?_;intro c4 bG;replace bl:=bG.obj bl;replace cG:=bG.obj cG;replace dD:=bG.obj dD;replace rh:=rh.ext bG;have fk:=dz.trans bG;refine J ?_;refine J_ (ao6 _ _ _ _ m t q p c.bQ[n] c4 (eD.ext fk) aK aW (Fc.ext Flat.ext bG) rm aZ (pa.ext bG) (pV.ext bG) Ez) ?_;rintro u c6 ⟨bU,b5⟩;have JN:=o.MH m q c.bQ s j0;rw[aB] at JN;simp only at JN;rcases bU with ⟨fD,rfl⟩ | ⟨hY,avn,ja,rfl,l9⟩
  .refine J ?_;exact⟨.inl ⟨by rw[o.MG m q c.bQ s (n+1) (JN.trans fD)];rfl,aL⟩,fk.trans b5⟩
  .obtain⟨rF,uB,rfl,_⟩:=l9.form;refine J ?_;exact⟨j0,aL,(rF,_,uB),⟨rfl,trivial⟩,(bq.trans bG).trans b5,hY,JN.trans ja,kF l9,o.Vg aW aZ Ez rm ja⟩
 .have JH:n=c.bQ.length:=AK
  subst JH;rw[AF3] at aB;rw[aB];obtain⟨C1,nu,dV⟩:=k1;obtain⟨_,_,aua,_⟩:=Fc.form;have cg:=rm.len;have aby:=du.ext Flat.ext dz;refine J ?_;intro c4 bG;replace bl:=bG.obj bl;replace cG:=bG.obj cG;replace dD:=bG.obj dD;replace aby:=aby.ext Flat.ext bG;have fk:=dz.trans bG;refine J ?_;refine J_ (abG _ t (o.dG m q) c.to _ (Fc.ext Flat.ext bG) (by rw[qB]) AK AK) ?_;rintro u c6 ⟨gU,b5⟩;obtain⟨CE,BE,rfl,_⟩:=gU.form;refine J ?_;exact⟨.inr ⟨_,_,rfl,rfl,aS.low fk.size gU⟩,fk.trans b5⟩
end Go.Proofs.R
end
section
namespace o
open Go
def lost(m:Model)(s t:C_ Int)(c:ea):C_ Int:=hR t (cm m (comm c.bQ).2.toNat) (chanOf m s (comm c.bQ).2.toNat)
structure G7(m:Model)(s:List Int)(ref k2:Int)(t:List Int)(e:Int):Prop where
 f0:¬(gL m s/\Told m ref)->t=[]/\e=2
 f1:∀q p k,gL m s->fr m ref q p k->¬(0<=k2/\k2<ways (bT m p k) m.aw)->t=[]/\e=2
 f2:∀q p k,gL m s->fr m ref q p k->0<=k2/\k2<ways (bT m p k) m.aw->hF m s q (bT m p k)=none->t=[]/\e=15
 f3:∀q p k u,gL m s->fr m ref q p k->0<=k2/\k2<ways (bT m p k) m.aw->hF m s q (bT m p k)=some u->t=(if k2=1 then lost m s u (bT m p k) else u)/\e=0
theorem G7.none{m:Model}{s:C_ Int}{ref k2:Int}{q p k:Nat}(an:fr m ref q p k)(aP:gL m s)(hw:0<=k2/\k2<ways (bT m p k) m.aw)(h:hF m s q (bT m p k)=Option.none):G7 m s ref k2 [] 15 :=
 ⟨fun az=>absurd ⟨aP,an.told⟩ az,fun e3 gB k' _ qp az=>(by obtain⟨rfl,rfl,rfl⟩:=an.one qp;exact absurd hw az),fun _ _ _ _ _ _ _=>⟨rfl,rfl⟩,fun e3 gB k' u _ qp _ hu=>by obtain⟨rfl,rfl,rfl⟩:=an.one qp;rw[h] at hu;cases hu⟩
theorem G7.some{m:Model}{s u:C_ Int}{ref k2:Int}{q p k:Nat}(an:fr m ref q p k)(aP:gL m s)(hw:0<=k2/\k2<ways (bT m p k) m.aw)(h:hF m s q (bT m p k)=Option.some u):G7 m s ref k2 (if k2=1 then lost m s u (bT m p k) else u) 0 :=
 ⟨fun az=>absurd ⟨aP,an.told⟩ az,fun e3 gB k' _ qp az=>(by obtain⟨rfl,rfl,rfl⟩:=an.one qp;exact absurd hw az),fun e3 gB k' _ qp _ hu=>(by obtain⟨rfl,rfl,rfl⟩:=an.one qp;rw[h] at hu;cases hu),
  fun e3 gB k' kH _ qp _ hu=>by obtain⟨rfl,rfl,rfl⟩:=an.one qp;rw[h] at hu;injection hu with hu;subst hu;exact⟨rfl,rfl⟩⟩
theorem arU{c:ea}{l:C_ dB}(h:1<ways c l):∃j:Nat,(comm c.bQ).2=j/\j<l.length/\(comm c.bQ).1=4:=by
 unfold ways at h;split at h
 .rename_i aH;cases az:nth l (comm c.bQ).2 with
  | none=>rw[az] at h;simp at h
  | some x =>
   obtain⟨af,_,h1⟩:=xb az;exact⟨(comm c.bQ).2.toNat,AK,h1,aH⟩
 .omega
theorem VZ{m:Model}{s t:C_ Int}{ref:Int}{q p k:Nat}(bF:fr m ref q p k)(ay:Fits m s)(h:hF m s q (bT m p k)=some t):t.length=dN m :=
 (afK bF.inst.ar rfl bF.cin ay.len h).1.trans ay.len
end o
namespace Go.Proofs.R
open Go Go.RowKit ba
theorem abB(cs:C_ B_)(v:B_)(m:o.Model)(s:C_ Int)(w:A_)(h:pD w cs m)(aW:o.eX m)(ak:dw w v s) :
  DD F.K5 #[.agg cs.toArray,v] w fun u w'=>(∃t:Bool,u = .bool t/\(t=true↔o.Fits m s))/\Ext w w':=by
 obtain⟨eK,d0,dM,d1,et,d2,eB,d3,eL,d4,b6,bx,bR,c1,bX,c2,bZ,bu,ca,bC,cn,ci,fA,gp,rfl,dc,sf,_⟩:=h.form;obtain⟨os,r9,rfl,F5⟩:=ak.form;refine br E.K5 ?_;refine J ?_;intro w1 bS dm ai av;refine J ?_;refine _k [.slice eK m.scalars.length d0,.slice dM m.vars.length d1,.slice et m.aw.length d2,.slice eB m.procs.length d3,.slice eL m.props.length d4] av rfl rfl ?_;refine J ?_;refine _k [.slice b6 (o.layout m).vars.length bx,.slice bR (o.layout m).aw.length c1,.slice bX (o.layout m).insts.length c2,.I (o.layout m).cells,.slice bZ (o.layout m).aR.length bu,.slice ca (o.layout m).U.length bC] av rfl rfl ?_;refine J ?_;refine J_ (ao8 _ _ m _ s w1 (dc.ext ai) (sf.ext ai) aW (ak.ext Flat.ext ai)) ?_;rintro _ aD ⟨⟨t,rfl,aB⟩,aj⟩;refine J ?_;exact⟨⟨t,rfl,aB⟩,ai.trans aj⟩
end Go.Proofs.R
end
section
namespace o
open Go
theorem Vl{s:Scope}:∀(l:C_ Act) (i:Nat) (t:Bool),(k9 s l i t).2=0->∀k (h:k<l.length),kL l[k] s=0
 | [],_,_,_,k,h=>by simp at h
 | a :: r,i,t,h,k,hk=>by
  unfold k9 at h;by_cases h1:(hx a&&t)=true
  .rw[if_pos h1] at h;cases h
  rw[if_neg h1] at h;by_cases I:kL a s≠0
  .rw[if_pos I] at h;exact absurd h I
  rw[if_neg I] at h;cases k with
  | zero=>simpa using I
  | succ k=>exact Vl r _ _ h k (by simpa using hk)
structure adx(m:Model)(p:Nat)(c:ea):Prop where
 act:∀k (h:k<c.bQ.length),∀au:p<m.procs.length,kL c.bQ[k] (inner m.procs[p] (eR m))=0
 to:∀au:p<m.procs.length,0<=c.to/\c.to<m.procs[p].cp
theorem afM{m:Model}(h:(check m).cN=0){p k:Nat}(au:p<m.procs.length)(hk:k<m.procs[p].cQ.length):adx m p m.procs[p].cQ[k]:=by
 obtain⟨dM,_,_⟩:=Ra (VX h);obtain⟨_,cE,_,_⟩:=D6 au (dM p au);obtain⟨_,_,iA⟩:=abh cE;have e:ht m (p:Int)=inner m.procs[p] (eR m):=by
  unfold ht;rw[iM AK AK];rfl
 have a8:=(Nj _ _ iA k hk).1;rw[e] at a8;unfold jU at a8;by_cases h1:head m.procs[p].cQ[k] m.procs[p].cp≠0
 .rw[if_pos h1] at a8;exact absurd a8 h1
 rw[if_neg h1] at a8;have a8:(k9 (inner m.procs[p] (eR m)) m.procs[p].cQ[k].bQ 0 false).2=0:=by
  split at a8
  .rename_i c3;exact absurd a8 c3.2
  .exact a8
 refine⟨fun j aF _=>Vl _ _ _ a8 j aF,fun _=>?_⟩;have h1:head m.procs[p].cQ[k] m.procs[p].cp=0:=by simpa using h1
 unfold head at h1;by_cases cZ:isName m.procs[p].cQ[k].name=false
 .rw[if_pos cZ] at h1;cases h1
 rw[if_neg cZ] at h1;by_cases dt:m.procs[p].cQ[k].from_<0\/m.procs[p].cp<=m.procs[p].cQ[k].from_\/m.procs[p].cQ[k].to<0\/m.procs[p].cp<=m.procs[p].cQ[k].to
 .rw[if_pos dt] at h1;cases h1
 omega
theorem ZL{m:Model}:∀(l:C_ dJ) (i:Nat),l=m.procs.drop i->∀x∈j1 m l i,∃(p:Nat) (h:p<m.procs.length),x.proc=p/\(m.procs[p].over≠0->x.elem<=elems m m.procs[p])
 | [],_,_,x,ag=>by simp[j1] at ag
 | p :: r,i,h,x,ag=>by
  have U:i<m.procs.length:=by
   apply Classical.byContradiction;intro az;rw[AF0 AK] at h;cases h
  rw[AF2 U] at h;injection h with h1 I
  simp only[j1,List.mem_append] at ag;rcases ag with (ag | ag) | ag
  .unfold jA at ag;split at ag
   .rename_i af;rw[AG0] at ag;subst ag;exact⟨i,U,rfl,fun az=>absurd (h1 ▸ af) az⟩
   .cases ag
  .unfold j6 at ag;obtain⟨k,hk,rfl⟩:=List.mem_map.1 ag
   have:=List.mem_range.1 hk
   refine⟨i,U,rfl,fun _=>?_⟩;rw[<-h1];simp only;omega
  .exact ZL r (i+1) I x ag
theorem fY.am0{m:Model}{q p:Nat}(h:fY m q p):(m.procs[p]'(h.au)).over≠0->((insts m)[q]'(h.ar)).elem<=elems m (m.procs[p]'(h.au)):=by
 obtain⟨gB,Za,e,h1⟩:=ZL m.procs 0 Bs _ (GR h.ar);have I:=h.eq;have aJ:((gB:Nat):Int)=p:=by
  have:((insts m)[q]'(h.ar)).proc=(gB:Int):=e
  rw[<-this,I]
 have:gB=p:=AK
 subst this;exact h1
theorem agq{m:Model}{p:dJ}(h:elems m p≠0):(elems m p:Int)=size p.over m.scalars:=by
 unfold elems at h ⊢;cases az:nth m.scalars (p.over - 1) with
 | none=>rw[az] at h;exact absurd rfl h
 | some x =>
  rw[az] at h;obtain⟨af,h1,_⟩:=xb az;simp only at h ⊢;unfold size;rw[h1];split at h
  .exact absurd rfl h
  .rename_i c3;rw[if_neg c3];simp only;rw[if_pos AK];omega
theorem al6{x:Node}{s:Scope}(h:x.op=5)(h1:1<=s.self/\s.self<=s.scalars.length):kind [x] s=(1+s.self,0):=by
 have az:fI x.op=0:=by rw[h];decide
 have ay:fw s x []=(1+s.self,0):=by
  unfold fw;rw[h];simp[hj,jw,mJ,h,h1]
 unfold kind mN gi;simp only[List.length_singleton,stepG,az,ay];simp[gi]
theorem ad5{m:Model}{p:Nat}(au:p<m.procs.length){a:Act}(h:kL a (inner m.procs[p] (eR m))=0)(I:a.kind=2)(ak:sE a=true):∃v,m.vars[a.to.toNat]? = some v/\v.over=m.procs[p].over:=by
 obtain⟨x,ag,a8⟩:∃x,a.index=[x]/\x.op=5:=by
  unfold sE at ak;split at ak
  .rename_i x ag;exact⟨x,ag,by simpa using ak⟩
  .cases ak
 have fs:=MF h;have Zn:=((fs.item I).2.2.node 0 (by rw[ag];simp)).1.self (by simp[ag,a8]);unfold kL at h;rw[if_pos AK] at h;rw[if_neg (by omega:¬a.kind=3)] at h;cases bb:declared (inner m.procs[p] (eR m)).vars a.to (inner m.procs[p] (eR m)) with
 | none=>rw[bb] at h;cases h
 | some yJ =>
  rw[bb] at h;obtain⟨v,k⟩:=yJ;obtain⟨_,d2,_⟩:=Nv bb;simp only at h;by_cases ab:(v.over≠0)≠(a.kind=2)
  .rw[if_pos ab] at h;cases h
  rw[if_neg ab] at h;by_cases aH:a.kind=2/\asked a.index (1+v.over) (inner m.procs[p] (eR m))≠0
  .rw[if_pos aH] at h;exact absurd h aH.2
  have bE:asked a.index (1+v.over) (inner m.procs[p] (eR m))=0:=Classical.byContradiction fun az=>aH ⟨I,az⟩;refine⟨v,d2,?_⟩;unfold asked at bE;rw[ag,al6 a8 Zn] at bE;simp only[ne_eq,not_true_eq_false,if_false] at bE;split at bE
  .cases bE
  .rename_i c3
   have:(inner m.procs[p] (eR m)).self=m.procs[p].over:=rfl
   omega
theorem alW{m:Model}{q p:Nat}(aZ:fY m q p){v:Nat}(aG:v<m.vars.length){own:Bool}(aO:own=true->m.vars[v].over=(m.procs[p]'(aZ.au)).over/\(m.procs[p]'(aZ.au)).over≠0):∀x∈rD m q v own,0<=x/\x<dN m:=fun x ag=>by
 have h1:=rQ aG;have I:=ss aG;have ab:=mZ m;unfold rD at ag;cases own with
 | false =>
  rw[if_neg Bs] at ag
  have:=tZ.1 ag
  omega
 | true =>
  obtain⟨bR,bX⟩:=aO rfl;rw[if_pos rfl] at ag;have ag:=tZ.1 ag;have bB:=aZ.elem bX;have aJ:=aZ.am0 bX;have a7:=agq (m:=m) (p:=m.procs[p]'(aZ.au)) AK;have bD:=Ih aZ.ar;have bJ:cells m.vars[v] m.scalars=size (m.procs[p]'(aZ.au)).over m.scalars:=by unfold cells;rw[if_neg AK,bR]
  omega
theorem ad3{m:Model}{q p:Nat}(aZ:fY m q p){a:Act}(dW:kL a (inner (m.procs[p]'(aZ.au)) (eR m))=0):∀x∈oj m q a,0<=x/\x<dN m:=fun x ag=>by
 have aV:=MF dW;have wM:=aZ.room;have ab:=mZ m;unfold oj at ag;by_cases h1:a.kind=1
 .rw[if_pos h1] at ag;obtain⟨_,v,aG,jb⟩:=aV.set h1;have hs:a.to.toNat<m.vars.length:=(List.getElem?_eq_some_iff.1 aG).1;have fl:m.vars[a.to.toNat]=v:=(List.getElem?_eq_some_iff.1 aG).2
  have:=rQ hs
  have e:cells m.vars[a.to.toNat] m.scalars=1:=by rw[fl];unfold cells;rw[if_pos jb]
  have:=tZ.1 ag
  omega
 rw[if_neg h1] at ag;by_cases I:a.kind=2
 .rw[if_pos I] at ag;have hs:a.to.toNat<m.vars.length:=(aV.item I).2.1;refine alW aZ hs (fun ak=>?_) x ag;obtain⟨v,aG,aO⟩:=ad5 aZ.au dW I ak;obtain⟨_,fl⟩:=List.getElem?_eq_some_iff.1 aG;obtain⟨y,bV,a8⟩:∃y,a.index=[y]/\y.op=5:=by
   unfold sE at ak;split at ak
   .rename_i y bV;exact⟨y,bV,by simpa using ak⟩
   .cases ak
  have Zn:=((aV.item I).2.2.node 0 (by rw[bV];simp)).1.self (by simp[bV,a8])
  have:(inner (m.procs[p]'(aZ.au)) (eR m)).self=(m.procs[p]'(aZ.au)).over:=rfl
  exact⟨by rw[fl];exact aO,AK⟩
 rw[if_neg I] at ag;by_cases zI:a.kind=3
 .rw[if_pos zI] at ag;have a8:a.to.toNat<(m.procs[p]'(aZ.au)).vars.length:=(aV.loc zI).2
  have:=tZ.1 ag
  omega
 rw[if_neg zI] at ag;by_cases aH:a.kind=4
 .rw[if_pos aH] at ag
  have:=nA (m:=m) (aV.chan (.inl aH)).2
  have:=tZ.1 ag
  omega
 rw[if_neg aH] at ag;by_cases a8:a.kind=5
 .rw[if_pos a8] at ag;have bE:a.loc.toNat<(m.procs[p]'(aZ.au)).vars.length:=(aV.recv a8).2
  have:=nA (m:=m) (aV.chan (.inr a8)).2
  rcases List.mem_append.1 ag with ag | ag
  .have:=tZ.1 ag;omega
  .have:=tZ.1 ag;omega
 .rw[if_neg a8] at ag;cases ag
theorem ar8{m:Model}{ref:Int}{q p k:Nat}(bF:fr m ref q p k):∀x∈oP m q (bT m p k) (bT m p k).bQ.length,0<=x/\x<dN m:=fun x ag=>by
 have aZ:=bF.inst;have Y2:=afM bF.ok bF.at_.au bF.at_.hk;rw[<-xX bF.at_.au bF.at_.hk] at Y2;have wM:=aZ.room;unfold oP at ag;rw[AF3] at ag;rcases List.mem_append.1 ag with ag | ag
 .have:=tZ.1 ag;omega
 .obtain⟨a,aV,Qb⟩:=List.mem_flatMap.1 ag;obtain⟨j,aF,rfl⟩:=List.mem_iff_getElem.1 aV;exact ad3 aZ (Y2.act j aF aZ.au) x Qb
theorem Nf{m:Model}(h:(check m).cN=0):(data m).cN=0/\(mL m).cN=0/\(p0 m).cN=0:=by
 unfold check at h;by_cases h1:(data m).cN≠0
 .rw[if_pos h1] at h;exact absurd h h1
 rw[if_neg h1] at h;by_cases I:(mL m).cN≠0
 .rw[if_pos I] at h;exact absurd h I
 rw[if_neg I] at h;exact⟨by simpa using h1,by simpa using I,h⟩
theorem aoD{m:Model}(h:(check m).cN=0):m.props.length<=8:=by
 obtain⟨_,_,ab⟩:=Nf h;have aP:=Lh ab;refine Classical.byContradiction fun az=>?_;have dS:=aP 8 AK;rw[D7 AK,if_pos AK] at dS;cases dS
theorem abi{m:Model}(h:(check m).cN=0){j:Nat}(aF:j<m.props.length):ug (eR m) m.props[j].expr:=by
 obtain⟨_,_,ab⟩:=Nf h;have dS:=Lh ab j aF;rw[D7 aF] at dS;refine aaa (Classical.byContradiction fun az=>?_)
 repeat' split at dS
 all_goals first | omega | (exact absurd dS az) | skip
 all_goals contradiction
def vg(m:Model):C_ Int:=m.props.flatMap fun p=>Gj m p.expr
def oK(m:Model):C_ Bool:=if (check m).cN=0 then (List.range (dN m)).map fun(c:Nat)=>decide ((c:Int)∈vg m) else []
structure oZ(n:Nat)(L:List Int)(ae:List Bool):Prop where
 len:ae.length=n
 at_:∀(c:Nat) (h:c<ae.length),ae[c]=decide ((c:Int)∈L)
theorem oZ.start(n:Nat):oZ n [] (List.replicate n false):=⟨Bs,fun c h=>Bs⟩
theorem oZ.put{n c:Nat}{L:C_ Int}{ae:C_ Bool}(h:oZ n L ae)(an:c<n):oZ n (L++[(c:Int)]) (ae.set c true):=by
 refine⟨by rw[AE9];exact h.len,fun d bb=>?_⟩;rw[AE9] at bb;rw[List.getElem_set];by_cases e:c=d
 .subst e;simp
 .rw[if_neg e,h.at_ d bb]
  have:¬(d:Int)=(c:Int):=AK
  simp[this]
theorem oZ.congr{n:Nat}{L nv:C_ Int}{ae:C_ Bool}(h:oZ n L ae)(e:∀x,x∈L↔x∈nv):oZ n nv ae:=⟨h.len,fun c an=>by rw[h.at_ c an];exact decide_eq_decide.2 (e _)⟩
theorem oZ.eq{n:Nat}{L:C_ Int}{ae o':C_ Bool}(h:oZ n L ae)(bo:oZ n L o'):ae=o':=by
 refine AK8 (by rw[h.len,bo.len]) fun c h1 I=>by rw[h.at_ c h1,bo.at_ c I]
theorem oZ.aqo{m:Model}{ae:C_ Bool}(hk:(check m).cN=0)(h:oZ (dN m) (vg m) ae):ae=oK m:=by
 unfold oK;rw[if_pos hk];exact h.eq ⟨Bs,fun c an=>Bs⟩
def jF(a b:C_ Int):Prop := ∃x,x∈a/\x∈b
instance(a b:C_ Int):Decidable (jF a b):=decidable_of_iff (a.any (fun x=>b.contains x)=true) (by simp[jF,List.any_eq_true])
theorem jF.comm{a b:C_ Int}:jF a b↔jF b a:=⟨fun⟨x,h1,I⟩=>⟨x,I,h1⟩,fun⟨x,h1,I⟩=>⟨x,I,h1⟩⟩
theorem jF.ang(b:C_ Int):¬jF [] b:=fun⟨_,h,_⟩=>by cases h
theorem jF.anh(a:C_ Int):¬jF a []:=fun⟨_,_,h⟩=>by cases h
theorem aoN{a:C_ Int}(aV:a.Pairwise (· < ·)){i:Nat}(h:i<a.length):∀x∈a.drop i,a[i]<=x:=fun x ag=>by
 rw[AF2 h] at ag;rcases List.mem_cons.1 ag with e | e
 .omega
 .have au:=aV.sublist (List.drop_sublist i a);rw[AF2 h,AJ1] at au
  have:=au.1 x e
  omega
theorem acU{a b:C_ Int}(ao:b.Pairwise (· < ·)){i k:Nat}(h1:i<a.length)(I:k<b.length)(h:a[i]<b[k]):jF (a.drop i) (b.drop k)↔jF (a.drop (i+1)) (b.drop k):=by
 constructor
 .rintro⟨x,cE,cW⟩;rw[AF2 h1] at cE;rcases List.mem_cons.1 cE with e | e
  .have:=aoN ao I x cW;omega
  .exact⟨x,e,cW⟩
 .rintro⟨x,cE,cW⟩;exact⟨x,by rw[AF2 h1];exact AI2 _ cE,cW⟩
theorem GO{a b:C_ Int}(aV:a.Pairwise (· < ·)){i k:Nat}(h1:i<a.length)(I:k<b.length)(h:b[k]<a[i]):jF (a.drop i) (b.drop k)↔jF (a.drop i) (b.drop (k+1)):=by
 rw[jF.comm,acU aV I h1 h,jF.comm]
theorem ari{a b:C_ Int}{i k:Nat}(h1:i<a.length)(I:k<b.length)(h:a[i]=b[k]):jF (a.drop i) (b.drop k) :=
 ⟨a[i],by rw[AF2 h1];exact AG6 ..,by rw[AF2 I,h];exact AG6 ..⟩
theorem arj{a b:C_ Int}{i k:Nat}(h:¬(i<a.length/\k<b.length)):¬jF (a.drop i) (b.drop k):=by
 by_cases h1:i<a.length
 .have e:b.drop k=[]:=AF0 AK;rw[e];exact jF.anh _
 .have e:a.drop i=[]:=AF0 AK;rw[e];exact jF.ang _
def sM(r w hv w':C_ Int):Prop:=jF w w'\/jF w hv\/jF r w'
instance(r w hv w':C_ Int):Decidable (sM r w hv w'):=inferInstanceAs (Decidable (_\/_\/_))
end o
end
section
namespace Go.Proofs.R
open Go Go.RowKit ba
theorem GO(dH lV:B_)(a b:C_ Int)(w:A_)(aV:dw w dH a)(ao:dw w lV b)(tU:a.Pairwise (· < ·))(sA:b.Pairwise (· < ·)) :
  DD F.vX #[dH,lV] w fun v w'=>v = .bool (decide (o.jF a b))/\Ext w w':=by
 obtain⟨aQ,eZ,rfl,hT⟩:=aV.form;obtain⟨xc,pK,rfl,hU⟩:=ao.form;refine br E.vX ?_;refine J ?_;refine _P [0,1] (fun x:Nat×Nat=>[(5,.I x.1),(6,.I x.2)]) (0,0) (fun x W=>Ext w W/\x.1<=a.length/\x.2<=b.length/\(o.jF a b↔o.jF (a.drop x.1) (b.drop x.2))) (fun x=>(a.length - x.1)+(b.length - x.2)) bc ⟨Ext.refl _,AF6 _,AF6 _,Iff.rfl⟩ ?_;rintro⟨i,k⟩ S w1 ⟨ai,U,hk,hm⟩;dsimp only at U hk hm ⊢;have no:¬(i<a.length/\k<b.length)->decide (o.jF a b)=false:=fun h=>decide_eq_false (by rw[hm];exact o.arj h);refine J ?_;apply I_<;>intro g1;rotate_left
 .refine J ?_;exact⟨by rw[no AK],ai⟩
 refine J ?_;apply I_<;>intro g2;rotate_left
 .refine J ?_;exact⟨by rw[no AK],ai⟩
 have qA:i<a.length:=AK
 have cI:k<b.length:=AK
 obtain⟨oi,rfl⟩:=aV.addr;obtain⟨zi,rfl⟩:=ao.addr;have XT:=aV.ext Flat.ext ai;have cM:=ao.ext Flat.ext ai;refine J ?_;intro aD aj;have aJ:=ai.trans aj;refine J ?_;apply I_<;>intro g3
 .have yes:decide (o.jF a b)=true:=decide_eq_true (by rw[hm];exact o.ari qA cI g3);refine J ?_;exact⟨by rw[yes],aJ⟩
 have ata:=XT.ext Flat.ext aj;have dm:=cM.ext Flat.ext aj;clear XT cM;refine J ?_;intro aN ah;have a7:=aJ.trans ah;refine J ?_;apply I_<;>intro g4
 .refine J ?_;exact⟨(i+1,k),⟨aL,aL,trivial⟩,⟨a7,by simp only;omega,hk,hm.trans (o.acU sA qA cI g4)⟩,by simp only;omega⟩
 .refine J ?_;exact⟨(i,k+1),⟨aL,aL,trivial⟩,⟨a7,U,by simp only;omega,hm.trans (o.GO tU qA cI AK)⟩,by simp only;omega⟩
theorem anL(v1 v2 v3 v4:B_)(a b cF gS:C_ Int)(w:A_)(h1:dw w v1 a)(I:dw w v2 b)(ab:dw w v3 cF)(aH:dw w v4 gS)(tU:a.Pairwise (· < ·))(sA:b.Pairwise (· < ·))(aoi:cF.Pairwise (· < ·))(aba:gS.Pairwise (· < ·)) :
  DD F.Bu #[.agg #[v1,v2],.agg #[v3,v4]] w fun v w'=>v = .bool (decide (o.sM a b cF gS))/\Ext w w':=by
 obtain⟨bR,c1,rfl,_⟩:=h1.form;obtain⟨bX,c2,rfl,_⟩:=I.form;obtain⟨bZ,bu,rfl,_⟩:=ab.form;obtain⟨ca,bC,rfl,_⟩:=aH.form;refine br E.Bu ?_;refine J ?_;intro w1 bS dm ai av;refine J ?_;intro aD bW fe aj bl;replace av:=aj.obj av;have aJ:=ai.trans aj;refine J ?_;refine J_ (GO _ _ b gS aD (I.ext Flat.ext aJ) (aH.ext Flat.ext aJ) sA aba) ?_;rintro _ aN ⟨rfl,ah⟩;have a7:=aJ.trans ah;replace av:=ah.obj av;replace bl:=ah.obj bl;refine J ?_;apply I_<;>intro g1
 .have yes:decide (o.sM a b cF gS)=true:=decide_eq_true (.inl g1);refine J ?_;exact⟨by rw[yes],a7⟩
 refine J ?_;refine J_ (GO _ _ b cF aN (I.ext Flat.ext a7) (ab.ext Flat.ext a7) sA aoi) ?_;rintro _ aU ⟨rfl,ax⟩;have bD:=a7.trans ax;replace av:=ax.obj av;replace bl:=ax.obj bl;refine J ?_;apply I_<;>intro g2
 .have yes:decide (o.sM a b cF gS)=true:=decide_eq_true (.inr (.inl g2));refine J ?_;exact⟨by rw[yes],bD⟩
 refine J ?_;refine J_ (GO _ _ a gS aU (h1.ext Flat.ext bD) (aH.ext Flat.ext bD) tU aba) ?_;rintro _ bt ⟨rfl,aI⟩;have bJ:=bD.trans aI;have last:decide (o.sM a b cF gS)=decide (o.jF a gS):=decide_eq_decide.2 ⟨fun h=>h.elim (fun h=>absurd h g1) fun h=>h.elim (fun h=>absurd h g2) id,fun h=>.inr (.inr h)⟩;refine J ?_;exact⟨by rw[last],bJ⟩
end Go.Proofs.R
end
section
namespace o
open Go
structure nx(m:Model)(n:Nat)(L:List (List Int×List Int)):Prop where
 len:L.length=n
 is:∀i (h:i<L.length),lD m i L[i].1 L[i].2
theorem nx.nil(m:Model):nx m 0 []:=⟨rfl,fun i h=>absurd h (K8 _)⟩
theorem nx.snoc{m:Model}{n:Nat}{L:C_ (C_ Int×C_ Int)}{a b:C_ Int}(h:nx m n L)(aP:lD m n a b):nx m (n+1) (L++[(a,b)]):=by
 refine⟨by rw[Ln,h.len];rfl,fun i U=>?_⟩;by_cases e:i<L.length
 .rw[AI5 e];exact h.is i e
 .have aJ:i=L.length:=by simp at U;omega
  subst aJ;rw[AI6 (GA _)];simp only[Nat.sub_self,List.getElem_cons_zero];rw[h.len];exact aP
theorem nx.eq{m:Model}{n:Nat}{L nv:C_ (C_ Int×C_ Int)}(h:nx m n L)(bo:nx m n nv):L=nv:=by
 refine AK8 (h.len.trans bo.len.symm) fun i h1 I=>?_;obtain⟨bB,aJ⟩:=(h.is i h1).eq (bo.is i I);exact Prod.ext bB aJ
end o
namespace Go.Proofs.R
open Go Go.RowKit ba
def G3(w:A_)(cs:C_ B_)(x:C_ Int×C_ Int):Prop := ∃v1 v2,cs=[v1,v2]/\dw w v1 x.1/\dw w v2 x.2
def UD(w:A_)(a:Addr)(x:C_ Int×C_ Int):Prop := ∃v1 v2,fi w a [v1,v2]/\dw w v1 x.1/\dw w v2 x.2
theorem aaU{w:A_}{v:B_}{l:C_ Int}(h:dw w v l):v.oneCell'=true:=by
 obtain⟨ae,c,rfl,_⟩:=h.form;rfl
instance:Rel UD G3 2 where
 out:=fun⟨v1,v2,h,h1,I⟩=>⟨_,h,v1,v2,rfl,h1,I⟩
 oG:=fun h ⟨v1,v2,e,h1,I⟩=>⟨v1,v2,e ▸ h,h1,I⟩
 len:=fun⟨v1,v2,e,_⟩=>by rw[e];rfl
 one:=fun⟨v1,v2,e,h1,I⟩ u hu=>by
  rw[e] at hu;simp only[List.mem_cons,List.not_mem_nil,or_false] at hu;rcases hu with rfl | rfl
  .exact aaU h1
  .exact aaU I
 ext:=fun he ⟨v1,v2,e,h1,I⟩=>⟨v1,v2,e,h1.ext Flat.ext he,I.ext Flat.ext he⟩
theorem aaO{w w1:A_}{v:B_}{l:C_ Int}(h:aS cL T.a 1 w.heap.size w1 v l):ey w (fun W=>dw W v l) w1:=fun W m =>
 aS.hE (enc:=cL) (fun _=>rfl) (aS.mod h m fun k hk a=>by have:=(aS.lt h k hk).1;omega)
theorem ary(cs:C_ B_)(m:o.Model)(w:A_)(h:o.eh w cs m)(aK:m.cK)(aO:gK w)(cY:o.vB m) :
  DD F.hd #[.agg cs.toArray] w fun v w'=>(∃L base,o.nx m (o.refs m).length L/\w.heap.size<=base/\base<=w'.heap.size/\eP G3 T.Vx 2 base w' v L)/\Ext w w':=by
 have dc:=h;obtain⟨b6,bx,bR,c1,bX,c2,bZ,bu,ca,bC,rfl,_⟩:=h.form;have ix:=o.ve cY;refine br E.hd ?_;refine J ?_;intro w1 bw cM ai al;refine J ?_;refine J_ (yN _ m w1 (dc.ext ai) cY) ?_;rintro hy aD ⟨jt,aj⟩;obtain⟨fA,ql,rfl,_⟩:=jt.form;replace al:=aj.obj al;have aJ:=ai.trans aj;have z2:=aJ.size;clear jt;refine J ?_;refine L_ 10 (o.refs m).length [1,9] (fun u:B_=>[(3,u)]) (.slice none 0 0) (fun k u W => ∃L,o.nx m k L/\eP G3 T.Vx 2 aD.heap.size W u L/\Ext aD W) bc bc ⟨[],o.nx.nil m,eP.nil _ _ _ _ _,Ext.refl _⟩ ?_;rintro k u S aN hk ⟨L,lI,bH,ah⟩;have a7:=aJ.trans ah;have jK:=ah.obj al;refine J ?_;apply I_<;>intro g1;rotate_left
 .have jL:k=(o.refs m).length:=AK
  rw[jL] at lI;refine J ?_;exact⟨⟨L,_,lI,z2,ah.size,bH⟩,a7⟩
 have cI:k<(o.refs m).length:=AK
 have aiL:=lI.len;obtain⟨xd,uC,rfl,_⟩:=bH.form;refine J ?_;refine J_ (Ua _ m k aN (dc.ext a7) aK (aO.ext a7)) ?_;rintro _ aU ⟨⟨dH,lV,a,b,rfl,gG,Pu,aiD⟩,ax⟩;have az:=((aaO gG).and (aaO Pu)).imp (q:=fun W=>G3 W [dH,lV] (a,b)) fun W h=>⟨dH,lV,rfl,h.1,h.2⟩;obtain⟨aQ,eZ,rfl,_⟩:=gG.form;obtain⟨xc,pK,rfl,_⟩:=Pu.form;have z3:=ah.size;have z4:=ax.size;clear gG Pu;refine J ?_;intro bt MU kT aI b9;have z5:=aI.size;have Es:=(bH.ext ax).ext aI;refine J ?_;refine _I Es (gT b9) ((ey.ext az aI z4).own bH z3) rfl (by simp[Value.oneCell']) AK (by unfold maxLen;omega) AK fun b0 bz uL iJ=>?_;have aM:=Es.ln ((ah.trans ax).trans aI) iJ (GA _);refine J ?_;exact⟨cI,aL,_,⟨rfl,trivial⟩,_,lI.snoc aiD,uL,aM⟩
end Go.Proofs.R
end
section
namespace o
open Go
def My(s:Scope)(x:Node):Prop:=x.op=3->∃v,s.vars[x.n.toNat]? = some v/\v.over≠0
theorem amx{s:Scope}{x:Node}{top:Int}(h:(jw x s top).2=0):My s x:=by
 intro a7;unfold jw at h;rw[if_neg AK,if_pos AK] at h;simp only at h;by_cases ar:(gn (if x.op=4 then s.locals else s.vars) x.n s).2.2=false
 .rw[if_pos ar] at h;cases h
 rw[if_neg ar] at h;obtain⟨v,cE,cW,fz,iA,u0,Cq⟩:=aak (by simpa using ar);obtain⟨bR,bX,bZ⟩:=aac Cq;rw[iA] at h;simp only at h;by_cases ab:(x.op=3/\((hC v.over s).1=0\/top≠(hC v.over s).1))\/(x.op≠3/\(hC v.over s).1≠0)
 .rw[if_pos ab] at h;cases h
 .refine⟨v,?_,fun af=>ab (.inl ⟨a7,.inl ?_⟩)⟩
  .rw[if_neg AK] at cW;exact cW
  .rw[bZ,if_pos af]
theorem al5{e:C_ Node}{s:Scope}(h:(kind e s).2=0):∀k (hk:k<e.length),My s e[k]:=by
 unfold kind mN at h;by_cases h1:e.length > 24
 .rw[if_pos h1] at h;cases h
 rw[if_neg h1] at h;by_cases I:e.length=0
 .exact fun k hk=>AK
 rw[if_neg I] at h;by_cases ab:(gi (fw s) e []).1≠0
 .rw[if_pos ab] at h;exact absurd h ab
 have ab:(gi (fw s) e []).1=0:=by simpa using ab
 intro k hk;have sn:∀j,(gi (fw s) (e.take j) []).1=0:=fun j=>Classical.byContradiction fun az=>by
  have:=RE (f:=fw s) (e:=e) (k:=j) rfl az
  rw[this] at ab;exact az ab
 have iL:gi (fw s) (e.take k) []=(0,(gi (fw s) (e.take k) []).2):=Prod.ext (sn k) rfl;have aH:=CM hk iL;have a8:=sn (k+1);rw[aH] at a8;unfold stepG at a8;by_cases cZ:fI e[k].op<0
 .rw[if_pos cZ] at a8;cases a8
 rw[if_neg cZ] at a8;by_cases dt:((gi (fw s) (e.take k) []).2.length:Int)<fI e[k].op
 .rw[if_pos dt] at a8;cases a8
 rw[if_neg dt] at a8;by_cases ef:(fw s e[k] (gi (fw s) (e.take k) []).2).2≠0
 .rw[if_pos ef] at a8;exact absurd a8 ef
 have ef:(fw s e[k] (gi (fw s) (e.take k) []).2).2=0:=by simpa using ef
 by_cases aO:yx e[k].op=false
 .unfold fw at ef;rw[QY aO] at ef;exact amx ef
 .intro a7;simp only[yx,decide_eq_false_iff_not] at aO;omega
theorem aoE{m:Model}(h:(check m).cN=0){j:Nat}(aF:j<m.props.length):(kind m.props[j].expr (eR m)).2=0:=by
 obtain⟨_,_,ab⟩:=Nf h;have dS:=Lh ab j aF;rw[D7 aF] at dS;refine Classical.byContradiction fun az=>?_
 repeat' split at dS
 all_goals first | omega | (exact absurd dS az) | skip
 all_goals contradiction
theorem alI{m:Model}{q:Nat}(h:q<(insts m).length):dG m q+1<=dN m:=by
 obtain⟨p,au⟩:=Fy h
 have:=au.room
 omega
theorem ac2{m:Model}{v:Nat}(h:v<m.vars.length):hn m v+ph m v<=dN m:=by
 have:=rQ h
 rw[ss h]
 have:=mZ m
 omega
theorem aeV{m:Model}{c:Nat}(h:c<m.aw.length):cm m c+(1+gE m c)<=dN m:=by
 have:=vR h
 rw[pJ h]
 have:=mZ m
 omega
structure Bk(m:Model)(x:Node):Prop where
 node:Dp (eR m) x
 over:My (eR m) x
theorem Bk.var{m:Model}(aW:eX m){x:Node}(h:Bk m x)(e:x.op=2):∃az:x.n.toNat<m.vars.length,0<=x.n/\ph m x.n.toNat=1:=by
 obtain⟨af,v,aG,jb⟩:=h.node.var e;have e1:m.vars[x.n.toNat]? = some v:=aG;obtain⟨h1,I⟩:=List.getElem?_eq_some_iff.1 e1;refine⟨h1,af,?_⟩;rw[ss h1,I];unfold cells;rw[if_pos jb];rfl
theorem Bk.item{m:Model}(aW:eX m){x:Node}(h:Bk m x)(e:x.op=3):∃az:x.n.toNat<m.vars.length,0<=x.n/\∃aO:((m.vars[x.n.toNat]).over - 1).toNat<m.scalars.length,1<=(m.vars[x.n.toNat]).over/\(m.scalars[((m.vars[x.n.toNat]).over - 1).toNat]).size=(ph m x.n.toNat:Nat)/\ph m x.n.toNat<=4:=by
 obtain⟨af,_⟩:=h.node.item e;obtain⟨v,aG,jb⟩:=h.over e;have e1:m.vars[x.n.toNat]? = some v:=aG;obtain⟨h1,I⟩:=List.getElem?_eq_some_iff.1 e1;have dh:=aW.var _ (GR h1);have ak:size (m.vars[x.n.toNat]).over m.scalars≠0:=by
  rcases dh.eF with q | q
  .rw[I] at q;exact absurd q jb
  .exact q
 have an:cells (m.vars[x.n.toNat]) m.scalars=size (m.vars[x.n.toNat]).over m.scalars:=by
  unfold cells;rw[if_neg (by rw[I];exact jb)]
 refine⟨h1,af,?_⟩;rw[ss h1,an];unfold size at ak ⊢;cases hk:m.scalars[((m.vars[x.n.toNat]).over - 1).toNat]? with
 | none=>rw[hk] at ak;exact absurd rfl ak
 | some y =>
  rw[hk] at ak;simp only at ak ⊢;obtain⟨g1,g2⟩:=List.getElem?_eq_some_iff.1 hk;by_cases q:1<=(m.vars[x.n.toNat]).over/\1<=y.size/\y.size<=4
  .rw[if_pos q];refine⟨g1,q.1,?_,?_⟩
   .rw[g2];omega
   .omega
  .rw[if_neg q] at ak;exact absurd rfl ak
theorem aoF{m:Model}(h:(check m).cN=0){j:Nat}(aF:j<m.props.length){x:Node}(ag:x∈m.props[j].expr):Bk m x:=by
 obtain⟨k,hk,rfl⟩:=List.mem_iff_getElem.1 ag;exact⟨((abi h aF).node k hk).1,al5 (aoE h aF) k hk⟩
def zB(x:Nat×Nat):C_ B_:=[.slice (some ⟨x.1,0,none⟩) x.2 x.2]
def qv(m:Model)(bs:C_ Nat):C_ (Nat×Nat):=bs.zip (m.procs.map fun p=>p.cp.toNat)
theorem yj{m:Model}{bs:C_ Nat}(h:bs.length<=m.procs.length):(qv m bs).length=bs.length:=by simp[qv];omega
theorem ER{m:Model}{bs:C_ Nat}{k:Nat}(h:k<bs.length)(au:k<m.procs.length):(qv m bs)[k]? = some (bs[k],m.procs[k].cp.toNat):=by
 simp[qv,List.getElem?_zip_eq_some,h,au]
theorem ajJ{m:Model}{bs:C_ Nat}{b:Nat}(au:bs.length<m.procs.length):qv m (bs++[b])=qv m bs++[(b,m.procs[bs.length].cp.toNat)]:=by
 apply List.ext_getElem?;intro i;by_cases h1:i<bs.length
 .rw[ER (by simp;omega) AK,List.getElem?_append_left (by rw[yj AK];exact h1),ER h1 AK];simp[List.getElem_append_left h1]
 .by_cases I:i=bs.length
  .subst I;rw[ER Bs au,List.getElem?_append_right (by rw[yj AK];exact GA _),yj AK];simp
  .rw[List.getElem?_eq_none (by rw[yj (by simp;omega)];simp;omega),List.getElem?_eq_none (by rw[Ln,yj AK];simp;omega)]
end o
namespace Go.Proofs.R
open Go Go.RowKit ba
structure n1(m:o.Model)(base:Nat)(bs:List Nat)(nD:Nat->List Int)(v:Value)(W:World):Prop where
 row:aS o.zB T.b 1 base W v (o.qv m bs)
 low:∀b∈bs,base<=b
 nodup:bs.Nodup
 cx:∀p (h:p<bs.length),W.heap[bs[p]]? = some (.cells (nS (nD p)).toArray T.a)
theorem n1.ext{m:o.Model}{base:Nat}{bs:C_ Nat}{nD:Nat->C_ Int}{v:B_}{w w':A_}(h:n1 m base bs nD v w)(he:Ext w w'):n1 m base bs nD v w' :=
 ⟨h.row.ext he,h.low,h.nodup,fun p au=>he.obj (h.cx p au)⟩
theorem n1.mod{m:o.Model}{base:Nat}{bs:C_ Nat}{nD:Nat->C_ Int}{v:B_}{w w':A_}{A:Nat->Prop}(h:n1 m base bs nD v w)(hm:Mod A w w')(dg:∀k,A k->k<base):n1 m base bs nD v w' :=
 ⟨h.row.mod hm fun k hk a=>by have:=(h.row.lt k hk).1;have:=dg k a;omega,h.low,h.nodup,fun p au=>hm.obj (fun a=>by have:=h.low _ (GR au);have:=dg _ a;omega) (h.cx p au)⟩
theorem ano{l:C_ Nat}(h:l.Nodup){i j:Nat}(U:i<l.length)(aF:j<l.length)(e:l[i]=l[j]):i=j:=by
 rcases Nat.lt_trichotomy i j with h1 | h1 | h1
 .exact absurd e (List.pairwise_iff_getElem.1 h i j U aF h1)
 .exact h1
 .exact absurd e.symm (List.pairwise_iff_getElem.1 h j i aF U h1)
theorem ags(x:Nat×Nat):∀u∈o.zB x,u.oneCell'=true:=by simp[o.zB,Value.oneCell']
theorem n1.step{m:o.Model}{base:Nat}{bs:C_ Nat}{nD Nk:Nat->C_ Int}{v:B_}{w w':A_}{q:Nat}(h:n1 m base bs nD v w)(ar:q<bs.length)(hw:dy bs[q] w w')(an:w'.heap[bs[q]]? = some (.cells (nS (Nk q)).toArray T.a))
  (ak:∀p,p<bs.length->p≠q->Nk p=nD p):n1 m base bs Nk v w':=by
 refine⟨h.row.mod (hw.mod (A:=fun i=>i=bs[q]) rfl) fun k hk e=>?_,h.low,h.nodup,fun p au=>?_⟩
 .obtain⟨cur,h1⟩:=h.row.cx k hk;have I:=h.cx q ar;rw[e,I] at h1;injection h1 with h1
  injection h1 with _ h1
  revert h1;decide
 .by_cases e:p=q
  .subst e;exact an
  .rw[ak p au e];exact hw.obj (h.cx p au) fun aJ=>e (ano h.nodup au ar aJ)
theorem n1.snoc{m:o.Model}{base:Nat}{bs:C_ Nat}{nD:Nat->C_ Int}{v b0:B_}{w w':A_}{b:Nat}(h:n1 m base bs nD v w)(hk:bs.length<m.procs.length)(ma:aS o.zB T.b 1 base w' b0 (o.qv m bs++[(b,m.procs[bs.length].cp.toNat)]))
  (aK:w.grownBy w' v.ownBlock)(ao:base<=b)(Fb:∀p (au:p<bs.length),bs[p]≠b)(an:w.heap[b]? = some (.cells (nS (nD bs.length)).toArray T.a)):n1 m base (bs++[b]) nD b0 w':=by
 refine⟨by rw[o.ajJ hk];exact ma,fun x ag=>?_,?_,fun p au=>?_⟩
 .rcases List.mem_append.1 ag with ag | ag
  .exact h.low x ag
  .rw[AG0] at ag;omega
 .rw[AK1];refine⟨h.nodup,Bs,fun a aV c an e=>?_⟩;rw[AG0] at an;obtain⟨p,au,rfl⟩:=List.mem_iff_getElem.1 aV;exact Fb p au (by rw[e,an])
 .by_cases wK:p<bs.length
  .rw[AI5 wK];exact h.row.box aK (h.cx p wK) BN
  .have e:p=bs.length:=by simp at au;omega
   subst e;rw[AI6 (GA _)];simpa using h.row.box aK an BN
theorem n1.ant{m:o.Model}{base:Nat}{bs:C_ Nat}{nD:Nat->C_ Int}{v:B_}{W:A_}{L:C_ (C_ Int)}(h:n1 m base bs nD v W)(ao:bs.length=m.procs.length)(cY:L.length=m.procs.length)
  (aC:∀p (au:p<m.procs.length),(nD p).length=m.procs[p].cp.toNat/\m.procs[p].cp.toNat<=12)(an:∀p,p<m.procs.length->L[p]? = some (nD p)):xI W v L:=by
 obtain⟨aQ,cap,rfl,h1,I,ab,aH⟩:=(aS.jD (enc:=o.zB) (sz:=1) (fun _=>rfl) h.row).ex;have c3:=o.yj (m:=m) (bs:=bs) AK;refine⟨aQ,cap,by rw[c3,ao,cY],AK,I,fun az=>ab (by intro e;rw[e] at c3;simp at c3;exact az (AF9 AK)),fun a aV i U=>?_⟩;have cH:i<m.procs.length:=AK
 have aK:=o.ER (m:=m) (bs:=bs) (k:=i) AK cH;obtain⟨cg,O9⟩:=List.getElem?_eq_some_iff.1 aK;have gq:=aH a aV i cg 0 _ (show(o.zB (o.qv m bs)[i])[0]? = some _ from rfl);rw[O9,add_zero] at gq;refine⟨_,gq,?_⟩;obtain⟨_,aiu⟩:=List.getElem?_eq_some_iff.1 (an i cH);rw[aiu];exact QS (h.cx i AK) (aC i cH).1.symm (by have:=aC i cH;unfold maxLen;omega)
end Go.Proofs.R
end
section
namespace ba
open Go Go.RowKit
def adv(_:A_)(cs:C_ B_)(x:Nat):Prop:=cs=uE x
instance aup:Rel (Flat uE) adv 1 where
 out h:=⟨_,h,rfl⟩
 oG h k:=by cases k;exact h
 len h:=by cases h;rfl
 one h:=by cases h;exact agr _
 ext _ h:=h
end ba
end
section
end