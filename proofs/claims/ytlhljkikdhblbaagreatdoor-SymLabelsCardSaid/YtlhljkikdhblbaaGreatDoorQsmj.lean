/- Parts. -/
import Derived.Test.YtlhljkikdhblbaaGreatDoorQsmi
import Derived.Maps.RangeRun
set_option linter.all false
set_option maxRecDepth 8000
set_option maxHeartbeats 16000000
namespace Go.Proofs.R
open Go Go.RowKit ba
def VE(n:Int)(cs:C_ B_)(s:o.Scope)(w:A_)(h:o.gn w cs s) :
  EL F.M5 #[.I n,.agg cs.toArray] w λa b=>a = .bool (o.h0 n s).2/\Ext w b:=by
 obtain⟨c,d,e,bg,f,bj,g,i,j,k,rfl,l,m,p,q,r,t,u,v,x,y⟩:=h.form;refine bn E.M5 ?_;refine aO ?_;refine O_ λz A B C G=>?_
 (repeat' (refine aO ?_;first | (refine I_ (λ_=>?_) (λ_=>?_)<;>try (exfalso;omega)) | refine N_ (λ_=>?_) (λ_=>?_)))<;>try refine aO ?_
 all_goals
  refine⟨?_,fT⟩;congr 1;unfold o.h0
  (repeat' split)<;>first | rfl | (exfalso;omega) | (simp;omega)
def kindOf(n:Int):Int:=if n=0 then 0 else 1+n
def Ms(n:Int)(w:A_)(h:0<=n/\n<=4611686018427387904):EL F.HO #[.I n] w λa b=>a = .I (kindOf n)/\b=w:=by
 refine bn E.HO ?_
 (repeat' (refine aO ?_;first | (refine I_ (λ_=>?_) (λ_=>?_)<;>try (exfalso;omega)) | refine N_ (λ_=>?_) (λ_=>?_)))<;>try refine aO ?_
 all_goals
  refine⟨?_,aV⟩;congr 1;unfold kindOf;split<;>first | rfl | (exfalso;omega)
def afh{n:Int}{s:o.Scope}(h:(o.h0 n s).2=true):0<=n/\n<=s.scalars.length/\(o.h0 n s).1=kindOf n:=by
 unfold o.h0 kindOf at *
 (repeat' split at h) <;> (repeat' split)<;>first | (cases h;done) | (refine⟨AY,AY,?_⟩;first | rfl | omega) | (exfalso;omega)
def Iv(v:B_)(l:C_ o.Var)(n:Int)(cs:C_ B_)(s:o.Scope)(w:A_)(p:o.j1 w v l)(h:o.gn w cs s) :
  EL F.MY #[v,.I n,.agg cs.toArray] w λv c =>
   (∃q:o.Var,v = .tuple #[.agg q.enc.toArray,.bool (o.fQ l n s).2.2]/\((o.fQ l n s).2.2=true->o.nth l n=some q))/\Ext w c:=by
 obtain⟨G,H,I,bg,J,bj,K,L,M,N,rfl,_⟩:=h.form;obtain⟨O,P,rfl,Q⟩:=p.form;refine bn E.MY ?_;refine aO ?_;refine O_ λS U V g z=>?_;refine aO ?_;refine O_ λW X Y r t=>?_;have e:=g.trans r;have u:=r.obj z;refine aO ?_;refine I_ (λx=>have b:(o.fQ l n s).2.2=false:=(by rw[o.fQ,o.hv (.inl x)]); ?_) (λx=>?_);rotate_left;refine aO ?_;refine I_ (λA=>have b:(o.fQ l n s).2.2=false:=(by rw[o.fQ,o.hv (.inr AY)]); ?_) (λA=>?_);rotate_left;obtain⟨a,rfl⟩:=Uh (show 0<=n by omega);have Z:a<l.length:=AY
 have f:o.nth l (a:Int)=some l[a]:=by rw[o.ik AY AY];simp only[Int.toNat_natCast]
 obtain⟨ab,rfl⟩:=p.addr;refine aO ?_;refine S_ (c:=[_,_,_,_,_,_]) u (Ext.refl _) rfl ?_;refine aO ?_;refine P_ _ (λc i=>VE _ _ s c (h.ext (e.trans i))) ?_;refine aO ?_;refine N_ (λj=>?_) (λj=>have b:(o.fQ l a s).2.2=false:=(by rw[o.fQ,f];simp only[j,Bool.false_and]); ?_);refine aO ?_;refine S_ (c:=[_,_,_,_,_,_]) u (Ext.refl _) rfl ?_;refine aO ?_;refine P_ _ (λc i=>VE _ _ s c (h.ext (e.trans i))) ?_;refine aO ?_;cases y:(o.h0 l[a].over s).2
 case' false=>have b:(o.fQ l a s).2.2=false:=by rw[o.fQ,f];simp only[y,Bool.and_false]
 case true =>
  have b:(o.fQ l a s).2.2=true:=by rw[o.fQ,f];simp only[j,y,Bool.and_true]
  refine aO ?_;intro B d;refine aO ?_;refine X_ (cs:=l[a].enc.toArray) (d.obj t) rfl rfl (by simp[o.Var.enc,Value.oneCell']) λC k m=>?_;refine aO ?_;refine S_ (c:=o.Var.enc _) m (Ext.refl _) rfl ?_;refine aO ?_;exact⟨⟨_,by rw[b],λ_=>f⟩,k.ext (e.trans d) (by have:=g.size;omega)⟩
 all_goals
  refine aO ?_;intro B d;refine aO ?_;refine V_ (cs:=(⟨⟨#[]⟩,0,0,0,0,0⟩:o.Var).enc) (by simp[gv,o.Var.enc]) ?_;refine aO ?_;refine X_ (cs:=(⟨⟨#[]⟩,0,0,0,0,0⟩:o.Var).enc.toArray) (d.obj t) rfl rfl (by simp[o.Var.enc,Value.oneCell']) λC k m=>?_;refine aO ?_;refine S_ (c:=o.Var.enc _) m (Ext.refl _) rfl ?_;refine aO ?_;exact⟨⟨_,by rw[b],by rw[b];intro h;cases h⟩,k.ext (e.trans d) (by have:=g.size;omega)⟩
def aha(n:Int)(cs:C_ B_)(s:o.Scope)(w:A_)(h:o.gn w cs s) :
  EL F.MT #[.I n,.agg cs.toArray] w λr d =>
   (∃k:o.eb,r = .tuple #[.agg k.enc.toArray,.bool (decide ((o.kO n s).2=0))]/\((o.kO n s).2=0->o.nth s.aA n=some k))/\Ext w d:=by
 obtain⟨B,C,G,bg,H,bj,I,J,K,L,rfl,M,N,t,O,P,Q,S,U,V,W⟩:=h.form;refine bn E.MT ?_;refine aO ?_;refine O_ λX Y Z e u=>?_;refine aO ?_;refine O_ λab ae af l m=>?_;have f:=e.trans l;have v:=l.obj u;refine aO ?_;refine I_ (λp=>have b:(o.kO n s).2=8:=(by rw[o.kO,o.hv (.inl p)]); ?_) (λp=>?_);rotate_left;refine aO ?_;refine I_ (λx=>have b:(o.kO n s).2=8:=(by rw[o.kO,o.hv (.inr AY)]); ?_) (λx=>?_);rotate_left;obtain⟨a,rfl⟩:=Uh (show 0<=n by omega);have ag:a<s.aA.length:=AY
 have g:o.nth s.aA (a:Int)=some s.aA[a]:=by rw[o.ik AY AY];simp only[Int.toNat_natCast]
 obtain⟨ah,rfl⟩:=t.addr;refine aO ?_;refine S_ (c:=[_,_,_,_,_,_]) v (Ext.refl _) rfl ?_;refine aO ?_;refine P_ _ (λd y=>VE _ _ s d (h.ext (f.trans y))) ?_;refine aO ?_;cases q:(o.h0 s.aA[a].scalar s).2
 case' false=>have b:(o.kO a s).2=8:=by rw[o.kO,g];simp only[q,Bool.false_eq_true,if_false]
 case true =>
  have b:(o.kO a s).2=0:=by rw[o.kO,g];simp only[q,if_true]
  refine aO ?_;intro z c;refine aO ?_;refine X_ (cs:=s.aA[a].enc.toArray) (c.obj m) rfl rfl (by simp[o.eb.enc,Value.oneCell']) λA i j=>?_;refine aO ?_;refine S_ (c:=o.eb.enc _) j (Ext.refl _) rfl ?_;refine aO ?_;exact⟨⟨_,by rw[b];rfl,λ_=>g⟩,i.ext (f.trans c) (by have:=e.size;omega)⟩
 all_goals
  refine aO ?_;intro z c;refine aO ?_;refine V_ (cs:=(⟨⟨#[]⟩,0,0,0,0,false⟩:o.eb).enc) (by simp[gv,o.eb.enc]) ?_;refine aO ?_;refine X_ (cs:=(⟨⟨#[]⟩,0,0,0,0,false⟩:o.eb).enc.toArray) (c.obj m) rfl rfl (by simp[o.eb.enc,Value.oneCell']) λA i j=>?_;refine aO ?_;refine S_ (c:=o.eb.enc _) j (Ext.refl _) rfl ?_;refine aO ?_;exact⟨⟨_,by rw[b];rfl,by rw[b];intro h;cases h⟩,i.ext (f.trans c) (by have:=e.size;omega)⟩
def T8{l:C_ o.Var}{n:Int}{s:o.Scope}{x:o.Var}(h:(o.fQ l n s).2.2=true)(a:o.nth l n=some x) :
  (o.fQ l n s).1=kindOf x.scalar/\(o.fQ l n s).2.1=kindOf x.over/\0<=x.scalar/\x.scalar<=s.scalars.length/\0<=x.over/\x.over<=s.scalars.length:=by
 unfold o.fQ at h ⊢;rw[a] at h ⊢;simp only[Bool.and_eq_true] at h ⊢;obtain⟨b,c,d⟩:=afh h.1;obtain⟨e,f,g⟩:=afh h.2;exact⟨d,g,b,c,e,f⟩
def axi(x:o.Node)(cs:C_ B_)(s:o.Scope)(w:A_)(X:x.ok)(h:o.gn w cs s)(ay:1<=x.op/\x.op<=8)(N:x.op≠3)(t:Int) :
  EL F.M3 #[.agg x.enc.toArray,.agg cs.toArray] w λY Z=>Y = .tuple #[.I (o.hh x s t).1,.I (o.hh x s t).2]/\Ext w Z:=by
 obtain⟨az,aB,aC,bg,aD,bj,aE,aF,aG,aH,rfl,aI,O,C,P,ab,aJ,aK,aL,aP,aQ⟩:=h.form;refine bn E.M3 ?_;refine aO ?_;refine O_ λaR ae aS Q S=>?_;refine aO ?_;refine O_ λy aU aX G H=>?_;have k:=Q.trans G;have aY:y.heap[ae]? = some (.cells #[.I x.op,.I x.n] T.k):=G.obj S;clear S;refine aO ?_;apply I_<;>intro z
 .have c:o.hh x s t=if o.within x.n then (0,0) else (0,10):=by rw[o.hh,if_pos z]
  (repeat' (refine aO ?_;first | (refine I_ (λ_=>?_) (λ_=>?_)<;>try (exfalso;omega)) | refine N_ (λ_=>?_) (λ_=>?_)))<;>try refine aO ?_
  all_goals
   refine⟨?_,fT⟩;rw[c];unfold o.within;split<;>first | rfl | (rename_i af;simp at af;exfalso;omega)
 by_cases aZ:x.op=2\/x.op=4
 .have c:o.hh x s t=(let d:=o.fQ (if x.op=4 then s.locals else s.vars) x.n s;if d.2.2=false then (0,8) else if (x.op=3/\(d.2.1=0\/t≠d.2.1))\/(x.op≠3/\d.2.1≠0) then (0,9) else (d.1,0)):=by
   rw[o.hh,if_neg z,if_pos AY]
  by_cases U:x.op=4
  .rw[if_pos U] at c;rw[c];refine aO ?_;refine S_ (c:=[_,_,_,_,_,_]) H (Ext.refl _) rfl ?_;refine aO ?_;refine J_ (Iv _ s.locals x.n _ s y (ab.ext k) (h.ext k)) ?_;rintro _ l ⟨⟨a,rfl,f⟩,m⟩;have n:(o.fQ s.locals x.n s).2.2=true->_:=λp=>T8 p (f p);clear f c;generalize o.fQ s.locals x.n s=d at n ⊢;obtain⟨I,J,ag⟩:=d;refine aO ?_;refine _O (vs:=a.enc) (λ_=>by simp -dsimp only[c7,cD,Nat.reduceAdd,Nat.reduceEqDiff,reduceIte,reduceCtorEq,dt]) rfl rfl (by simp[o.Var.enc,Value.oneCell']) λg A V W i=>?_;have ah:g.heap[A]? = some (.cells #[.string a.name,.I a.scalar,.I a.over,.I a.aQ,.I a.ab,.I a.init] T.j):=i;clear i;refine aO ?_;refine N_ (λb=>?_) (λb=>?_);rotate_left
   .refine aO ?_;simp only[b,if_true];exact cd
   obtain⟨K,L,ai,aj,ak,al⟩:=n b;have q:kindOf a.over=0↔a.over=0:=by unfold kindOf;split<;>omega
   have r:I=kindOf a.scalar:=K;have u:J=kindOf a.over:=L;refine aO ?_;apply I_<;>intro e
   .refine aO ?_;refine J_ (Ms a.scalar g AY) ?_;rintro _ _ ⟨rfl,rfl⟩;refine aO ?_;simp only[b,Bool.true_eq_false,if_false,r,u];rw[if_neg (by rw[ne_eq,q];omega)];exact cd
   .refine aO ?_;simp only[b,Bool.true_eq_false,if_false,r,u];rw[if_pos (.inr ⟨N,by rw[ne_eq,q];exact e⟩)];exact cd
  .rw[if_neg U] at c;rw[c];refine aO ?_;refine S_ (c:=[_,_,_,_,_,_]) H (Ext.refl _) rfl ?_;refine aO ?_;refine J_ (Iv _ s.vars x.n _ s y (O.ext k) (h.ext k)) ?_;rintro _ l ⟨⟨a,rfl,f⟩,m⟩;have n:(o.fQ s.vars x.n s).2.2=true->_:=λp=>T8 p (f p);clear f c;generalize o.fQ s.vars x.n s=d at n ⊢;obtain⟨I,J,ag⟩:=d;refine aO ?_;refine _O (vs:=a.enc) (λ_=>by simp -dsimp only[c7,cD,Nat.reduceAdd,Nat.reduceEqDiff,reduceIte,reduceCtorEq,dt]) rfl rfl (by simp[o.Var.enc,Value.oneCell']) λg A V W i=>?_;have ah:g.heap[A]? = some (.cells #[.string a.name,.I a.scalar,.I a.over,.I a.aQ,.I a.ab,.I a.init] T.j):=i;clear i;refine aO ?_;refine N_ (λb=>?_) (λb=>?_);rotate_left
   .refine aO ?_;simp only[b,if_true];exact cd
   obtain⟨K,L,ai,aj,ak,al⟩:=n b;have q:kindOf a.over=0↔a.over=0:=by unfold kindOf;split<;>omega
   have r:I=kindOf a.scalar:=K;have u:J=kindOf a.over:=L;refine aO ?_;apply I_<;>intro e
   .refine aO ?_;refine J_ (Ms a.scalar g AY) ?_;rintro _ _ ⟨rfl,rfl⟩;refine aO ?_;simp only[b,Bool.true_eq_false,if_false,r,u];rw[if_neg (by rw[ne_eq,q];omega)];exact cd
   .refine aO ?_;simp only[b,Bool.true_eq_false,if_false,r,u];rw[if_pos (.inr ⟨N,by rw[ne_eq,q];exact e⟩)];exact cd
 have c:o.hh x s t=o.kP x s:=by rw[o.hh,if_neg z,if_neg AY]
 rw[c];clear c;refine aO ?_;apply I_<;>intro b
 ·(repeat' (refine aO ?_;first | (refine I_ (λ_=>?_) (λ_=>?_)<;>try (exfalso;omega)) | refine N_ (λ_=>?_) (λ_=>?_)))<;>try refine aO ?_
  all_goals
   refine⟨?_,fT⟩;rw[o.kP,if_pos b];split<;>first | rfl | (exfalso;omega)
 refine aO ?_;apply I_<;>intro e
 .have c:o.kP x s=o.kO x.n s:=by rw[o.kP,if_neg b,if_pos e]
  rw[c];have an:(o.kO x.n s).1=0/\((o.kO x.n s).2=0\/(o.kO x.n s).2=8):=by
   unfold o.kO; (repeat' split)<;>simp
  refine aO ?_;refine S_ (c:=[_,_,_,_,_,_]) H (Ext.refl _) rfl ?_;refine aO ?_;refine J_ (aha x.n _ s y (h.ext k)) ?_;rintro _ l ⟨⟨a,rfl,f⟩,m⟩;generalize o.kO x.n s=d at *;obtain⟨O,C⟩:=d;obtain⟨rfl,B⟩:=an;refine aO ?_;refine _O (vs:=a.enc) (λ_=>by simp -dsimp only[c7,cD,Nat.reduceAdd,Nat.reduceEqDiff,reduceIte,reduceCtorEq,dt]) rfl rfl (by simp[o.eb.enc,Value.oneCell']) λg A V W i=>?_;refine aO ?_;apply I_<;>intro v
  .refine aO ?_;have ao:C=0:=v;rw[ao];exact cd
  .refine aO ?_
   have:C=8:=B.resolve_left v
   rw[this];exact cd
 refine aO ?_;apply I_<;>intro v
 .have c:o.kP x s=o.zW x.n s:=by rw[o.kP,if_neg b,if_neg e,if_pos v]
  rw[c,o.zW];refine aO ?_;apply I_<;>intro z
  .refine aO ?_;intro l m;refine aO ?_;rw[if_neg AY];exact cd
  rw[if_pos AY];obtain⟨j,M⟩:=Uh (show 0<=x.n by omega);obtain⟨_,aq⟩:=X.n;rw[M] at aq;have B:x.n.tdiv 16=((j / 16:Nat):Int):=by rw[M];rfl
  have ar:x.n.tmod 16=((j % 16:Nat):Int):=by rw[M];rfl
  refine aO ?_;refine _P AY ?_;rw[B];refine aO ?_;apply I_<;>intro a0
  .refine aO ?_;intro l m;refine aO ?_;rw[o.hv (.inr AY)];exact cd
  have au:j / 16<s.procs.length:=AY
  rw[o.ik AY AY];simp only[Int.toNat_natCast];refine aO ?_;refine _o AY ?_;refine aO ?_;refine _P AY ?_;rw[B];obtain⟨av,rfl⟩:=P.addr;obtain⟨_,a1,dN,aw,_⟩:=P.at (j / 16) au;have ax:w.cell? ((av.add (j / 16*5)).add 2)=some (.I s.procs[j / 16].cb):=aw 2 _ rfl;refine aO ?_;refine L_ ((Q.trans G).cell ax) ?_;refine aO ?_;rw[ar];intro l m;refine aO ?_;apply I_<;>intro a3
  all_goals
   refine aO ?_;refine⟨?_,fT⟩
   first | rw[if_pos AY] | rw[if_neg AY]
 (repeat' (refine aO ?_;first | (refine I_ (λ_=>?_) (λ_=>?_)<;>try (exfalso;omega)) | refine N_ (λ_=>?_) (λ_=>?_)))<;>try refine aO ?_
 all_goals
  refine⟨?_,fT⟩;rw[o.kP,if_neg b,if_neg e,if_neg v,if_pos AY];split<;>first | rfl | (exfalso;omega)
def afl(a:o.pF)(k:Int):o.nv a [k]=if a.iU = -1\/k=a.iU then (a.makes,0) else (0,9):=by
 simp[o.nv]
def ate(c:o.pF)(a b:Int):o.nv c [a,b]=if (c.iU = -1\/a=c.iU)/\a=b then (c.makes,0) else (0,9):=by
 simp only[o.nv,List.all_cons,List.all_nil,List.headD_cons,Bool.and_true,decide_true];by_cases d:a=b
 .subst d;simp
 .have e:¬b=a:=λf=>d f.symm;simp[d,e]
def wx(x:o.Node)(k:Int)(s:o.Scope):Int×Int:=match o.gY x.op with | some a=>o.nv a [k] | none=>o.hh x s k
def axo(x:o.Node)(k:Int)(cs:C_ B_)(s:o.Scope)(w:A_)(h:o.gn w cs s)(y:x.op=3\/x.op=9\/x.op=10) :
  EL F.M4 #[.agg x.enc.toArray,.I k,.agg cs.toArray] w λz A=>z = .tuple #[.I (wx x k s).1,.I (wx x k s).2]/\Ext w A:=by
 obtain⟨S,U,V,bg,W,bj,X,Y,Z,ab,rfl,ae,B,af,ag,ah,ai,aj,ak,al,an⟩:=h.form;refine bn E.M4 ?_;refine aO ?_;refine O_ λao C aq G f=>?_;refine aO ?_;refine O_ λg ar au i H=>?_;have j:=G.trans i;have av:g.heap[C]? = some (.cells #[.I x.op,.I x.n] T.k):=i.obj f;clear f;refine aO ?_;apply I_<;>intro d
 .have I:o.gY x.op=none:=by rw[d];rfl
  have l:wx x k s=(let b:=o.fQ s.vars x.n s;if b.2.2=false then (0,8) else if (x.op=3/\(b.2.1=0\/k≠b.2.1))\/(x.op≠3/\b.2.1≠0) then (0,9) else (b.1,0)):=by
   rw[wx,I];simp only;rw[o.hh,if_neg AY,if_pos AY];simp only[show ¬x.op=4 from AY,if_false]
  rw[l];refine aO ?_;refine S_ (c:=[_,_,_,_,_,_]) H (Ext.refl _) rfl ?_;refine aO ?_;refine J_ (Iv _ s.vars x.n _ s g (B.ext j) (h.ext j)) ?_;rintro _ aw ⟨⟨a,rfl,m⟩,ax⟩;have n:(o.fQ s.vars x.n s).2.2=true->_:=λp=>T8 p (m p);clear m l;generalize o.fQ s.vars x.n s=b at n ⊢;obtain⟨J,q,ay⟩:=b;refine aO ?_;refine _O (vs:=a.enc) (λ_=>by simp -dsimp only[c7,cD,Nat.reduceAdd,Nat.reduceEqDiff,reduceIte,reduceCtorEq,dt]) rfl rfl (by simp[o.Var.enc,Value.oneCell']) λr K az aB t=>?_;have aC:r.heap[K]? = some (.cells #[.string a.name,.I a.scalar,.I a.over,.I a.aQ,.I a.ab,.I a.init] T.j):=t;clear t;refine aO ?_;refine N_ (λc=>?_) (λc=>?_);rotate_left
  .refine aO ?_;simp only[c,if_true];exact cd
  obtain⟨L,M,aD,aE,aF,aG⟩:=n c;have N:J=kindOf a.scalar:=L;have O:q=kindOf a.over:=M;have u:q=if a.over=0 then 0 else 1+a.over:=O
  refine aO ?_;apply I_<;>intro v
  .refine aO ?_;simp only[c,Bool.true_eq_false,if_false];rw[if_pos (.inl ⟨d,.inl (by rw[u,if_pos v])⟩)];exact cd
  rw[if_neg v] at u;refine aO ?_;apply I_<;>intro aH;rotate_left
  .refine aO ?_;simp only[c,Bool.true_eq_false,if_false];rw[if_pos (.inl ⟨d,.inr AY⟩)];exact cd
  refine aO ?_;refine J_ (Ms a.scalar r AY) ?_;rintro _ _ ⟨rfl,rfl⟩;refine aO ?_;simp only[c,Bool.true_eq_false,if_false,N];rw[if_neg AY];exact cd
 have P:x.op=9->wx x k s=if k=1 then (1,0) else (0,9):=by
  intro e;rw[wx,e];show o.nv _ [k]=_;rw[afl];simp
 have Q:x.op=10->wx x k s=if k=0 then (0,0) else (0,9):=by
  intro e;rw[wx,e];show o.nv _ [k]=_;rw[afl];simp
 (repeat' (refine aO ?_;first | (refine I_ (λ_=>?_) (λ_=>?_)<;>try (exfalso;omega)) | refine N_ (λ_=>?_) (λ_=>?_)))<;>try refine aO ?_
 all_goals
  refine⟨?_,fT⟩;rcases y with e | e | e
  .exact absurd e d
  .rw[P e];split<;>first | rfl | (exfalso;omega)
  .rw[Q e];split<;>first | rfl | (exfalso;omega)
def IN(op a b:Int):Int×Int:=match o.gY op with | some c=>o.nv c [a,b] | none=>(0,9)
def axy(op a b:Int)(w:A_)(i:11<=op/\op<=19) :
  EL F.M6 #[.I op,.I a,.I b] w λc d=>c = .tuple #[.I (IN op a b).1,.I (IN op a b).2]/\d=w:=by
 have f:IN op a b=if a≠b then (0,9) else if op=14\/op=15 then (1,0) else if op=18\/op=19 then (if a=1 then (1,0) else (0,9)) else if op=16\/op=17 then (if a=0 then (1,0) else (0,9)) else (if a=0 then (0,0) else (0,9)):=by
  have g:op=11\/op=12\/op=13\/op=14\/op=15\/op=16\/op=17\/op=18\/op=19:=AY
  rcases g with e | e | e | e | e | e | e | e | e<;>subst e <;> (show o.nv _ [a,b]=_)<;>rw[ate]<;>by_cases h:a=b<;>simp[h,o.wC]
 refine bn E.M6 ?_
 (repeat' (refine aO ?_;first | (refine I_ (λ_=>?_) (λ_=>?_)<;>try (exfalso;omega)) | refine N_ (λ_=>?_) (λ_=>?_)))<;>try refine aO ?_
 all_goals
  refine⟨?_,aV⟩;rw[f]
  (repeat' split)<;>first | rfl | (exfalso;omega)
def anF{s:o.Scope}{x:o.Node}{st:C_ Int}(h:o.en x.op=0):o.gG s x st=o.hh x s (st.getLastD 0):=by
 unfold o.gG;rw[(Oj h).2.2.2]
theorem anG{s:o.Scope}{x:o.Node}{st:C_ Int}(h:o.en x.op=1)(a:1<=st.length):o.gG s x st=wx x st[st.length - 1] s:=by
 unfold o.gG wx;cases b:o.gY x.op with
 | none=>simp only;rw[Gj st AY]
 | some c =>
  have:=(o.Ca b).1
  simp only;rw[show c.parts.toNat=1 from AY,Q4 a]
def anH{s:o.Scope}{x:o.Node}{st:C_ Int}(h:o.en x.op=2)(a:2<=st.length):o.gG s x st=IN x.op st[st.length - 2] st[st.length - 1]:=by
 unfold o.gG IN;obtain⟨b,c,d⟩:=agj (show 9<=x.op/\x.op<=19 by have:=Ok h;omega);rw[c];simp only;rw[show b.parts.toNat=2 from AY,aa1 a]
def ahe(P:B_)(e:C_ o.Node)(cs:C_ B_)(s:o.Scope)(w:A_)(A:o.fJ w P e)(h:o.gn w cs s) :
  EL F.MV #[P,.agg cs.toArray] w λn j=>n = .tuple #[.I (o.kind e s).1,.I (o.kind e s).2]/\Ext w j:=by
 obtain⟨aL,aP,aQ,aR,aS,rfl,_⟩:=h.ex;obtain⟨aU,aX,rfl,aY⟩:=A.form;refine bn E.MV ?_;refine aO ?_;refine O_ λp aZ a0 Q ak=>?_;refine aO ?_;apply I_<;>intro a1
 .refine aO ?_;rw[o.kind,o.l7,if_pos AY];exact cd
 refine aO ?_;apply I_<;>intro a3
 .refine aO ?_;rw[o.kind,o.l7,if_neg AY,if_pos AY];exact cd
 refine aO ?_;refine _j 7 e.length (λb S j => ∃n a,S 6=n/\vk p.heap.size j n a/\o.e3 (o.gG s) (e.take b) []=(0,a)/\(0<b->1<=a.length)/\a.length<=12/\Ext p j)
  (by simp -dsimp only[c7,cD,Nat.reduceAdd,Nat.reduceEqDiff,reduceIte,reduceCtorEq,dt]) ⟨.slice none 0 0,[],by simp -dsimp only[c7,cD,Nat.reduceAdd,Nat.reduceEqDiff,reduceIte,reduceCtorEq,dt],aT.nil _ _ _ _ _,by simp[o.e3],Ah,Ah,Ext.refl _⟩ ?_
 rintro b S U B a5 d ⟨a7,a,f,C,r,al,a8,t⟩;have c:=B 0 rfl;have g:=B 3 rfl;simp only[bR,Nat.reduceAdd,Nat.reduceEqDiff,reduceIte,kF,ox] at c g;clear B;obtain⟨a9,bb,rfl,V,an⟩:=C.form;have G:nF U _ a:=aT.im (enc:=nO) (sz:=1) (λ_=>rfl) C;unfold maxLen at an;refine eJ (i_ c (i_ g (i_ f d))) ?_;apply I_<;>intro bf;rotate_left
 .have l:b=e.length:=AY
  subst l;rw[AG9] at r;have W:=al AY;obtain⟨ao,rfl⟩:=G.addr W;have X:o.kind e s=if a.length > 1 then (0,5) else (a.headD 0,0):=by
   rw[o.kind,o.l7,if_neg AY,if_neg AY,r,if_neg Ah]
  rw[X];clear X;refine eJ (i_ c (i_ g (i_ f d))) ?_;apply I_<;>intro u
  .refine aO ?_;rw[if_pos AY];exact cd
  .refine eJ (i_ c (i_ g (i_ f d))) ?_;refine M_ 0 rfl AY ?_;refine aO ?_;rw[if_neg AY]
   have:a.headD 0=a[0]:=by
    cases a with
    | nil=>simp at W
    | cons bk a=>rfl
   rw[this];exact cd
 have l:b<e.length:=AY
 obtain⟨ao,rfl⟩:=A.addr;have aq:=(A.at b l).ok;have m:=λc=>o.VG (f:=o.gG s) (e:=e) AY l r c;have ar:=o.EG l r;have Y:=Q.trans t;have Z:=t.obj ak;refine eJ (i_ c (i_ g (i_ f d))) ?_;refine J_ (aiy e[b].op U) ?_;rintro _ _ ⟨rfl,rfl⟩;generalize v:o.en e[b].op=H at *;have bl : -1<=H/\H<=2:=by rw[<-v];unfold o.en; (repeat' split)<;>omega
 refine eJ (i_ c (i_ g (i_ f d))) ?_;apply I_<;>intro u
 .have I:o.stepG (o.gG s) e[b] a=(3,a):=by unfold o.stepG;rw[v,if_pos u]
  rw[I] at m;refine aO ?_;rw[o.kind,m Ah];exact cd
 refine eJ (i_ c (i_ g (i_ f d))) ?_;apply I_<;>intro ab
 .have I:o.stepG (o.gG s) e[b] a=(4,a):=by unfold o.stepG;rw[v,if_neg u,if_pos ab]
  rw[I] at m;refine aO ?_;rw[o.kind,m Ah];exact cd
 obtain⟨i,rfl⟩:=Uh (show 0<=H by omega);have k:o.stepG (o.gG s) e[b] a=if (o.gG s e[b] a).2≠0 then ((o.gG s e[b] a).2,a) else if (a.take (a.length - i)++[(o.gG s e[b] a).1]).length > 12 then (12,a) else (0,a.take (a.length - i)++[(o.gG s e[b] a).1]):=by
  unfold o.stepG;rw[v,if_neg u,if_neg ab];simp only[Int.toNat_natCast]
 have x:(a.take (a.length - i)++[(o.gG s e[b] a).1]).length=a.length - i+1:=by simp[List.length_take]
 rw[x] at k;have au:i=0\/i=1\/i=2:=AY
 rcases au with zG | zG | zG
 case' inl =>
  have q:=anF (s:=s) (st:=a) (x:=e[b]) AY;obtain⟨av,aw,ax,bo⟩:=Oj (x:=e[b].op) AY;refine eJ (i_ c (i_ g (i_ f d))) ?_;refine S_ (c:=[_,_,_,_,_,_]) Z (Ext.refl _) rfl ?_;refine eJ (i_ c (i_ g (i_ f d))) ?_;refine P_ _ (λj y=>axi e[b] _ s j aq (h.ext (Y.trans y)) ⟨av,aw⟩ ax (a.getLastD 0)) ?_;rw[<-q];refine eJ (i_ c (i_ g (i_ f d))) ?_
 case' inr.inl =>
  have q:=anG (s:=s) (st:=a) (x:=e[b]) AY AY;obtain⟨ay,rfl⟩:=G.addr;refine eJ (i_ c (i_ g (i_ f d))) ?_;refine M_ (a.length - 1) AY AY ?_;refine eJ (i_ c (i_ g (i_ f d))) ?_;refine S_ (c:=[_,_,_,_,_,_]) Z (Ext.refl _) rfl ?_;refine eJ (i_ c (i_ g (i_ f d))) ?_;refine P_ _ (λj y=>axo e[b] _ _ s j (h.ext (Y.trans y)) (af7 AY)) ?_;rw[<-q];refine eJ (i_ c (i_ g (i_ f d))) ?_
 case' inr.inr =>
  have q:=anH (s:=s) (st:=a) (x:=e[b]) AY AY;obtain⟨ay,rfl⟩:=G.addr;refine eJ (i_ c (i_ g (i_ f d))) ?_;refine M_ (a.length - 2) AY AY ?_;refine eJ (i_ c (i_ g (i_ f d))) ?_;refine M_ (a.length - 1) AY AY ?_;refine eJ (i_ c (i_ g (i_ f d))) ?_;refine P_ _ (λj y=>(axy e[b].op _ _ j (Ok AY)).mono λn bp h=>⟨h.1,h.2 ▸ Ext.refl _⟩) ?_;rw[<-q];refine eJ (i_ c (i_ g (i_ f d))) ?_
 all_goals
  intro az J;refine eJ (i_ c (i_ g (i_ f d))) ?_;apply I_<;>intro K;rotate_left
  .rw[if_pos K] at k;refine aO ?_;rw[o.kind,m (by rw[k];exact K),k];exact cd
  rw[if_neg (by simpa using K)] at k;have aB:=C.ext J;refine eJ (i_ c (i_ g (i_ f d))) ?_;refine _D (cs:=[]) (by simp[List.range,List.range.loop,gv]) λae aC bq L aD=>?_;have bt:=t.size;have bu:=J.size;have bw:=L.size;have aE:vk p.heap.size ae (.slice (some ⟨aC,0,none⟩) 0 0) []:=aT.empty AY aD;have aF:=aB.ext L;have aG:vk p.heap.size ae (.slice _ (a.length - i) _) (a.take (a.length - i)):=aT.head (enc:=nO) (sz:=1) (xs:=a) (λ_=>rfl) aF (a.length - i) (Nat.sub_le _ _);have z:(a.take (a.length - i)).length=a.length - i:=by simp[List.length_take]
  refine eJ (i_ c (i_ g (i_ f d))) ?_;refine _k (a.length - i) (by refine cg f ?_;first | rfl | (congr 1;omega)) AY ?_;refine aO ?_;refine AA0 (xs:=[]) (ys:=a.take (a.length - i)) aE aG (λ_=>rfl) Kp (by rw[z];simp only[List.length_nil];omega) (by rw[z];simp only[List.length_nil,maxLen];omega) AY λbx aH af aI=>?_;have ag:Ext az aH:=L.grown aI λah M=>by simp[Value.ownBlock] at M;omega
  rw[AH9] at af;have bz:=ag.size;refine aO ?_;refine _D (cs:=[(o.gG s e[b] a).1].flatMap nO) (by simp[List.range,List.range.loop,gv,lay,dE,bR,Value.cells,nO]) λbA bB bC N V=>?_;have bD:=N.size;have ai:=af.ext N;refine aO ?_;refine _l (xs:=a.take (a.length - i)) (ys:=[(o.gG s e[b] a).1]) ai (λ_=>rfl) (g5 V) rfl Kp (by rw[z];simp only[List.length_cons,List.length_nil];omega) (by rw[z];simp only[List.length_cons,List.length_nil,maxLen];omega) AY λbE aJ O aK=>?_;have aj:Ext p aJ:=Ext.grown (((t.trans J).trans ag).trans N) aK λah M=>(ai.lt ah M).1;obtain⟨bG,bH,rfl,_⟩:=O.form;rw[x] at O ⊢;by_cases bI:12<a.length - i+1
  .rw[if_pos AY] at k
   first
    | (exfalso;omega)
    | (refine aO ?_
       rw[o.kind,m (by rw[k];simp),k];exact⟨aV,Q.trans aj⟩)
  rw[if_neg AY] at k;refine eJ d ?_;refine⟨l,aV,_,_,rfl,O,by rw[ar,k],λ_=>by rw[x];omega,by rw[x];omega,aj⟩
def ED(c:B_)(e:C_ o.Node)(k:Int)(cs:C_ B_)(s:o.Scope)(w:A_)(d:o.fJ w c e)(h:o.gn w cs s) :
  EL F.Nj #[c,.I k,.agg cs.toArray] w λi j=>i = .I (o.asked e k s)/\Ext w j:=by
 obtain⟨m,n,p,bg,q,bj,r,t,u,v,rfl,_⟩:=h.form;obtain⟨x,y,rfl,_⟩:=d.form;refine bn E.Nj ?_;refine ad ?_;intro l z A a B;refine ad ?_;refine J_ (ahe _ e _ s l (d.ext a) (h.ext a)) ?_;rintro _ C ⟨rfl,b⟩;rw[o.asked];refine ad ?_;apply I_<;>intro f;rotate_left
 .refine ad ?_;exact⟨by rw[if_pos f],a.trans b⟩
 rw[if_neg (by simpa using f)];refine ad ?_;apply I_<;>intro g;rotate_left
 .refine ad ?_;exact⟨by rw[if_pos g],a.trans b⟩
 .refine ad ?_;exact⟨by rw[if_neg (by simpa using g)],a.trans b⟩
def Mt(n:Int)(w:A_)(h:0<=n/\n<=4611686018427387904):EL F.HO #[.I n] w λa b=>a = .I (if n=0 then 0 else 1+n)/\b=w:=Ms n w h
theorem U4(v:B_)(l:C_ o.Var)(n:Int)(cs:C_ B_)(s:o.Scope)(w:A_)(i:o.j1 w v l)(h:o.gn w cs s) :
  EL F.Nl #[v,.I n,.agg cs.toArray] w λv m=>v = .tuple #[.I (o.mA l n s).1,.I (o.mA l n s).2]/\Ext w m:=by
 obtain⟨z,A,B,bg,C,bj,G,H,I,J,rfl,_,_,_,_,_,K,L,M,N,O⟩:=h.form;obtain⟨P,Q,rfl,_⟩:=i.form;refine bn E.Nl ?_;refine ad ?_;intro p S U a V;refine ad ?_;refine J_ (Iv _ l n _ s p (i.ext a) (h.ext a)) ?_;rintro W X ⟨⟨f,c,q⟩,g⟩;cases b:(o.fQ l n s).2.2 with
 | false =>
  rw[b] at c;subst c;refine ad ?_;intro j r t d u;refine ad ?_;exact⟨by rw[o.mA,o.aaX b],(a.trans g).trans d⟩
 | true =>
  rw[b] at c;subst c;obtain⟨x,y,Y,Z,ab⟩:=o.aaZ b (q b);have e:o.mA l n s=if f.over≠0 then (0,9) else ((if f.scalar=0 then 0 else 1+f.scalar),0):=by unfold o.mA;rw[x]
  refine ad ?_;intro j r t d u;refine ad ?_;apply I_<;>intro k
  .rw[if_neg (by simpa using k)] at e;refine ad ?_;refine J_ (Mt _ j ⟨y,AY⟩) ?_;rintro _ _ ⟨rfl,rfl⟩;refine ad ?_;exact⟨by rw[e],(a.trans g).trans d⟩
  .rw[if_pos k] at e;refine ad ?_;exact⟨by rw[e],(a.trans g).trans d⟩
theorem asQ(a:o.Act)(q r:B_)(cs:C_ B_)(s:o.Scope)(w:A_)(t:o.fJ w q a.index)(u:o.fJ w r a.value)(h:o.gn w cs s) :
  EL F.Nk #[.agg (a.enc q r).toArray,.agg cs.toArray] w λv b=>v = .I (o.BS a s)/\Ext w b:=by
 obtain⟨O,P,Q,bg,S,bj,U,V,W,X,rfl,_,C,_,_,_,Y,Z,ab,ae,af⟩:=h.form;obtain⟨_,_,rfl,_⟩:=t.form;obtain⟨_,_,rfl,_⟩:=u.form;refine bn E.Nk ?_;refine ad ?_;intro ag ah ai G d;refine ad ?_;intro x aj ak y g;replace d:=y.obj d;have dh:∀{b},Ext x b->Ext w b:=λc=>(G.trans y).trans c;refine ad ?_;refine J_ (Iv _ s.vars a.to _ s x (C.ext (dh (Ext.refl _))) (h.ext (dh (Ext.refl _)))) ?_;rintro al an ⟨⟨e,k,H⟩,l⟩;replace d:=l.obj d;replace g:=l.obj g;cases i:(o.fQ s.vars a.to s).2.2 with
 | false =>
  rw[i] at k;subst k;refine ad ?_;intro n I J j p;refine ad ?_;exact⟨by rw[o.BS,o.aaX i],dh (l.trans j)⟩
 | true =>
  rw[i] at k;subst k;obtain⟨K,L,ao,aq,ar⟩:=o.aaZ i (H i);have f:o.BS a s=if e.over=0 then 9 else if o.asked a.index (1+e.over) s≠0 then o.asked a.index (1+e.over) s else o.asked a.value (if e.scalar=0 then 0 else 1+e.scalar) s:=by unfold o.BS;rw[K]
  refine ad ?_;intro n I J j p;replace d:=j.obj d;replace g:=j.obj g;have dT:∀{b},Ext n b->Ext w b:=λc=>dh ((l.trans j).trans c);refine ad ?_;apply I_<;>intro z
  .rw[if_pos z] at f;refine ad ?_;exact⟨by rw[f],dT (Ext.refl _)⟩
  rw[if_neg z] at f;refine ad ?_;refine J_ (ED _ a.index (1+e.over) _ s n (t.ext (dT (Ext.refl _))) (h.ext (dT (Ext.refl _)))) ?_;rintro _ M ⟨rfl,m⟩;replace d:=m.obj d;replace g:=m.obj g;replace p:=m.obj p;have hA:∀{b},Ext M b->Ext w b:=λc=>dT (m.trans c);refine ad ?_;apply I_<;>intro A;rotate_left
  .rw[if_pos A] at f;refine ad ?_;exact⟨by rw[f],hA (Ext.refl _)⟩
  rw[if_neg (by simpa using A)] at f;refine ad ?_;refine P_ (.I (if e.scalar=0 then 0 else 1+e.scalar)) (λb c=>(Mt _ b ⟨L,AY⟩).mono λv au B=>⟨B.1,by rw[B.2];exact Ext.refl _⟩) ?_;refine ad ?_;refine P_ (.I (o.BS a s)) (λb c=>by rw[f];exact ED _ a.value _ _ s b (u.ext (hA c)) (h.ext (hA c))) ?_;refine ad ?_;intro av N;refine ad ?_;exact⟨aV,hA N⟩
def ag9(a:o.Act)(comm:Bool)(A B:B_)(cs:C_ B_)(s:o.Scope)(w:A_)(C:o.fJ w A a.index)(n:o.fJ w B a.value)(h:o.gn w cs s) :
  EL F.Ni #[.agg (a.enc A B).toArray,.agg cs.toArray,.bool comm] w λG d=>G = .I (o.mD a s comm)/\Ext w d:=by
 obtain⟨ae,af,ag,bg,ah,bj,ai,aj,ak,al,rfl,_,O,_,_,H,an,ao,aq,ar,au⟩:=h.form;obtain⟨_,_,rfl,_⟩:=C.form;obtain⟨_,_,rfl,_⟩:=n.form;refine bn E.Ni ?_;refine ad ?_;intro av aw ax P e;refine ad ?_;intro p ay az I g;replace e:=I.obj e;have dh:∀{d},Ext p d->Ext w d:=λj=>(P.trans I).trans j;refine ad ?_;apply I_<;>intro Q
 .refine ad ?_;exact⟨by rw[o.mD,if_pos (.inl Q)],dh (Ext.refl _)⟩
 refine ad ?_;apply I_<;>intro S
 .refine ad ?_;exact⟨by rw[o.mD,if_pos (.inr S)],dh (Ext.refl _)⟩
 have k:¬(a.kind<1\/5<a.kind):=AY
 refine ad ?_;apply I_<;>intro l
 .refine ad ?_;refine J_ (asQ a _ _ _ s p (C.ext (dh (Ext.refl _))) (n.ext (dh (Ext.refl _))) (h.ext (dh (Ext.refl _)))) ?_;rintro _ q ⟨rfl,b⟩;refine ad ?_;exact⟨by rw[o.mD,if_neg k,if_pos l],dh b⟩
 refine ad ?_;apply I_<;>intro U
 .have c:o.mD a s comm=if (o.mA s.vars a.to s).2≠0 then (o.mA s.vars a.to s).2 else o.asked a.value (o.mA s.vars a.to s).1 s:=by
   rw[o.mD,if_neg k,if_neg l,if_pos (.inl U)];simp only[if_neg (by omega:¬a.kind=3)]
  refine ad ?_;refine J_ (U4 _ s.vars a.to _ s p (O.ext (dh (Ext.refl _))) (h.ext (dh (Ext.refl _)))) ?_;rintro _ q ⟨rfl,b⟩;replace e:=b.obj e;replace g:=b.obj g;refine ad ?_;apply I_<;>intro i;rotate_left
  .rw[if_pos i] at c;refine ad ?_;exact⟨by rw[c],dh b⟩
  rw[if_neg (by simpa using i)] at c;refine ad ?_;refine J_ (ED _ a.value _ _ s q (n.ext (dh b)) (h.ext (dh b))) ?_;rintro _ r ⟨rfl,f⟩;refine ad ?_;exact⟨by rw[c],dh (b.trans f)⟩
 refine ad ?_;apply I_<;>intro i
 .have c:o.mD a s comm=if (o.mA s.locals a.to s).2≠0 then (o.mA s.locals a.to s).2 else o.asked a.value (o.mA s.locals a.to s).1 s:=by
   rw[o.mD,if_neg k,if_neg l,if_pos (.inr i)];simp only[if_pos i]
  refine ad ?_;refine J_ (U4 _ s.locals a.to _ s p (H.ext (dh (Ext.refl _))) (h.ext (dh (Ext.refl _)))) ?_;rintro _ q ⟨rfl,b⟩;replace e:=b.obj e;replace g:=b.obj g;refine ad ?_;apply I_<;>intro i;rotate_left
  .rw[if_pos i] at c;refine ad ?_;exact⟨by rw[c],dh b⟩
  rw[if_neg (by simpa using i)] at c;refine ad ?_;refine J_ (ED _ a.value _ _ s q (n.ext (dh b)) (h.ext (dh b))) ?_;rintro _ r ⟨rfl,f⟩;refine ad ?_;exact⟨by rw[c],dh (b.trans f)⟩
 have y:¬(a.kind=1\/a.kind=3):=AY
 refine ad ?_;refine N_ (λu=>?_) (λu=>?_)
 .refine ad ?_;exact⟨by rw[o.mD,if_neg k,if_neg l,if_neg y,if_pos u],dh (Ext.refl _)⟩
 refine ad ?_;refine J_ (aha a.to _ s p (h.ext (dh (Ext.refl _)))) ?_;rintro aB q ⟨⟨m,v,V⟩,b⟩;replace e:=b.obj e;replace g:=b.obj g;by_cases t:(o.kO a.to s).2=0;rotate_left
 .rw[decide_eq_false t] at v;subst v;refine ad ?_;intro r W X f z;refine ad ?_;exact⟨by rw[o.mD,if_neg k,if_neg l,if_neg y,if_neg (by simp[u]),o.alO t],dh (b.trans f)⟩
 rw[decide_eq_true t] at v;subst v;obtain⟨Y,J,aC⟩:=o.alQ t (V t);have c:o.mD a s comm=if a.kind=4 then o.asked a.value (if m.scalar=0 then 0 else 1+m.scalar) s else if (o.mA s.locals a.loc s).2≠0 then (o.mA s.locals a.loc s).2 else if (o.mA s.locals a.loc s).1≠(if m.scalar=0 then 0 else 1+m.scalar) then 9 else 0:=by
  rw[o.mD,if_neg k,if_neg l,if_neg y,if_neg (by simp[u]),Y]
 refine ad ?_;intro r W X f z;replace e:=f.obj e;replace g:=f.obj g;have dT:∀{d},Ext r d->Ext w d:=λj=>dh ((b.trans f).trans j);refine ad ?_;apply I_<;>intro K
 .rw[if_pos K] at c;refine ad ?_;refine P_ (.I (if m.scalar=0 then 0 else 1+m.scalar)) (λd j=>(Mt _ d ⟨J,AY⟩).mono λG aD L=>⟨L.1,by rw[L.2];exact Ext.refl _⟩) ?_;refine ad ?_;refine P_ (.I (o.mD a s comm)) (λd j=>by rw[c];exact ED _ a.value _ _ s d (n.ext (dT j)) (h.ext (dT j))) ?_;refine ad ?_;intro aE Z;refine ad ?_;exact⟨aV,dT Z⟩
 rw[if_neg K] at c;refine ad ?_;refine J_ (U4 _ s.locals a.loc _ s r (H.ext (dT (Ext.refl _))) (h.ext (dT (Ext.refl _)))) ?_;rintro _ ab ⟨rfl,x⟩;replace z:=x.obj z;refine ad ?_;apply I_<;>intro M;rotate_left
 .rw[if_pos M] at c;refine ad ?_;exact⟨by rw[c],dT x⟩
 rw[if_neg (by simpa using M)] at c;refine ad ?_;refine J_ (Mt _ ab ⟨J,AY⟩) ?_;rintro _ _ ⟨rfl,rfl⟩;refine ad ?_;apply I_<;>intro N
 .rw[if_neg (by simpa using N)] at c;refine ad ?_;exact⟨by rw[c],dT x⟩
 .rw[if_pos N] at c;refine ad ?_;exact⟨by rw[c],dT x⟩
end Go.Proofs.R
namespace o
def ZE{s:Scope}{a:Act}{k:Nat}{b:Bool}{c:Int×Int}:(if hU a&&b then ((2+(k:Int)),(7:Int)) else if lo a s≠0 then (2+(k:Int),lo a s) else c)=if mD a s b≠0 then (2+(k:Int),mD a s b) else c:=by
 rw[awA];by_cases d:(hU a&&b)=true
 .simp[d]
 .simp[d]
end o
namespace Go.Proofs.R
open Go Go.RowKit ba o
theorem awJ(c:ew)(M N:B_)(p:ed)(O P:B_)(cs:C_ B_)(s:o.Scope)(w:A_)(ae:kl c.name)(Q:fJ w M c.guard)(u:ob w N c.b6)
  (af:j1 w O p.vars)(ag:sM w P p.cP)(h:gn w cs s) :
  EL F.Nf #[.agg (c.enc M N).toArray,.agg (p.enc O P).toArray,.agg cs.toArray] w λah e =>
   ah = .tuple #[.I (jJ c p.cb s).1,.I (jJ c p.cb s).2]/\Ext w e:=by
 obtain⟨aw,ax,ay,bg,az,bj,aB,aC,aD,aE,rfl,_⟩:=h.form;obtain⟨aF,aG,rfl,aH⟩:=u.form;obtain⟨aI,aJ,rfl,aK⟩:=Q.form;obtain⟨_,_,rfl,_⟩:=af.form;obtain⟨_,_,rfl,_⟩:=ag.form;refine bn E.Nf ?_;refine ad ?_;intro aL aP aQ ai g;refine ad ?_;intro aR aS aU S A;refine ad ?_;intro U aX aY J k;replace g:=(S.trans J).obj g;replace A:=J.obj A;have hb:∀{e},Ext U e->Ext w e:=λf=>((ai.trans S).trans J).trans f;refine ad ?_;refine J_ (EE c.name U ae) ?_;rintro aZ K ⟨B,C⟩;replace g:=C.obj g;replace A:=C.obj A;replace k:=C.obj k;have dT:∀{e},Ext K e->Ext w e:=λf=>hb (C.trans f);have n:∀G,o.head c p.cb=G->G≠0->jJ c p.cb s=(0,G):=λG f aj=>by unfold jJ;rw[f,if_pos aj]
 cases H:o.isName c.name with
 | false =>
  rw[H] at B;subst B;refine ad ?_;exact⟨by rw[n 6 (by unfold o.head;rw[if_pos H]) Ae],dT (Ext.refl _)⟩
 | true =>
  rw[H] at B;subst B;have r:¬o.isName c.name=false:=by rw[H];simp
  refine ad ?_;apply I_<;>intro V
  .refine ad ?_;exact⟨by rw[n 10 (by unfold o.head;rw[if_neg r,if_pos AY]) Ae],dT (Ext.refl _)⟩
  refine ad ?_;apply I_<;>intro t
  .refine ad ?_;exact⟨by rw[n 10 (by unfold o.head;rw[if_neg r,if_pos AY]) Ae],dT (Ext.refl _)⟩
  refine ad ?_;apply I_<;>intro m
  .refine ad ?_;exact⟨by rw[n 10 (by unfold o.head;rw[if_neg r,if_pos AY]) Ae],dT (Ext.refl _)⟩
  refine ad ?_;apply I_<;>intro W
  .refine ad ?_;exact⟨by rw[n 10 (by unfold o.head;rw[if_neg r,if_pos AY]) Ae],dT (Ext.refl _)⟩
  have X:¬(c.from_<0\/p.cb<=c.from_\/c.to<0\/p.cb<=c.to):=AY
  refine ad ?_;apply I_<;>intro a0
  .refine ad ?_;exact⟨by rw[n 11 (by unfold o.head;rw[if_neg r,if_neg X,if_pos AY]) Ae],dT (Ext.refl _)⟩
  have I:jJ c p.cb s=if c.guard.length > 0/\o.asked c.guard 1 s≠0 then (1,o.asked c.guard 1 s) else mi s c.b6 0 false:=by
   unfold jJ;rw[if_neg];unfold o.head;rw[if_neg r,if_neg X,if_neg AY];simp
  clear n;refine ad ?_;apply I_<;>intro ak
  .refine ad ?_;refine J_ (ED _ c.guard 1 _ s K (Q.ext (dT (Ext.refl _))) (h.ext (dT (Ext.refl _)))) ?_;rintro _ Y ⟨rfl,L⟩;replace g:=L.obj g;replace k:=L.obj k;have hA:∀{e},Ext Y e->Ext w e:=λf=>dT (L.trans f);refine ad ?_;apply I_<;>intro Z;rotate_left
   .rw[if_pos ⟨AY,Z⟩] at I;refine ad ?_;exact⟨by rw[I],hA (Ext.refl _)⟩
   have v:jJ c p.cb s=mi s c.b6 0 false:=by rw[I,if_neg (λab=>ab.2 (by simpa using Z))]
   refine ad ?_;refine K_ 10 c.b6.length [3,4,5] (λi=>[(9,.bool i)]) false (λa i e=>Ext Y e/\mi s c.b6 0 false=mi s (c.b6.drop a) a i) aW aW ⟨Ext.refl _,Ah⟩ ?_;rintro a i al an ao ⟨b,d⟩;replace g:=b.obj g;replace k:=b.obj k;refine ad ?_;apply I_<;>intro V
   .have l:a<c.b6.length:=AY
    obtain⟨aq,rfl⟩:=u.addr;obtain⟨ar,au,x,y,z⟩:=u.at a l;obtain⟨_,_,rfl,_⟩:=y.form;obtain⟨_,_,rfl,_⟩:=z.form;rw[Ql l,ZE] at d;replace x:=x.ext (hA (Ext.refl _));refine ad ?_;refine P_ (.I (mD c.b6[a] s i)) (λe f=>ag9 c.b6[a] i _ _ _ s e (y.ext (hA (b.trans f))) (z.ext (hA (b.trans f))) (h.ext (hA (b.trans f)))) ?_;refine ad ?_;intro av j;replace g:=j.obj g;replace k:=j.obj k;refine ad ?_;apply I_<;>intro t;rotate_left
    .rw[if_pos t] at d;refine ad ?_;exact⟨by rw[v,d],hA (b.trans j)⟩
    rw[if_neg (by simpa using t)] at d;refine ad ?_;refine N_ (λm=>?_) (λm=>?_)
    .subst m;refine ad ?_;exact⟨l,aV,true,aW,b.trans j,by simpa using d⟩
    subst m;refine ad ?_;apply I_<;>intro W
    .have q:hU c.b6[a]=true:=by unfold hU;rw[decide_eq_true_eq];omega
     refine ad ?_;exact⟨l,aV,true,aW,b.trans j,by simpa[q] using d⟩
    have q:hU c.b6[a]=decide (c.b6[a].kind=5):=by unfold hU;rw[AH3,decide_eq_true_eq,decide_eq_true_eq];omega
    rw[Bool.false_or,q] at d;refine ad ?_;exact⟨l,aV,decide (c.b6[a].kind=5),aW,b.trans j,d⟩
   .rw[VQ AY] at d;refine ad ?_;exact⟨by rw[v,d];rfl,hA b⟩
  .have v:jJ c p.cb s=mi s c.b6 0 false:=by rw[I,if_neg (λab=>ak AY)]
   refine ad ?_;refine K_ 10 c.b6.length [3,4,5] (λi=>[(9,.bool i)]) false (λa i e=>Ext K e/\mi s c.b6 0 false=mi s (c.b6.drop a) a i) aW aW ⟨Ext.refl _,Ah⟩ ?_;rintro a i al an ao ⟨b,d⟩;replace g:=b.obj g;replace k:=b.obj k;refine ad ?_;apply I_<;>intro V
   .have l:a<c.b6.length:=AY
    obtain⟨aq,rfl⟩:=u.addr;obtain⟨ar,au,x,y,z⟩:=u.at a l;obtain⟨_,_,rfl,_⟩:=y.form;obtain⟨_,_,rfl,_⟩:=z.form;rw[Ql l,ZE] at d;replace x:=x.ext (dT (Ext.refl _));refine ad ?_;refine P_ (.I (mD c.b6[a] s i)) (λe f=>ag9 c.b6[a] i _ _ _ s e (y.ext (dT (b.trans f))) (z.ext (dT (b.trans f))) (h.ext (dT (b.trans f)))) ?_;refine ad ?_;intro av j;replace g:=j.obj g;replace k:=j.obj k;refine ad ?_;apply I_<;>intro t;rotate_left
    .rw[if_pos t] at d;refine ad ?_;exact⟨by rw[v,d],dT (b.trans j)⟩
    rw[if_neg (by simpa using t)] at d;refine ad ?_;refine N_ (λm=>?_) (λm=>?_)
    .subst m;refine ad ?_;exact⟨l,aV,true,aW,b.trans j,by simpa using d⟩
    subst m;refine ad ?_;apply I_<;>intro W
    .have q:hU c.b6[a]=true:=by unfold hU;rw[decide_eq_true_eq];omega
     refine ad ?_;exact⟨l,aV,true,aW,b.trans j,by simpa[q] using d⟩
    have q:hU c.b6[a]=decide (c.b6[a].kind=5):=by unfold hU;rw[AH3,decide_eq_true_eq,decide_eq_true_eq];omega
    rw[Bool.false_or,q] at d;refine ad ?_;exact⟨l,aV,decide (c.b6[a].kind=5),aW,b.trans j,d⟩
   .rw[VQ AY] at d;refine ad ?_;exact⟨by rw[v,d];rfl,dT b⟩
theorem axv(p:ed)(ae cs:C_ B_)(s:o.Scope)(w:A_)(aw:yP w ae p)(h:gn w cs s)(af:s.cB)(ag:p.cB) :
  EL F.Nm #[.agg ae.toArray,.agg cs.toArray] w λax a=>ax = .tuple #[.I (iB p s).1,.I (iB p s).2.1,.I (iB p s).2.2]/\Ext w a:=by
 obtain⟨ay,az,aB,bg,aC,bj,aD,aE,a8,a9,rfl,K,U,aF,aG,bb,bf,bk,bl,bo,bp⟩:=h.form;obtain⟨aH,bq,bt,rfl,y,C⟩:=aw;obtain⟨aI,aJ,rfl,bu⟩:=y.form;obtain⟨bw,bx,rfl,bz⟩:=C.form;refine bn E.Nm ?_;refine ad ?_;intro bA bB bC aK d;refine ad ?_;intro ah bD bE ai f;replace d:=ai.obj d;have dh:∀{a},Ext ah a->Ext w a:=λb=>(aK.trans ai).trans b;refine ad ?_;refine J_ (EE p.name ah aH) ?_;rintro bG aj ⟨L,V⟩;replace d:=V.obj d;replace f:=V.obj f;have hb:∀{a},Ext aj a->Ext w a:=λb=>dh (V.trans b);have r:∀M,o.whole p s=M->M≠0->iB p s=(0,0,M):=λM b K=>by unfold iB;rw[b,if_pos K]
 cases N:o.isName p.name with
 | false =>
  rw[N] at L;subst L;refine ad ?_;exact⟨by rw[r 6 (by unfold o.whole;rw[if_pos N]) Ae],hb (Ext.refl _)⟩
 | true =>
  rw[N] at L;subst L;have z:¬o.isName p.name=false:=by rw[N];simp
  refine ad ?_;apply I_<;>intro aL
  .refine ad ?_;exact⟨by rw[r 8 (by unfold o.whole;rw[if_neg z,if_pos (.inl aL)]) Ae],hb (Ext.refl _)⟩
  refine ad ?_;apply I_<;>intro bH
  .refine ad ?_;exact⟨by rw[r 8 (by unfold o.whole;rw[if_neg z,if_pos (.inr AY)]) Ae],hb (Ext.refl _)⟩
  have O:¬(p.over<0\/(s.scalars.length:Int)<p.over):=AY
  refine ad ?_;apply I_<;>intro aP
  .refine ad ?_;exact⟨by rw[r 10 (by unfold o.whole;rw[if_neg z,if_neg O,if_pos (.inl aP)]) Ae],hb (Ext.refl _)⟩
  refine ad ?_;apply I_<;>intro bI
  .refine ad ?_;exact⟨by rw[r 10 (by unfold o.whole;rw[if_neg z,if_neg O,if_pos (.inr AY)]) Ae],hb (Ext.refl _)⟩
  have ak:¬(p.cb<1\/12<p.cb):=AY
  refine ad ?_;apply I_<;>intro bJ
  .refine ad ?_;exact⟨by rw[r 11 (by unfold o.whole;rw[if_neg z,if_neg O,if_neg ak,if_pos AY]) Ae],hb (Ext.refl _)⟩
  have j:iB p s=if (mB p s).2≠0 then (1,(mB p s).1,(mB p s).2) else mR (o.inner p s) p.cb p.cP p.cP 0:=by
   unfold iB;rw[if_neg];unfold o.whole;rw[if_neg z,if_neg O,if_neg ak,if_neg AY];simp
  clear r;refine ad ?_;refine J_ (ahh _ _ p.vars s.scalars 4 aj (y.ext (hb (Ext.refl _))) (K.ext (hb (Ext.refl _)))) ?_;rintro _ al ⟨rfl,W⟩;replace d:=W.obj d;replace f:=W.obj f;have dT:∀{a},Ext al a->Ext w a:=λb=>hb (W.trans b);refine ad ?_;apply I_<;>intro X;rotate_left
  .have P:mB p s=o.vars p.vars s.scalars 4:=by unfold mB;rw[if_pos X]
   rw[P,if_pos X] at j;refine ad ?_;exact⟨by rw[j],dT (Ext.refl _)⟩
  have P:mB p s=rE s p.vars 0:=by unfold mB;rw[if_neg (by simpa using X)]
  rw[P] at j;refine ad ?_;refine K_ 9 p.vars.length [2,3] (λ_:Unit=>[]) () (λc _ a=>Ext al a/\rE s p.vars 0=rE s (p.vars.drop c) c) aW aW ⟨Ext.refl _,Ah⟩ ?_;rintro c _ aQ aR aS ⟨t,e⟩;replace d:=t.obj d;replace f:=t.obj f;refine ad ?_;apply I_<;>intro aU
  .have u:c<p.vars.length:=AY
   obtain⟨aX,rfl⟩:=y.addr;have an:=((y.at c u).cells).ext (dT t);rw[afJ u] at e;refine ad ?_;apply I_<;>intro G;rotate_left
   .rw[if_pos G] at e;refine ad ?_;exact⟨by rw[j,e];rfl,dT t⟩
   rw[if_neg (by simpa using G)] at e;refine ad ?_;refine K_ 10 s.vars.length [2,3,9] (λ_:Unit=>[]) () (λi _ a=>Ext aR a/\∀g (m:g<s.vars.length),g<i->¬s.vars[g].name=p.vars[c].name) aW aW ⟨Ext.refl _,λ_ _ h=>absurd h (Od _)⟩ ?_;rintro i _ aY Q aZ ⟨k,H⟩;replace d:=k.obj d;replace f:=k.obj f;have ko:∀{a},Ext Q a->Ext w a:=λb=>dT ((t.trans k).trans b);refine ad ?_;apply I_<;>intro a0
   .have S:i<s.vars.length:=AY
    obtain⟨bK,rfl⟩:=U.addr;have bL:=((U.at i S).cells).ext (ko (Ext.refl _));replace an:=an.ext k;refine ad ?_;intro ao l;replace d:=l.obj d;replace f:=l.obj f;refine ad ?_;apply I_<;>intro I
    .have v:s.vars.any (λn=>decide (n.name=p.vars[c].name))=true:=List.any_eq_true.2 ⟨s.vars[i],FA _,by simpa using I⟩;rw[if_pos v] at e;refine ad ?_;exact⟨by rw[j,e];rfl,ko l⟩
    .refine ad ?_;exact⟨S,aV,(),trivial,k.trans l,λg m h=>by
      by_cases b:g=i
      .subst b;exact I
      .exact H g m AY⟩
   .have v:¬s.vars.any (λn=>decide (n.name=p.vars[c].name))=true:=by
     intro Y;obtain⟨n,Z,ab⟩:=List.any_eq_true.1 Y;obtain⟨g,m,rfl⟩:=List.mem_iff_getElem.1 Z;exact H g m AY (by simpa using ab)
    rw[if_neg v] at e;refine ad ?_;exact⟨u,aV,(),trivial,t.trans k,e⟩
  rw[VQ AY] at e;replace j:iB p s=mR (o.inner p s) p.cb p.cP p.cP 0:=by rw[j,e];rfl
  clear e P;have a1:∀a,Ext w a->gn a [.slice ay s.scalars.length az,.slice aB s.vars.length bg,.slice aC s.aA.length bj,.slice aD s.procs.length aE,.slice aI p.vars.length aJ,.I p.over] (o.inner p s):=λa b =>
   ⟨(af.inner ag).sF.1,_,_,_,_,_,rfl,K.ext b,U.ext b,aF.ext b,aG.ext b,y.ext b,(af.inner ag).sF.2⟩
  refine ad ?_;intro Q bM bN k q;replace d:=k.obj d;replace f:=k.obj f;have ko:∀{a},Ext Q a->Ext w a:=λb=>dT ((t.trans k).trans b);refine ad ?_;refine K_ 12 p.cP.length [2,3,11] (λ_:Unit=>[]) () (λc _ a=>Ext Q a/\mR (o.inner p s) p.cb p.cP p.cP 0=mR (o.inner p s) p.cb p.cP (p.cP.drop c) c) aW aW ⟨Ext.refl _,Ah⟩ ?_;rintro c _ aQ ao aS ⟨l,e⟩;replace d:=l.obj d;replace f:=l.obj f;replace q:=l.obj q;have h7:∀{a},Ext ao a->Ext w a:=λb=>ko (l.trans b);refine ad ?_;apply I_<;>intro aU
  .have u:c<p.cP.length:=AY
   obtain⟨aX,rfl⟩:=C.addr;obtain⟨a3,bO,bQ,A,aq,ar⟩:=C.at c u;obtain⟨bU,bV,rfl,bW⟩:=aq.form;obtain⟨bX,bY,rfl,b0⟩:=ar.form;rw[aaG u] at e;replace A:=A.ext (h7 (Ext.refl _));refine ad ?_;refine P_ (.tuple #[.I (jJ p.cP[c] p.cb (o.inner p s)).1,.I (jJ p.cP[c] p.cb (o.inner p s)).2]) (λa b=>awJ p.cP[c] _ _ p _ _ _ (o.inner p s) a a3 (aq.ext (h7 b)) (ar.ext (h7 b)) (y.ext (h7 b)) (C.ext (h7 b)) (a1 _ (h7 b))) ?_;refine ad ?_;intro au B;replace d:=B.obj d;replace f:=B.obj f;replace q:=B.obj q;replace A:=A.ext B;have iV:∀{a},Ext au a->Ext w a:=λb=>h7 (B.trans b);refine ad ?_;apply I_<;>intro G;rotate_left
   .rw[if_pos G] at e;refine ad ?_;exact⟨by rw[j,e],iV (Ext.refl _)⟩
   rw[if_neg (by simpa using G)] at e;refine ad ?_;refine K_ 15 c [2,3,11,12] (λ_:Unit=>[]) () (λi _ a=>Ext au a/\∀g (m:g<p.cP.length),g<i->¬p.cP[g].name=p.cP[c].name) aW aW ⟨Ext.refl _,λ_ _ h=>absurd h (Od _)⟩ ?_;rintro i _ aY a5 aZ ⟨x,H⟩;replace d:=x.obj d;replace f:=x.obj f;replace q:=x.obj q;have iW:∀{a},Ext a5 a->Ext w a:=λb=>iV (x.trans b);refine ad ?_;apply I_<;>intro a0
   .have S:i<p.cP.length:=AY
    obtain⟨_,b1,b3,av,_,_⟩:=C.at i S;replace av:=av.ext (iW (Ext.refl _));replace A:=A.ext x;refine ad ?_;intro b4 J;replace d:=J.obj d;replace f:=J.obj f;replace q:=J.obj q;refine ad ?_;apply I_<;>intro I
    .have v:(p.cP.take c).any (λn=>decide (n.name=p.cP[c].name))=true:=List.any_eq_true.2 ⟨p.cP[i],by rw[List.mem_iff_getElem];exact⟨i,by simp;omega,Ah⟩,by simpa using I⟩;rw[if_pos v] at e;refine ad ?_;exact⟨by rw[j,e],iW J⟩
    .refine ad ?_;exact⟨AY,aV,(),trivial,x.trans J,λg m h=>by
      by_cases b:g=i
      .subst b;exact I
      .exact H g m AY⟩
   .have v:¬(p.cP.take c).any (λn=>decide (n.name=p.cP[c].name))=true:=by
     intro Y;obtain⟨n,Z,ab⟩:=List.any_eq_true.1 Y;obtain⟨g,m,rfl⟩:=List.mem_iff_getElem.1 Z;have a7:g<c/\g<p.cP.length:=by simp at m;omega
     exact H g a7.2 AY (by simpa using ab)
    rw[if_neg v] at e;refine ad ?_;exact⟨u,aV,(),trivial,(l.trans B).trans x,e⟩
  .rw[VQ AY] at e;refine ad ?_;exact⟨by rw[j,e];rfl,h7 (Ext.refl _)⟩
def awU(cs:C_ B_)(m:o.Model)(k:Nat)(w:A_)(h:dU w cs m)(q:m.cB)(z:k<m.procs.length)(aY:k<=6)(aZ:m.scalars.length<=2/\m.vars.length<=12/\m.aA.length<=4)(a0:k<6->∀f,f<k->(jn m f).1=0) :
  EL F.Nx #[.agg cs.toArray,.I k] w λA B=>A=zn (if (jn m k).1≠0 then ⟨(jn m k).1,4,k,(jn m k).2⟩ else vE)/\Ext w B:=by
 have C:=h;obtain⟨a1,a3,a5,bg,a7,bj,a8,a9,bb,bf,rfl,bk,bl,bo,N,bp,bq,bt,bu,bw,bx⟩:=h.form;have e:=Ri z;refine bn E.Nx ?_;refine ad ?_;intro bz bA bB O a;refine ad ?_;intro bC bD bE P b;replace a:=P.obj a;have r:=O.trans P;have bG:=cf a;have bH:=O.size;refine ad ?_;apply I_<;>intro bI
 .rw[if_pos AY] at e;refine ad ?_;intro al an bJ;refine ad ?_;exact⟨by rw[e];rfl,an.ext r AY⟩
 rw[if_neg AY] at e;obtain⟨bK,rfl⟩:=N.addr;obtain⟨ao,bL,dN,G,s,Q⟩:=N.at k z;obtain⟨bM,bN,rfl,bO⟩:=s.form;obtain⟨bQ,bU,rfl,bV⟩:=Q.form;have t:=q.proc _ (FA z);replace G:=G.ext r;refine ad ?_;intro al bW bX H c;replace a:=H.obj a;replace b:=H.obj b;refine ad ?_;intro aq u;replace a:=u.obj a;replace b:=u.obj b;replace c:=u.obj c;have I:=(r.trans H).trans u;refine ad ?_;refine J_ (awZ (w0:=w) _ m k aq C I q) ?_;rintro _ ar ⟨⟨bY,rfl,S⟩,j⟩;refine⟨j,?_⟩;have l:=I.trans j;obtain⟨b0,b1,b3,b4,b5,b6,b8,b9,ca,cb,rfl,_⟩:=(S _ l).form;refine ad ?_;refine J_ (axv m.procs[k] _ _ (hS m k) ar ⟨ao,_,_,rfl,s.ext l,Q.ext l⟩ (S _ l) (q.hS _) t) ?_;rintro _ cc ⟨rfl,v⟩;replace a:=(j.trans v).obj a;replace b:=(j.trans v).obj b;replace c:=(j.trans v).obj c;have U:=l.trans v;clear r I G;have ch:=agN m.procs[k] (hS m k) 140737488351232 λau av=>by have:=(t.cmd au av).b6;unfold eO at this;omega
 have cj:m.procs[k].vars.length<=140737488351232:=by have:=t.vars;unfold eO at this;omega
 have cm:m.procs[k].cP.length<=140737488351232:=by have:=t.cP;unfold eO at this;omega
 refine ad ?_;apply I_<;>intro J;rotate_left
 .rw[if_pos J] at e;refine ad ?_;intro V aw cp;refine ad ?_;exact⟨by rw[e,if_pos J];rfl,aw.ext U AY⟩
 rw[if_neg (by simpa using J)] at e;have ax:∀(d:Int),m.scalars.length+cZ 1 4 d m.vars.length+cZ 2 4 d m.aA.length+cZ 3 4 k m.procs.length+iE 4 d m.props.length<=8000000000000:=λd=>by
  have ay:=yz 1 4 d m.vars.length;have az:=yz 2 4 d m.aA.length;have aB:cZ 3 4 k m.procs.length<=k:=by unfold cZ; (repeat' split)<;>omega
  have aC:iE 4 d m.props.length=0:=by unfold iE;rw[if_neg Ae]
  omega
 refine ad ?_;intro V x;replace a:=x.obj a;replace b:=x.obj b;replace c:=x.obj c;have W:=U.trans x;refine ad ?_;refine J_ (Fy _ m 4 k V (C.ext W) AY AY (ax k)) ?_;rintro _ aD ⟨⟨A,rfl,K⟩,n⟩;refine⟨n,?_⟩;rw[akh] at K;replace a:=n.obj a;replace b:=n.obj b;replace c:=n.obj c;have X:=W.trans n;refine ad ?_;refine J_ (GF A _ m.procs[k].name _ aD K) ?_;rintro _ aE ⟨rfl,rfl⟩;refine ad ?_;apply I_<;>intro Y
 .rw[if_pos Y] at e;refine ad ?_;intro aF aG cq;refine ad ?_;exact⟨by rw[e];rfl,aG.ext X AY⟩
 rw[if_neg Y] at e;have cr:m.procs.length*80<=140737488355328:=by have:=q.procs;unfold eO at this;omega
 have aH:m.scalars.length+cZ 1 5 (0:Nat) m.vars.length+cZ 2 5 (0:Nat) m.aA.length+cZ 3 5 (0:Nat) m.procs.length+iE 5 (0:Nat) m.props.length<=8000000000000:=by
  have ay:=yz 1 5 (0:Nat) m.vars.length;have az:=yz 2 5 (0:Nat) m.aA.length;have aB:=yz 3 5 (0:Nat) m.procs.length;have aC:iE 5 (0:Nat) m.props.length=0:=by unfold iE;rw[if_pos Ae];simp
  omega
 have Z:=a;have aI:=b;have ab:=c;clear a b c K;have a:=Z;have c:=ab;refine ad ?_;refine K_ 9 m.procs[k].vars.length [1,2,4,5] (λ_:Unit=>[]) () (λf _ B=>Ext aE B/\∀d,d<f->r6 m m.procs[k] d=0) aW aW ⟨Ext.refl _,λf h=>absurd h (Od _)⟩ ?_;clear a c;rintro f _ ct aF cu ⟨p,L⟩;have a:=p.obj Z;have b:=p.obj aI;have c:=p.obj ab;have M:=X.trans p;refine ad ?_;apply I_<;>intro cv
 .have y:f<m.procs[k].vars.length:=AY
  obtain⟨cw,rfl⟩:=s.addr;have ae:=((s.at f y).cells).ext M;have af:=Er (f:=λaJ:o.Var=>aJ.name) y;refine ad ?_;intro ag g;replace a:=g.obj a;replace b:=g.obj b;replace c:=g.obj c;replace ae:=ae.ext g;have ah:=M.trans g;refine ad ?_;refine J_ (Fy _ m 5 (0:Nat) ag (C.ext ah) AY AY aH) ?_;rintro _ aK ⟨⟨aL,rfl,ai⟩,i⟩;refine⟨i,?_⟩;rw[ZK] at ai;replace a:=i.obj a;replace b:=i.obj b;replace c:=i.obj c;have aP:=ah.trans i;refine ad ?_;refine J_ (GF aL _ m.procs[k].vars[f].name _ aK ai) ?_;rintro _ cx ⟨rfl,rfl⟩;have aQ:tx m 0=jV m m.procs.length:=by simp[tx]
  rw[aQ];refine ad ?_;apply I_<;>intro aj
  .have ak:r6 m m.procs[k] f=7:=by unfold r6;rw[af,if_pos aj]
   rw[j9 y L (by rw[ak];decide),ak,if_pos (show(7:Int)≠0 by decide)] at e;refine ad ?_;intro cy aR cz;refine ad ?_;exact⟨by rw[e];rfl,aR.ext aP AY⟩
  .refine ad ?_;refine⟨y,aV,(),trivial,(p.trans g).trans i,λd aS=>?_⟩;by_cases aU:d=f
   .subst aU;unfold r6;rw[af,if_neg aj]
   .exact L d AY
 .rw[qt λd aS=>L d AY,if_neg Ah] at e;refine ad ?_;intro ag aX cB;refine ad ?_;exact⟨by rw[e];rfl,aX.ext M AY⟩
def awV(cs:C_ B_)(m:o.Model)(k:Nat)(w:A_)(h:dU w cs m)(q:m.cB)(r:k<m.props.length)(ae:k<=8)(af:m.scalars.length<=2/\m.vars.length<=12/\m.aA.length<=4)(ag:m.procs.length<=6) :
  EL F.Ny #[.agg cs.toArray,.I k] w λG e=>G = .I (ow m k)/\Ext w e:=by
 have H:=h;obtain⟨I,J,K,bg,L,bj,M,N,ah,ai,rfl,O,P,Q,S,s,aj,ak,al,an,ao⟩:=h.form;have a:=Ku r;refine bn E.Ny ?_;refine ad ?_;intro aq ar au i b;refine ad ?_;apply I_<;>intro av
 .rw[if_pos AY] at a;refine ad ?_;exact⟨by rw[a],i⟩
 rw[if_neg AY] at a;obtain⟨aw,rfl⟩:=s.addr;obtain⟨U,ax,t,u⟩:=s.at k r;obtain⟨ay,az,rfl,aB⟩:=u.form;replace t:=t.ext i;refine ad ?_;intro V aC aD v c;replace b:=v.obj b;have W:=i.trans v;refine ad ?_;refine J_ (EE m.props[k].name V U) ?_;rintro _ aE ⟨rfl,j⟩;replace b:=j.obj b;replace c:=j.obj c;have x:=W.trans j;refine ad ?_;refine N_ (λl=>?_) (λl=>?_);rotate_left
 .rw[if_pos l] at a;refine ad ?_;exact⟨by rw[a],x⟩
 rw[if_neg (by rw[l];decide)] at a;refine ad ?_;intro X n;replace b:=n.obj b;replace c:=n.obj c;have y:=x.trans n;refine ad ?_;refine J_ (Fy _ m 5 k X (H.ext y) AY AY (by
  have aF:=yz 1 5 k m.vars.length;have aG:=yz 2 5 k m.aA.length;have aH:=yz 3 5 k m.procs.length;have aI:iE 5 k m.props.length<=k:=by unfold iE; (repeat' split)<;>omega
  omega)) ?_
 rintro _ Y ⟨⟨Z,rfl,z⟩,f⟩;refine⟨f,?_⟩;rw[ZK] at z;replace b:=f.obj b;replace c:=f.obj c;have d:=y.trans f;refine ad ?_;refine J_ (GF Z _ m.props[k].name _ Y z) ?_;rintro _ aJ ⟨rfl,rfl⟩;refine ad ?_;apply I_<;>intro A
 .rw[if_pos A] at a;refine ad ?_;exact⟨by rw[a],d⟩
 rw[if_neg A] at a;have ab:∀e,Ext w e->gn e [.slice I m.scalars.length J,.slice K m.vars.length bg,.slice L m.aA.length bj,.slice M m.procs.length N,.slice none 0 0,.I 0] (fm m):=λe g =>
  ⟨q.scope.sF.1,_,_,_,_,_,rfl,O.ext g,P.ext g,Q.ext g,S.ext g,a6.nil,q.scope.sF.2⟩
 refine ad ?_;refine J_ (ahe _ m.props[k].expr _ (fm m) _ (u.ext d) (ab _ d)) ?_;rintro _ aK ⟨rfl,p⟩;refine ad ?_;apply I_<;>intro B;rotate_left
 .rw[if_pos B] at a;refine ad ?_;exact⟨by rw[a],d.trans p⟩
 rw[if_neg (by simpa using B)] at a;refine ad ?_;apply I_<;>intro C;rotate_left
 .rw[if_pos C] at a;refine ad ?_;exact⟨by rw[a],d.trans p⟩
 rw[if_neg (by simpa using C)] at a;refine ad ?_;exact⟨by rw[a],d.trans p⟩
def Vr(cs:C_ B_)(m:o.Model)(w:A_)(h:dU w cs m)(Y:m.cB) :
  EL F.Nq #[.agg cs.toArray] w λan j=>an=zn (o.check m)/\Ext w j:=by
 have x:=h;obtain⟨aK,aL,aP,bg,aQ,bj,aR,aS,aU,aX,rfl,q,r,k,Z,aY,aZ,a0,a1,a3,a5⟩:=h.form;refine bn E.Nq ?_;simp -dsimp only[cD];refine eA ?_;intro a7 a8 a9 ab c;refine eA ?_;intro ao bb bf L d;replace c:=L.obj c;have ae:=ab.trans L;have bk:=cf c;have bl:=cf d;have bo:=ab.size;refine eA ?_;simp -dsimp only[cD];refine eA ?_;refine J_ (awQ _ m ao (x.ext ae)) ?_;rintro _ bp ⟨rfl,B⟩;replace c:=B.obj c;replace d:=B.obj d;unfold zn;have bq:=L.size;have bt:=B.size;refine eA ?_;intro af C bu M f;replace c:=M.obj c;replace d:=M.obj d;have N:=(ae.trans B).trans M;have bw:=cf f;have ag:=c;have ah:=d;have bx:=x.ext N;refine eA ?_;refine R_ [1,2,3] (λ_:tK=>[]) (λb j=>Mod (λy=>y=C) af j/\j.heap[C]? = some (.cells #[.I b.bK,.I b.part,.I b.item,.I b.sub] T.v) /\
  ((b.bK≠0/\b=o.check m)\/(b.bK=0/\(o.data m).bK=0/\∀a,a<m.procs.length->(jn m a).1=0))) ?_ ?_
 .refine ad ?_;refine K_ 4 m.procs.length [1,2,3] (λ_:tK=>[]) (o.data m) (λe b j=>Mod (λy=>y=C) af j/\j.heap[C]? = some (.cells #[.I b.bK,.I b.part,.I b.item,.I b.sub] T.v) /\
   ((b=o.data m/\(o.data m).bK≠0)\/((o.data m).bK=0/\b.bK=0/\∀a,a<e->(jn m a).1=0)\/((o.data m).bK=0/\b=nw m/\(nw m).bK≠0))) aW aW ⟨Mod.refl _ _,f,by
     by_cases h:(o.data m).bK=0
     .exact .inr (.inl ⟨h,h,λa h=>absurd h (Od _)⟩)
     .exact .inl ⟨rfl,h⟩⟩ ?_
  clear c d f;rintro e b aq O ar ⟨i,f,s⟩;have c:=i.obj AY ag;have d:=i.obj AY ah;have z:=i.ext N (λy au av=>AY);have ai:b.bK≠0->(b.bK≠0/\b=o.check m):=λt=>⟨t,by
   rcases s with ⟨rfl,h⟩ | ⟨_,h,_⟩ | ⟨r,rfl,k⟩
   .rw[o.check,if_pos h]
   .exact absurd h t
   .rw[o.check,if_neg (by simpa using r),if_pos k]⟩
  refine ad ?_;apply I_<;>intro P
  .have n:e<m.procs.length:=AY
   refine ad ?_;apply I_<;>intro G
   .have p:(o.data m).bK=0/\b.bK=0/\∀a,a<e->(jn m a).1=0:=by
     rcases s with ⟨rfl,h⟩ | h | ⟨r,rfl,k⟩
     .exact absurd G h
     .exact h
     .exact absurd G k
    have aw:e<=6:=by
     apply Classical.byContradiction;intro aj
     have:=Kt (m:=m) (i:=6) AY (p.2.2 6 AY)
     omega
    refine ad ?_;refine J_ (awU _ m e O (x.ext z) Y n aw (F2 p.1) λ_=>p.2.2) ?_;rintro _ Q ⟨rfl,l⟩;unfold zn;replace c:=l.obj c;replace d:=l.obj d;replace f:=l.obj f;refine ad ?_;intro H A S;refine ad ?_;refine⟨n,aV,_,trivial,(i.trans l.mod).trans (A.mod rfl),S,?_⟩;by_cases q:(jn m e).1=0
    .rw[if_neg (by simpa using q)];refine .inr (.inl ⟨p.1,rfl,λa u=>?_⟩);by_cases U:a=e
     .subst U;exact q
     .exact p.2.2 a AY
    .rw[if_pos q]
     have:=Ih n p.2.2 q
     exact .inr (.inr ⟨p.1,this.symm,by rw[this];exact q⟩)
   .refine ad ?_;exact⟨b,trivial,i,f,.inl (ai G)⟩
  .refine ad ?_;refine⟨b,trivial,i,f,?_⟩;by_cases t:b.bK=0
   .refine .inr ?_;rcases s with ⟨rfl,h⟩ | ⟨r,k,Z⟩ | ⟨r,rfl,k⟩
    .exact absurd t h
    .exact⟨k,r,λa u=>Z a AY⟩
    .exact absurd t k
   .exact .inl (ai t)
 clear c d f;rintro b aq O ⟨i,f,s⟩;have c:=i.obj AY ag;have d:=i.obj AY ah;have z:=i.ext N (λy au av=>AY);refine ad ?_;apply I_<;>intro P;rotate_left
 .have g:b=o.check m:=by
   rcases s with ⟨_,h⟩ | ⟨h,_⟩
   .exact h
   .exact absurd h P
  refine ad ?_;intro Q ax bz;refine ad ?_;exact⟨by rw[g],ax.ext z AY⟩
 have ay:(o.data m).bK=0/\∀a,a<m.procs.length->(jn m a).1=0:=by
  rcases s with ⟨h,_⟩ | ⟨_,h⟩
  .exact absurd P h
  .exact h
 obtain⟨ak,V⟩:=ay;have az:=F2 ak;have aB:m.procs.length<=6:=by
  apply Classical.byContradiction;intro aj
  have:=Kt (i:=6) AY (V 6 AY)
  omega
 have aC:wQ m:=⟨AY,AY,AY,λbA aD=>by
  obtain⟨a,u,rfl⟩:=List.mem_iff_getElem.1 aD
  have:=U8 (Dm u (V a u)).2.1
  omega⟩
 have v:=Va V;have g:o.check m=if (nw m).bK≠0 then nw m else qP m:=by rw[o.check,if_neg (by simpa using ak)]
 clear f;refine ad ?_;refine J_ (awT _ m O (x.ext z) aC) ?_;rintro _ Q ⟨rfl,l⟩;replace c:=l.obj c;replace d:=l.obj d;have W:=z.trans l;refine ad ?_;apply I_<;>intro G
 .rw[if_pos (.inl AY)] at v;rw[v,if_pos (show(11:Int)≠0 by decide)] at g;refine ad ?_;intro H A S;refine ad ?_;exact⟨by rw[g];rfl,A.ext W AY⟩
 refine ad ?_;apply I_<;>intro bB
 .rw[if_pos (.inr AY)] at v;rw[v,if_pos (show(11:Int)≠0 by decide)] at g;refine ad ?_;intro H A S;refine ad ?_;exact⟨by rw[g];rfl,A.ext W AY⟩
 rw[if_neg AY] at v;rw[v,if_neg (by simp[vE])] at g;have aE:=c;have aF:=d;refine ad ?_;refine K_ 8 m.props.length [1,2] (λ_:Unit=>[]) () (λe _ j=>Ext Q j/\∀a,a<e->ow m a=0) aW aW ⟨Ext.refl _,λa h=>absurd h (Od _)⟩ ?_;clear c d;rintro e _ bC H ar ⟨I,J⟩;have c:=I.obj aE;have d:=I.obj aF;have X:=W.trans I;refine ad ?_;apply I_<;>intro bD
 .have n:e<m.props.length:=AY
  have aG:e<=8:=by
   apply Classical.byContradiction;intro aj
   have:=anc (m:=m) (i:=8) AY (J 8 AY)
   omega
  refine ad ?_;refine J_ (awV _ m e H (x.ext X) Y n aG az aB) ?_;rintro _ aH ⟨rfl,K⟩;replace c:=K.obj c;replace d:=K.obj d;refine ad ?_;apply I_<;>intro al;rotate_left
  .rw[agO n J al] at g;refine ad ?_;intro bE aI bG;refine ad ?_;exact⟨by rw[g];rfl,aI.ext (X.trans K) AY⟩
  .refine ad ?_;refine⟨n,aV,(),trivial,I.trans K,λa u=>?_⟩;by_cases U:a=e
   .subst U;simpa using al
   .exact J a AY
 .rw[Vb λa u=>J a AY] at g;refine ad ?_;intro aH aJ bH;refine ad ?_;exact⟨by rw[g];rfl,aJ.ext X AY⟩
end Go.Proofs.R
namespace ba
open Go Go.RowKit
def wD(l:C_ ByteArray):C_ (ByteArray×B_):=l.map λa=>(a,.bool true)
theorem axS(l:C_ ByteArray)(x:ByteArray):((wD l).find? (λb=>decide (x=b.1))).map (·.2)=if x∈l then some (.bool true) else none:=by
 induction l with
 | nil=>rfl
 | cons c l d =>
  simp only[wD,List.map_cons,List.find?_cons,List.mem_cons];by_cases a:x=c
  .simp[a]
  .simp only[a,decide_false,false_or];exact d
structure CR(es:Array MapEntry)(c:Nat)(L:List ByteArray):Prop where
 T7:∃l,mK Value.string es.toList (wD l)/\∀x,x∈l↔x∈L
 born:∀e∈es.toList,e.born<c
 nodup:(es.toList.map (·.born)).Nodup
theorem mK.mem{l:C_ ByteArray}:∀{es:C_ MapEntry},mK Value.string es (wD l)->∀c∈es,∃d∈l,c.key = .string d/\c.val = .bool true:=by
 induction l with
 | nil=>intro es a c b;cases es with | nil=>cases b | cons _ _=>simp[mK,wD] at a
 | cons e l f =>
  intro es a c b;cases es with
  | nil=>cases b
  | cons i es =>
   simp only[mK,wD,List.map_cons,List.cons.injEq,Prod.mk.injEq] at a;rcases List.mem_cons.1 b with rfl | b
   .exact⟨e,Ah,a.1.1,a.1.2⟩
   .obtain⟨d,g,h⟩:=f (es:=es) a.2 c b;exact⟨d,by simp[g],h⟩
theorem mK.UX{l:C_ ByteArray}:∀{es:C_ MapEntry},mK Value.string es (wD l)->∀c∈l,∃d∈es,d.key = .string c:=by
 induction l with
 | nil=>intro es a c b;cases b
 | cons h l e =>
  intro es a c b;cases es with
  | nil=>simp[mK,wD] at a
  | cons f es =>
   simp only[mK,wD,List.map_cons,List.cons.injEq,Prod.mk.injEq] at a;rcases List.mem_cons.1 b with rfl | b
   .exact⟨f,Ah,a.1.1⟩
   .obtain⟨d,he,g⟩:=e (es:=es) a.2 c b;exact⟨d,by simp[he],g⟩
def CR.mem{es:Array MapEntry}{c:Nat}{d:C_ ByteArray}(h:CR es c d):∀a∈es.toList,∃b∈d,a.key = .string b/\a.val = .bool true:=λa e=>by
 obtain⟨k,f,g⟩:=h.T7;obtain⟨b,i,j⟩:=f.mem a e;exact⟨b,(g b).1 i,j⟩
def CR.UX{es:Array MapEntry}{c:Nat}{b:C_ ByteArray}(h:CR es c b):∀a∈b,∃d∈es.toList,d.key = .string a:=λa e=>by
 obtain⟨i,f,g⟩:=h.T7;exact f.UX a ((g a).2 e)
theorem abD{d:TypeDesc}{k:B_}:∀{f:C_ MapEntry} {b c:Nat} {g:B_},Instr.findNow d k f b=some (some (c,g))->b<=c/\∃e,f[c - b]? = some e/\Instr.sameNow d k e.key=some true
 | [],b,c,g,a=>by simp[Instr.findNow] at a
 | e :: f,b,c,g,a=>by
  unfold Instr.findNow at a;split at a
  .rename_i j;injection a with a;injection a with a;injection a with h i
   subst h;exact⟨EM _,e,Ah,j⟩
  .obtain⟨h,l,i,m⟩:=abD a;refine⟨AY,l,?_,m⟩;rw[show c - b=(c - (b+1))+1 from AY,List.getElem?_cons_succ];exact i
  .cases a
def aue{es:Array MapEntry}{j:Nat}{e:MapEntry}{f:MapEntry->MapEntry}(b:es[j]? = some e)(c:f e=e):es.modify j f=es:=by
 apply Array.ext_getElem?;intro d;rw[Array.getElem?_modify];by_cases a:j=d
 .subst a;rw[if_pos rfl,b,AI5,c]
 .rw[if_neg a]
def gp(w:A_)(b:Nat)(d:C_ ByteArray):Prop := ∃a c,w.heap[b]? = some (.map a c)/\CR a c d
theorem gp.of{w w':A_}{b:Nat}{a:C_ ByteArray}(h:gp w b a)(e:w'.heap[b]? = w.heap[b]?):gp w' b a:=let ⟨es,c,d,f⟩:=h; ⟨es,c,e.trans d,f⟩
def gp.lt{w:A_}{b:Nat}{a:C_ ByteArray}(h:gp w b a):b<w.heap.size:=let ⟨_,_,c,_⟩:=h;cf c
theorem gp.ext{w w':A_}{b:Nat}{a:C_ ByteArray}(h:gp w b a)(e:Ext w w'):gp w' b a:=h.of (e.heap h.lt)
def gp.wr{w w':A_}{b k:Nat}{a:C_ ByteArray}(h:gp w b a)(e:dX k w w')(c:b≠k):gp w' b a:=h.of (e.block b c)
def gp.jW{w:A_}{b:Nat}{c d:C_ ByteArray}(h:gp w b c)(e:∀a,a∈c↔a∈d):gp w b d:=by
 obtain⟨f,g,i,⟨⟨j,k,l⟩,m,n⟩⟩:=h;exact⟨f,g,i,⟨⟨j,k,λa=>(l a).trans (e a)⟩,m,n⟩⟩
def gp.empty{w:A_}{b:Nat}(h:w.heap[b]? = some (.map #[] 0)):gp w b []:=⟨_,_,h,⟨⟨[],rfl,λ_=>Iff.rfl⟩,λc a=>by simp at a,Ah⟩⟩
def gp.look{w:A_}{b:Nat}{f:C_ ByteArray}(h:gp w b f)(x:ByteArray):∃a d,tN w (.map (some b)) a/\Instr.findNow .string (.string x) a.toList 0=some d/\pt (.bool false) false d = .bool (decide (x∈f)):=by
 obtain⟨a,i,j,⟨⟨m,k,g⟩,_,_⟩⟩:=h;obtain⟨d,l,c⟩:=Gb OQ x a.toList _ 0 k;rw[axS] at c;refine⟨a,d,.inr ⟨b,i,rfl,j⟩,l,?_⟩;by_cases e:x∈f
 .rw[if_pos ((g x).2 e)] at c;simp[pt,c,e]
 .rw[if_neg (λh=>e ((g x).1 h))] at c;simp[pt,c,e]
theorem gp.put{w:A_}{b:Nat}{l:C_ ByteArray}(h:gp w b l)(x:ByteArray):∃a c m,w.heap[b]? = some (.map a c)/\Instr.findNow .string (.string x) a.toList 0=some m /\
  ∀g:A_,g.heap[b]? = some (uW a c (.string x) (.bool true) m)->gp g b (l++[x]):=by
 obtain⟨a,c,y,f⟩:=h;obtain⟨n,i,p⟩:=f.T7;obtain⟨q,r,L⟩:=Gb OQ x a.toList _ 0 i;refine⟨a,c,q,y,r,λg s=>?_⟩;cases q with
 | none =>
  refine⟨_,_,s,⟨⟨n++[x],?_,λj=>?_⟩,?_,?_⟩⟩
  .have:=mK.push i x (.bool true) c
   simpa[wD] using this
  .simp[p j]
  .intro d e;simp only[Array.toList_push,List.mem_append,List.mem_singleton] at e;rcases e with e | rfl
   .have:=f.born d e;omega
   .show c<c+1;omega
  .simp only[Array.toList_push,List.map_append,List.map_cons,List.map_nil];rw[List.nodup_append];refine⟨f.nodup,Ah,λM z N A=>?_⟩;obtain⟨d,e,rfl⟩:=List.mem_map.1 z;simp only[List.mem_singleton] at A
   have:=f.born d e
   omega
 | some B =>
  obtain⟨t,O⟩:=B;obtain⟨_,d,e,u⟩:=abD r;have C:d∈a.toList:=List.mem_of_getElem? e;obtain⟨j,G,k,v⟩:=f.mem d C;have H:x=j:=by rw[k,OQ] at u;simpa using u
  subst H;have I:a.modify t (λd=>{ d with key:=.string x,val:=.bool true })=a:=aue (e:=d) (by simpa using e) (by cases d;simp only at k v;subst k v;rfl);have J:g.heap[b]? = some (.map a c):=by rw[s];show some (Obj.map (a.modify t _) c)=_;rw[I]
  exact⟨a,c,J,⟨⟨n,i,λK=>by rw[p K];simp;rintro rfl;exact G⟩,f.born,f.nodup⟩⟩
def oS(w:A_)(r b:Nat)(h D:C_ ByteArray)(n:Nat)(cur:H_ ByteArray):Prop :=
 ∃d e f seen g,w.heap[b]? = some (.map d e)/\CR d e h/\w.heap[r]? = some (.mapIter (some b) f seen g)/\(∀a∈d.toList,a.born<f)/\f<=g/\f<=e/\(leftOf d seen).size=n /\
  (∀c∈d.toList,seen.contains c.born=true->∃a∈D,c.key = .string a)/\(∀a∈D,a∈h)/\(∀a,cur=some a->∃(i:Array Nat) (c:MapEntry),g=e/\seen=i.push c.born/\c∈d.toList/\c.key = .string a/\c.val = .bool true)
theorem oS.of{w w':A_}{r b:Nat}{a D:C_ ByteArray}{n:Nat}{cur:H_ ByteArray}(h:oS w r b a D n cur)(c:w'.heap[b]? = w.heap[b]?)(d:w'.heap[r]? = w.heap[r]?):oS w' r b a D n cur :=
 let ⟨es,e,since,seen,f,g,i,j,k⟩:=h; ⟨es,e,since,seen,f,c.trans g,i,d.trans j,k⟩
def oS.sub{w:A_}{r b:Nat}{a D:C_ ByteArray}{n:Nat}{cur:H_ ByteArray}(h:oS w r b a D n cur):∀c∈D,c∈a:=let ⟨_,_,_,_,_,_,_,_,_,_,_,_,_,d,_⟩:=h;d
def oS.ne{w:A_}{r b:Nat}{c D:C_ ByteArray}{n:Nat}{cur:H_ ByteArray}(h:oS w r b c D n cur):r≠b:=by
 obtain⟨f,g,i,seen,j,d,k,a,l⟩:=h;intro e;rw[e,d] at a;cases a
def oS.lt{w:A_}{r b:Nat}{a D:C_ ByteArray}{n:Nat}{cur:H_ ByteArray}(h:oS w r b a D n cur):r<w.heap.size:=by
 obtain⟨d,e,f,seen,g,i,j,c,k⟩:=h;exact cf c
def oS.wr{w w':A_}{r b k:Nat}{a D:C_ ByteArray}{n:Nat}{cur:H_ ByteArray}(h:oS w r b a D n cur)(e:dX k w w')(c:b≠k)(d:r≠k):oS w' r b a D n cur:=h.of (e.block b c) (e.block r d)
def azr(k:Nat)(w:A_):dX k w w.drew:=⟨rfl,rfl,rfl,rfl,λ_ _=>rfl⟩
section
variable{P:Program}{cK:Value->World->Prop}{S:Fr}{w:World}{iu:World->Prop}{bb:Value->Prop}
def AA4{b:Nat}{a:C_ ByteArray}{x:ByteArray}{t}(h:gp w b a)(c:bb (.bool (decide (x∈a)))):Jj .string (.bool false) false (.map (some b)) (.string x) w bb t:=by
 obtain⟨g,i,d,e,f⟩:=h.look x;exact _t d e (by rw[f];exact c)
def _z{b:Nat}{c:C_ ByteArray}{x:ByteArray}{t}(h:gp w b c)(e:∀a,dX b w a->gp a b (c++[x])->iu a):Fk .string (.map (some b)) (.string x) (.bool true) w iu t:=by
 obtain⟨i,j,k,d,f,g⟩:=h.put x;exact _1 d f (e _ (dX.fZ w b _) (g _ (Iy (cf d))))
def AC1{b:Nat}{i:C_ ByteArray}{x:G_}{d k e n:F_}{t}(c:br S x = .map (some b))(p:P.underlying d=some (.map k e))(h:gp w b i)
  (q:∀f g r,w.heap.size<=g->Ext w f->oS f g b i [] r none->cK (.pointer (some ⟨g,0,none⟩)) f):wX P (.range d x) n S w cK t:=by
 obtain⟨j,a,l,m⟩:=h;have s:=run_range_map (P:=P) w d k e b j a p l;refine _V (v:=.pointer (some ⟨w.heap.size,0,none⟩)) (w':=w.alloc (.mapIter (some b) a #[] a)) (by simp[execOp,c,s,Result.andThen]) ?_;refine q _ _ _ (EM _) ((Ext.refl w).alloc _) ⟨j,a,a,#[],a,heap_alloc_old l,m,heap_alloc_new w _,m.born,EM _,EM _,rfl,?_,?_,?_⟩
 .intro e _ h;simp at h
 .intro x c;cases c
 .intro x c;cases c
def AC2{r b n:Nat}{p D:C_ ByteArray}{cur:H_ ByteArray}{x:G_}{B:F_}{t}(C:br S x = .pointer (some ⟨r,0,none⟩))(h:oS w r b p D n cur)
  (U:(∀d∈p,d∈D)->cK (.tuple #[.bool false]) w)
  (V:∀d e G,d∈p->G<n->dX r w e->oS e r b p (D++[d]) G (some d)->cK (.tuple #[.bool true,.string d,.bool true]) e):wX P (.next x false) B S w cK t:=by
 have W:=h.ne;obtain⟨f,g,j,seen,X,H,k,I,J,Y,K,Z,L,ab,_⟩:=h;rcases run_next_at (P:=P) w B r b j X seen f g I H J Y with ⟨c,q⟩ | ⟨a,l,e,M,q⟩
 .refine _V (v:=.tuple #[.bool false]) (w':=w) (by simp[execOp,C,q,Result.andThen]) (U λd s=>?_);obtain⟨a,l,m⟩:=k.UX d s;obtain⟨z,ae,u⟩:=L a l (all_seen f seen c a l);rw[m] at u;injection u with u
  rw[u];exact ae
 .obtain⟨A,al⟩:=mem_left l;obtain⟨d,s,m,N⟩:=k.mem a A;have O:dX r w e:=by
   rcases M with rfl | rfl
   .exact dX.refl _ _
   .exact azr r w
  have af:e.heap.size=w.heap.size:=O.size;have ag:r<e.heap.size:=by rw[af];exact cf I
  have ah:Go.ChangeMaps.setBlock e r (.mapIter (some b) j (seen.push a.born) g)=ba.fZ e r (.mapIter (some b) j (seen.push a.born) g):=rfl;rw[ah] at q;refine _V (v:=.tuple #[.bool true,a.key,a.val]) (w':=fZ e r (.mapIter (some b) j (seen.push a.born) g)) (by simp[execOp,C,q,Result.andThen]) ?_;rw[m,N];refine V d _ _ s (Nat.lt_of_lt_of_eq (left_shrinks f seen a l) Z) (O.trans (dX.fZ _ _ _)) ⟨f,g,j,seen.push a.born,g,?_,k,Iy ag,J,K,K,rfl,λv Q i=>?_,λz c=>?_,λz c=>?_⟩
  .rw[VN (Ne.symm W)];rcases M with rfl | rfl<;>exact H
  .rw[contains_push] at i;rcases Bool.or_eq_true_iff.1 i with i | i
   .obtain⟨x,ai,aj⟩:=L v Q i;exact⟨x,by simp[ai],aj⟩
   .have ak:v.born=a.born:=by simpa using i
    have y:=find_born v f.toList k.nodup Q;rw[ak,find_born a f.toList k.nodup A] at y;injection y with y
    have:v=a:=y.symm
    subst this;exact⟨d,Ah,m⟩
  .rcases List.mem_append.1 c with c | c
   .exact ab z c
   .simp only[List.mem_singleton] at c;subst c;exact s
  .injection c with c
   subst c;exact⟨seen,a,rfl,rfl,A,m,N⟩
def AC3{r b n:Nat}{c D:C_ ByteArray}{y:ByteArray}{x:G_}{d:F_}{t}(e:br S x = .pointer (some ⟨r,0,none⟩))(h:oS w r b c D n (some y))
  (f:cK (.tuple #[.string y,.bool true]) w):wX P (.entry x) d S w cK t:=by
 obtain⟨g,A,i,seen,j,k,l,m,B,C,G,H,I,J,p⟩:=h;obtain⟨q,a,rfl,rfl,s,u,v⟩:=p y rfl;have z:(Instr.entry (.pointer (some ⟨r,0,none⟩))).run P w = .ok (.tuple #[a.key,a.val]) w:=run_entry_at w r b i q g j a m k s l.nodup;refine _V (v:=.tuple #[a.key,a.val]) (w':=w) (by simp[execOp,e,z,Result.andThen]) ?_;rw[u,v];exact f
end
end ba
namespace Go.Proofs.R
open Go Go.RowKit ba
def yy(f:o.tK):C_ PanicEntry:=[{ v:=.iface T.j4 (.agg #[.int .i64 f.bK,.int .i64 f.part,.int .i64 f.item,.int .i64 f.sub]),recovered:=false }]
def sG(e p i s:Int)(w:A_):rX Tryz.prog F.a #[.I e,.I p,.I i,.I s] w (λ_ a=>e=0/\a=w) (λc a=>e≠0/\c=yy ⟨e,p,i,s⟩/\a=w):=by
 refine _q kv E.a CZ (args:=[_,_,_,_]) (Nat.le_of_ble_eq_true rfl) ?_;dsimp only[C.a];refine om ?_;refine ad ?_;refine I_ (λb=>?_) (λb=>?_)
 .refine ad ?_;exact⟨b,aV⟩
 .refine ad ?_;exact⟨b,aV,aV⟩
def O7(b:Nat)(a:C_ ByteArray)(x:ByteArray)(p i:Int)(w:A_)(h:gp w b a):rX Tryz.prog F.g #[.map (some b),.string x,.I p,.I i] w
  (λ_ c => ¬x∈a/\dX b w c/\gp c b (a++[x])) (λe c=>x∈a/\e=yy ⟨7,p,i,0⟩/\c=w):=by
 refine _q kv E.g CZ (args:=[_,_,_,_]) (Nat.le_of_ble_eq_true rfl) ?_;dsimp only[C.g];refine om ?_;refine ad ?_;refine AA4 h ?_;refine ad ?_;refine I_ (λd=>?_) (λd=>?_)
 .refine ad ?_;refine U_ (sG 7 p i 0 w) ?_ ?_
  .rintro _ _ ⟨f,_⟩;exact absurd f Ae
  .rintro e _ ⟨_,rfl,rfl⟩;refine ad ?_;exact⟨d,aV,aV⟩
 .refine ad ?_;refine _z h λk g j=>?_;refine ad ?_;exact⟨d,g,j⟩
end Go.Proofs.R
namespace Go.Proofs.R
open Go Go.RowKit ba o
structure kX(w0 w:World)(b8 bk:Nat)(cs:List Value)(w':World)(L:List ByteArray):Prop where
 ext:Ext w0 w'
 mod:Mod (λk=>k=b8) w w'
 box:w'.heap[bk]? = some (.cells cs.toArray T.e)
 set:gp w' b8 L
 low:w0.heap.size<=b8
 ne:bk≠b8
section
variable{w0 w w' bw:World}{b8 bk:Nat}{cs:List Value}{L Ax:List ByteArray}
theorem kX.then(h:kX w0 w b8 bk cs w' L)(a:Ext w' bw):kX w0 w b8 bk cs bw L:=⟨h.ext.trans a,h.mod.trans a.mod,a.obj h.box,h.set.ext a,h.low,h.ne⟩
def kX.wr(h:kX w0 w b8 bk cs w' L)(a:dX b8 w' bw)(b:gp bw b8 Ax):kX w0 w b8 bk cs bw Ax:=⟨a.ext h.ext h.low,h.mod.trans (a.mod rfl),a.obj h.box h.ne,b,h.low,h.ne⟩
def kX.jW(h:kX w0 w b8 bk cs w' L)(e:L=Ax):kX w0 w b8 bk cs w' Ax:=e ▸ h
end
def aon{w0:A_}(cs:C_ B_)(m:o.Model)(i:Nat)(w:A_)(h:dU w0 cs m)(au:Ext w0 w)(av:w0.heap.size<=i)(N:gi w0)(O:gp w i []) :
  rX Tryz.prog F.kZ #[.agg cs.toArray,.map (some i)] w (λ_ d=>(o.data m).bK=0/\Ext w0 d/\Mod (λa=>a=i) w d/\gp d i (oK m m.aA.length))
   (λu d=>(o.data m).bK≠0/\u=yy (o.data m)/\Ext w0 d/\Mod (λa=>a=i) w d):=by
 obtain⟨aL,aP,aQ,bg,aR,bj,aS,aU,aX,aY,rfl,I,af,ag,aZ,a0,a1,a3,a5,a7,a8⟩:=h.form;refine _q kv E.kZ CZ (args:=[_,_]) (Nat.le_of_ble_eq_true rfl) ?_;dsimp only[C.kZ];refine om ?_;refine ad ?_;intro ah J a9 P e;have q:kX w0 w i J _ ah []:=⟨au.trans P,P.mod,e,O.ext P,av,by have:=O.lt;omega⟩;clear O;refine ad ?_;refine J_ (axQ _ m.scalars ah (N.ext q.ext) (I.ext q.ext)) ?_;rintro _ aw ⟨rfl,ai⟩;replace q:=q.then ai;clear e;refine ad ?_;refine U_ (sG (o.scalars m.scalars).2 1 (o.scalars m.scalars).1 0 aw) ?_ ?_;rotate_left
 .rintro u _ ⟨aj,rfl,rfl⟩;refine ad ?_;rw[aaV aj];exact⟨aj,rfl,q.ext,q.mod⟩
 rintro _ _ ⟨z,rfl⟩;have e:=q.box;refine ad ?_;refine K_ 24 m.scalars.length [1,2,22,23] (λ_:Unit=>[]) () (λa _ d=>kX w0 w i J _ d ((m.scalars.take a).map (·.name))) aW aW (q.jW Ah) ?_;clear e ai q;rintro a _ bb ax ak n;have e:=n.box;have K:=n.ext;refine ad ?_;apply I_<;>intro al
 .have c:a<m.scalars.length:=AY
  obtain⟨an,rfl⟩:=I.addr;refine ad ?_;intro ay bf bk L bl;have ao:=n.then L;refine ad ?_;refine _z ao.set λaq az aB=>?_;refine ad ?_;exact⟨c,aV,(),trivial,(ao.wr az aB).jW (EU _ _ c).symm⟩
 replace n:=n.jW (show _=tz m 0 by rw[IA AY];simp);refine ad ?_;refine J_ (ai3 _ _ m.vars m.scalars 12 ax (N.ext K) (af.ext K) (I.ext K)) ?_;rintro _ ay ⟨rfl,L⟩;replace n:=n.then L;clear e K;have e:=n.box;rw[ay4];refine ad ?_;refine K_ 43 m.vars.length [1,2,4,5,41,42] (λ_:Unit=>[]) () (λa _ d=>kX w0 w i J _ d (tz m a)/\∀b,b<a->kt m b=0) aW aW ⟨n,λb h=>absurd h (Od _)⟩ ?_;clear e n L;rintro a _ aC aq ak ⟨p,j⟩;have e:=p.box;have M:=p.ext;refine ad ?_;apply I_<;>intro al
 .have c:a<m.vars.length:=AY
  obtain⟨an,rfl⟩:=af.addr;have A:=Er (f:=λr:o.Var=>r.name) c;refine ad ?_;intro aD aE Q B S;refine eA ?_;intro v U aF;have x:=U.ext B Q;have f:=p.then x;replace e:=f.box;clear S B;refine eA ?_;refine R_ [1,2,4,5,8,9,41,42,43] (λ_:Unit=>[]) (λ_ d=>d=v/\pB m a=0) ?_ ?_
  .refine ad ?_;apply I_<;>intro V
   .refine ad ?_;refine U_ (sG (o.first m.vars.length (pB m)).2 2 a 0 v) ?_ ?_
    .rintro _ _ ⟨g,rfl⟩;refine ad ?_;exact⟨(),trivial,aV,vF g a c⟩
    .rintro u _ ⟨g,rfl,rfl⟩;obtain⟨W,aG,aH,G⟩:=abF g;obtain rfl:a=W:=AY
     rw[G] at g;have k:kt m a=pB m a:=by unfold kt;rw[if_pos g]
     have l:=J9 z c j (by rw[k];exact g);rw[k] at l;refine ad ?_;rw[l,G];exact⟨g,aV,f.ext,f.mod⟩
   .refine ad ?_;refine⟨(),trivial,aV,?_⟩;apply Classical.byContradiction;intro X;apply V;rw[j9 c (λb s=>Pl (j b s)) X]
  rintro _ aI _ ⟨rfl,H⟩;refine ad ?_;refine U_ (O7 i (tz m a) m.vars[a].name 2 a _ f.set) ?_ ?_
  .rintro _ ar ⟨t,Y,Z⟩;refine ad ?_;refine⟨c,aV,(),trivial,(f.wr Y Z).jW (by simp only[tz,B5];rw[EU (λr:o.Var=>r.name) _ c,Vh]),λb s=>?_⟩;by_cases ab:b=a
   .subst ab;unfold kt;rw[if_neg (by simpa using H),A,if_neg t]
   .exact j b AY
  .rintro u _ ⟨t,rfl,rfl⟩;have k:kt m a=7:=by unfold kt;rw[if_neg (by simpa using H),A,if_pos t]
   have l:=J9 z c j (by rw[k];decide);rw[k] at l;refine ad ?_;rw[l];exact⟨(show(7:Int)≠0 by decide),aV,f.ext,f.mod⟩
 have aJ:m.vars.length<=a:=AY
 have ae:∀b,b<m.vars.length->kt m b=0:=λb s=>j b AY;replace p:=p.jW (show _=oK m 0 by simp only[oK,tz,B5,B4];rw[IA aJ];simp);refine ad ?_;refine J_ (alU _ _ m.aA m.scalars aq (N.ext M) (ag.ext M) (I.ext M)) ?_;rintro _ v ⟨rfl,x⟩;replace p:=p.then x;clear e M;have e:=p.box;rw[alT];refine ad ?_;refine K_ 71 m.aA.length [1,2,4,5,69,70] (λ_:Unit=>[]) () (λa _ d=>kX w0 w i J _ d (oK m a)/\∀b,b<a->lq m b=0) aW aW ⟨p,λb h=>absurd h (Od _)⟩ ?_;clear e p x;rintro a _ aC ar ak ⟨y,j⟩;have e:=y.box;have bo:=y.ext;refine ad ?_;apply I_<;>intro al
 .have c:a<m.aA.length:=AY
  obtain⟨an,rfl⟩:=ag.addr;have A:=Er (f:=λr:eb=>r.name) c;refine ad ?_;intro aD aE Q B S;refine eA ?_;intro v U aF;have x:=U.ext B Q;have f:=y.then x;replace e:=f.box;clear S B;refine eA ?_;refine R_ [1,2,4,5,10,11,69,70,71] (λ_:Unit=>[]) (λ_ d=>d=v/\o1 m a=0) ?_ ?_
  .refine ad ?_;apply I_<;>intro V
   .refine ad ?_;refine U_ (sG (o.first m.aA.length (o1 m)).2 3 a 0 v) ?_ ?_
    .rintro _ _ ⟨g,rfl⟩;refine ad ?_;exact⟨(),trivial,aV,vF g a c⟩
    .rintro u _ ⟨g,rfl,rfl⟩;obtain⟨W,aG,aH,G⟩:=abF g;obtain rfl:a=W:=AY
     rw[G] at g;have k:lq m a=o1 m a:=by unfold lq;rw[if_pos g]
     have l:=J8 z ae c j (by rw[k];exact g);rw[k] at l;refine ad ?_;rw[l,G];exact⟨g,aV,f.ext,f.mod⟩
   .refine ad ?_;refine⟨(),trivial,aV,?_⟩;apply Classical.byContradiction;intro X;apply V;rw[j9 c (λb s=>JY (j b s)) X]
  rintro _ aI _ ⟨rfl,H⟩;refine ad ?_;refine U_ (O7 i (oK m a) m.aA[a].name 3 a _ f.set) ?_ ?_
  .rintro _ ar ⟨t,Y,Z⟩;refine ad ?_;refine⟨c,aV,(),trivial,(f.wr Y Z).jW (by simp only[oK,B4];rw[EU (λr:eb=>r.name) _ c,Vh]),λb s=>?_⟩;by_cases ab:b=a
   .subst ab;unfold lq;rw[if_neg (by simpa using H),A,if_neg t]
   .exact j b AY
  .rintro u _ ⟨t,rfl,rfl⟩;have k:lq m a=7:=by unfold lq;rw[if_neg (by simpa using H),A,if_pos t]
   have l:=J8 z ae c j (by rw[k];decide);rw[k] at l;refine ad ?_;rw[l];exact⟨(show(7:Int)≠0 by decide),aV,f.ext,f.mod⟩
 have aK:m.aA.length<=a:=AY
 refine ad ?_;refine⟨by rw[aaU z ae λb s=>j b AY];rfl,y.ext,y.mod,(y.jW ?_).set⟩;simp only[oK,B4];rw[IA aK,IA (EM _)]
end Go.Proofs.R