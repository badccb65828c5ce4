/- Parts. -/
import Derived.Test.YtlhljkikdhblbaaGreatDoorQsgi
import Derived.Maps.RangeRun
set_option linter.all false
set_option maxRecDepth 8000
set_option maxHeartbeats 16000000
namespace Go.Proofs.R
open Go Go.RowKit a8
def Vp(n:Int)(cs:C_ B_)(s:o.Scope)(w:A_)(h:o.gn w cs s) :
  EG F.MP #[.I n,.agg cs.toArray] w λa b=>a = .bool (o.h9 n s).2/\Ext w b:=by
 obtain⟨c,d,e,bg,f,bj,g,i,j,k,rfl,l,m,p,q,r,t,u,v,x,y⟩:=h.form;refine bm E.MP ?_;refine aN ?_;refine O_ λz A B C G=>?_
 (repeat' (refine aN ?_;first | (refine I_ (λ_=>?_) (λ_=>?_)<;>try (exfalso;omega)) | refine N_ (λ_=>?_) (λ_=>?_)))<;>try refine aN ?_
 all_goals
  refine⟨?_,fU⟩;congr 1;unfold o.h9
  (repeat' split)<;>first | rfl | (exfalso;omega) | (simp;omega)
def kindOf(n:Int):Int:=if n=0 then 0 else 1+n
def Mc(n:Int)(w:A_)(h:0<=n/\n<=4611686018427387904):EG F.HH #[.I n] w λa b=>a = .I (kindOf n)/\b=w:=by
 refine bm E.HH ?_
 (repeat' (refine aN ?_;first | (refine I_ (λ_=>?_) (λ_=>?_)<;>try (exfalso;omega)) | refine N_ (λ_=>?_) (λ_=>?_)))<;>try refine aN ?_
 all_goals
  refine⟨?_,aZ⟩;congr 1;unfold kindOf;split<;>first | rfl | (exfalso;omega)
def aeQ{n:Int}{s:o.Scope}(h:(o.h9 n s).2=true):0<=n/\n<=s.scalars.length/\(o.h9 n s).1=kindOf n:=by
 unfold o.h9 kindOf at *
 (repeat' split at h) <;> (repeat' split)<;>first | (cases h;done) | (refine⟨AW,AW,?_⟩;first | rfl | omega) | (exfalso;omega)
def Ih(v:B_)(l:C_ o.Var)(n:Int)(cs:C_ B_)(s:o.Scope)(w:A_)(p:o.jO w v l)(h:o.gn w cs s) :
  EG F.MJ #[v,.I n,.agg cs.toArray] w λv c =>
   (∃q:o.Var,v = .tuple #[.agg q.enc.toArray,.bool (o.fQ l n s).2.2]/\((o.fQ l n s).2.2=true->o.nth l n=some q))/\Ext w c:=by
 obtain⟨G,H,I,bg,J,bj,K,L,M,N,rfl,_⟩:=h.form;obtain⟨O,P,rfl,Q⟩:=p.form;refine bm E.MJ ?_;refine aN ?_;refine O_ λS U V g z=>?_;refine aN ?_;refine O_ λW X Y r t=>?_;have e:=g.trans r;have u:=r.obj z;refine aN ?_;refine I_ (λx=>have b:(o.fQ l n s).2.2=false:=(by rw[o.fQ,o.hz (.inl x)]); ?_) (λx=>?_);rotate_left;refine aN ?_;refine I_ (λA=>have b:(o.fQ l n s).2.2=false:=(by rw[o.fQ,o.hz (.inr AW)]); ?_) (λA=>?_);rotate_left;obtain⟨a,rfl⟩:=T7 (show 0<=n by omega);have Z:a<l.length:=AW
 have f:o.nth l (a:Int)=some l[a]:=by rw[o.ir AW AW];simp only[Int.toNat_natCast]
 obtain⟨ab,rfl⟩:=p.addr;refine aN ?_;refine R_ (c:=[_,_,_,_,_,_]) u (Ext.refl _) rfl ?_;refine aN ?_;refine P_ _ (λc i=>Vp _ _ s c (h.ext (e.trans i))) ?_;refine aN ?_;refine N_ (λj=>?_) (λj=>have b:(o.fQ l a s).2.2=false:=(by rw[o.fQ,f];simp only[j,Bool.false_and]); ?_);refine aN ?_;refine R_ (c:=[_,_,_,_,_,_]) u (Ext.refl _) rfl ?_;refine aN ?_;refine P_ _ (λc i=>Vp _ _ s c (h.ext (e.trans i))) ?_;refine aN ?_;cases y:(o.h9 l[a].over s).2
 case' false=>have b:(o.fQ l a s).2.2=false:=by rw[o.fQ,f];simp only[y,Bool.and_false]
 case true =>
  have b:(o.fQ l a s).2.2=true:=by rw[o.fQ,f];simp only[j,y,Bool.and_true]
  refine aN ?_;intro B d;refine aN ?_;refine X_ (cs:=l[a].enc.toArray) (d.obj t) rfl rfl (by simp[o.Var.enc,Value.oneCell']) λC k m=>?_;refine aN ?_;refine R_ (c:=o.Var.enc _) m (Ext.refl _) rfl ?_;refine aN ?_;exact⟨⟨_,by rw[b],λ_=>f⟩,k.ext (e.trans d) (by have:=g.size;omega)⟩
 all_goals
  refine aN ?_;intro B d;refine aN ?_;refine V_ (cs:=(⟨⟨#[]⟩,0,0,0,0,0⟩:o.Var).enc) (by simp[gu,o.Var.enc]) ?_;refine aN ?_;refine X_ (cs:=(⟨⟨#[]⟩,0,0,0,0,0⟩:o.Var).enc.toArray) (d.obj t) rfl rfl (by simp[o.Var.enc,Value.oneCell']) λC k m=>?_;refine aN ?_;refine R_ (c:=o.Var.enc _) m (Ext.refl _) rfl ?_;refine aN ?_;exact⟨⟨_,by rw[b],by rw[b];intro h;cases h⟩,k.ext (e.trans d) (by have:=g.size;omega)⟩
def agy(n:Int)(cs:C_ B_)(s:o.Scope)(w:A_)(h:o.gn w cs s) :
  EG F.ME #[.I n,.agg cs.toArray] w λr d =>
   (∃k:o.ed,r = .tuple #[.agg k.enc.toArray,.bool (decide ((o.kT n s).2=0))]/\((o.kT n s).2=0->o.nth s.ay n=some k))/\Ext w d:=by
 obtain⟨B,C,G,bg,H,bj,I,J,K,L,rfl,M,N,t,O,P,Q,S,U,V,W⟩:=h.form;refine bm E.ME ?_;refine aN ?_;refine O_ λX Y Z e u=>?_;refine aN ?_;refine O_ λab ae af l m=>?_;have f:=e.trans l;have v:=l.obj u;refine aN ?_;refine I_ (λp=>have b:(o.kT n s).2=8:=(by rw[o.kT,o.hz (.inl p)]); ?_) (λp=>?_);rotate_left;refine aN ?_;refine I_ (λx=>have b:(o.kT n s).2=8:=(by rw[o.kT,o.hz (.inr AW)]); ?_) (λx=>?_);rotate_left;obtain⟨a,rfl⟩:=T7 (show 0<=n by omega);have ag:a<s.ay.length:=AW
 have g:o.nth s.ay (a:Int)=some s.ay[a]:=by rw[o.ir AW AW];simp only[Int.toNat_natCast]
 obtain⟨ah,rfl⟩:=t.addr;refine aN ?_;refine R_ (c:=[_,_,_,_,_,_]) v (Ext.refl _) rfl ?_;refine aN ?_;refine P_ _ (λd y=>Vp _ _ s d (h.ext (f.trans y))) ?_;refine aN ?_;cases q:(o.h9 s.ay[a].scalar s).2
 case' false=>have b:(o.kT a s).2=8:=by rw[o.kT,g];simp only[q,Bool.false_eq_true,if_false]
 case true =>
  have b:(o.kT a s).2=0:=by rw[o.kT,g];simp only[q,if_true]
  refine aN ?_;intro z c;refine aN ?_;refine X_ (cs:=s.ay[a].enc.toArray) (c.obj m) rfl rfl (by simp[o.ed.enc,Value.oneCell']) λA i j=>?_;refine aN ?_;refine R_ (c:=o.ed.enc _) j (Ext.refl _) rfl ?_;refine aN ?_;exact⟨⟨_,by rw[b];rfl,λ_=>g⟩,i.ext (f.trans c) (by have:=e.size;omega)⟩
 all_goals
  refine aN ?_;intro z c;refine aN ?_;refine V_ (cs:=(⟨⟨#[]⟩,0,0,0,0,false⟩:o.ed).enc) (by simp[gu,o.ed.enc]) ?_;refine aN ?_;refine X_ (cs:=(⟨⟨#[]⟩,0,0,0,0,false⟩:o.ed).enc.toArray) (c.obj m) rfl rfl (by simp[o.ed.enc,Value.oneCell']) λA i j=>?_;refine aN ?_;refine R_ (c:=o.ed.enc _) j (Ext.refl _) rfl ?_;refine aN ?_;exact⟨⟨_,by rw[b];rfl,by rw[b];intro h;cases h⟩,i.ext (f.trans c) (by have:=e.size;omega)⟩
def TY{l:C_ o.Var}{n:Int}{s:o.Scope}{x:o.Var}(h:(o.fQ l n s).2.2=true)(a:o.nth l n=some x) :
  (o.fQ l n s).1=kindOf x.scalar/\(o.fQ l n s).2.1=kindOf x.over/\0<=x.scalar/\x.scalar<=s.scalars.length/\0<=x.over/\x.over<=s.scalars.length:=by
 unfold o.fQ at h ⊢;rw[a] at h ⊢;simp only[Bool.and_eq_true] at h ⊢;obtain⟨b,c,d⟩:=aeQ h.1;obtain⟨e,f,g⟩:=aeQ h.2;exact⟨d,g,b,c,e,f⟩
def awP(x:o.Node)(cs:C_ B_)(s:o.Scope)(w:A_)(X:x.ok)(h:o.gn w cs s)(az:1<=x.op/\x.op<=8)(N:x.op≠3)(t:Int) :
  EG F.MN #[.agg x.enc.toArray,.agg cs.toArray] w λY Z=>Y = .tuple #[.I (o.hf x s t).1,.I (o.hf x s t).2]/\Ext w Z:=by
 obtain⟨aA,aB,aC,bg,aD,bj,aE,aF,aG,aH,rfl,aI,O,C,P,ab,aJ,aK,aM,aP,aQ⟩:=h.form;refine bm E.MN ?_;refine aN ?_;refine O_ λaS ae aT Q S=>?_;refine aN ?_;refine O_ λy aU aW G H=>?_;have k:=Q.trans G;have aX:y.heap[ae]? = some (.cells #[.I x.op,.I x.n] T.j):=G.obj S;clear S;refine aN ?_;apply I_<;>intro z
 .have c:o.hf x s t=if o.within x.n then (0,0) else (0,10):=by rw[o.hf,if_pos z]
  (repeat' (refine aN ?_;first | (refine I_ (λ_=>?_) (λ_=>?_)<;>try (exfalso;omega)) | refine N_ (λ_=>?_) (λ_=>?_)))<;>try refine aN ?_
  all_goals
   refine⟨?_,fU⟩;rw[c];unfold o.within;split<;>first | rfl | (rename_i af;simp at af;exfalso;omega)
 by_cases aY:x.op=2\/x.op=4
 .have c:o.hf x s t=(let d:=o.fQ (if x.op=4 then s.locals else s.vars) x.n s;if d.2.2=false then (0,8) else if (x.op=3/\(d.2.1=0\/t≠d.2.1))\/(x.op≠3/\d.2.1≠0) then (0,9) else (d.1,0)):=by
   rw[o.hf,if_neg z,if_pos AW]
  by_cases U:x.op=4
  .rw[if_pos U] at c;rw[c];refine aN ?_;refine R_ (c:=[_,_,_,_,_,_]) H (Ext.refl _) rfl ?_;refine aN ?_;refine J_ (Ih _ s.locals x.n _ s y (ab.ext k) (h.ext k)) ?_;rintro _ l ⟨⟨a,rfl,f⟩,m⟩;have n:(o.fQ s.locals x.n s).2.2=true->_:=λp=>TY p (f p);clear f c;generalize o.fQ s.locals x.n s=d at n ⊢;obtain⟨I,J,ag⟩:=d;refine aN ?_;refine _O (vs:=a.enc) (λ_=>by simp -dsimp only[c8,cA,Nat.reduceAdd,Nat.reduceEqDiff,reduceIte,reduceCtorEq,dq]) rfl rfl (by simp[o.Var.enc,Value.oneCell']) λg A V W i=>?_;have ah:g.heap[A]? = some (.cells #[.string a.name,.I a.scalar,.I a.over,.I a.aQ,.I a.ab,.I a.init] T.i):=i;clear i;refine aN ?_;refine N_ (λb=>?_) (λb=>?_);rotate_left
   .refine aN ?_;simp only[b,if_true];exact cf
   obtain⟨K,L,ai,aj,ak,al⟩:=n b;have q:kindOf a.over=0↔a.over=0:=by unfold kindOf;split<;>omega
   have r:I=kindOf a.scalar:=K;have u:J=kindOf a.over:=L;refine aN ?_;apply I_<;>intro e
   .refine aN ?_;refine J_ (Mc a.scalar g AW) ?_;rintro _ _ ⟨rfl,rfl⟩;refine aN ?_;simp only[b,Bool.true_eq_false,if_false,r,u];rw[if_neg (by rw[ne_eq,q];omega)];exact cf
   .refine aN ?_;simp only[b,Bool.true_eq_false,if_false,r,u];rw[if_pos (.inr ⟨N,by rw[ne_eq,q];exact e⟩)];exact cf
  .rw[if_neg U] at c;rw[c];refine aN ?_;refine R_ (c:=[_,_,_,_,_,_]) H (Ext.refl _) rfl ?_;refine aN ?_;refine J_ (Ih _ s.vars x.n _ s y (O.ext k) (h.ext k)) ?_;rintro _ l ⟨⟨a,rfl,f⟩,m⟩;have n:(o.fQ s.vars x.n s).2.2=true->_:=λp=>TY p (f p);clear f c;generalize o.fQ s.vars x.n s=d at n ⊢;obtain⟨I,J,ag⟩:=d;refine aN ?_;refine _O (vs:=a.enc) (λ_=>by simp -dsimp only[c8,cA,Nat.reduceAdd,Nat.reduceEqDiff,reduceIte,reduceCtorEq,dq]) rfl rfl (by simp[o.Var.enc,Value.oneCell']) λg A V W i=>?_;have ah:g.heap[A]? = some (.cells #[.string a.name,.I a.scalar,.I a.over,.I a.aQ,.I a.ab,.I a.init] T.i):=i;clear i;refine aN ?_;refine N_ (λb=>?_) (λb=>?_);rotate_left
   .refine aN ?_;simp only[b,if_true];exact cf
   obtain⟨K,L,ai,aj,ak,al⟩:=n b;have q:kindOf a.over=0↔a.over=0:=by unfold kindOf;split<;>omega
   have r:I=kindOf a.scalar:=K;have u:J=kindOf a.over:=L;refine aN ?_;apply I_<;>intro e
   .refine aN ?_;refine J_ (Mc a.scalar g AW) ?_;rintro _ _ ⟨rfl,rfl⟩;refine aN ?_;simp only[b,Bool.true_eq_false,if_false,r,u];rw[if_neg (by rw[ne_eq,q];omega)];exact cf
   .refine aN ?_;simp only[b,Bool.true_eq_false,if_false,r,u];rw[if_pos (.inr ⟨N,by rw[ne_eq,q];exact e⟩)];exact cf
 have c:o.hf x s t=o.kU x s:=by rw[o.hf,if_neg z,if_neg AW]
 rw[c];clear c;refine aN ?_;apply I_<;>intro b
 ·(repeat' (refine aN ?_;first | (refine I_ (λ_=>?_) (λ_=>?_)<;>try (exfalso;omega)) | refine N_ (λ_=>?_) (λ_=>?_)))<;>try refine aN ?_
  all_goals
   refine⟨?_,fU⟩;rw[o.kU,if_pos b];split<;>first | rfl | (exfalso;omega)
 refine aN ?_;apply I_<;>intro e
 .have c:o.kU x s=o.kT x.n s:=by rw[o.kU,if_neg b,if_pos e]
  rw[c];have an:(o.kT x.n s).1=0/\((o.kT x.n s).2=0\/(o.kT x.n s).2=8):=by
   unfold o.kT; (repeat' split)<;>simp
  refine aN ?_;refine R_ (c:=[_,_,_,_,_,_]) H (Ext.refl _) rfl ?_;refine aN ?_;refine J_ (agy x.n _ s y (h.ext k)) ?_;rintro _ l ⟨⟨a,rfl,f⟩,m⟩;generalize o.kT x.n s=d at *;obtain⟨O,C⟩:=d;obtain⟨rfl,B⟩:=an;refine aN ?_;refine _O (vs:=a.enc) (λ_=>by simp -dsimp only[c8,cA,Nat.reduceAdd,Nat.reduceEqDiff,reduceIte,reduceCtorEq,dq]) rfl rfl (by simp[o.ed.enc,Value.oneCell']) λg A V W i=>?_;refine aN ?_;apply I_<;>intro v
  .refine aN ?_;have ao:C=0:=v;rw[ao];exact cf
  .refine aN ?_
   have:C=8:=B.resolve_left v
   rw[this];exact cf
 refine aN ?_;apply I_<;>intro v
 .have c:o.kU x s=o.zW x.n s:=by rw[o.kU,if_neg b,if_neg e,if_pos v]
  rw[c,o.zW];refine aN ?_;apply I_<;>intro z
  .refine aN ?_;intro l m;refine aN ?_;rw[if_neg AW];exact cf
  rw[if_pos AW];obtain⟨j,M⟩:=T7 (show 0<=x.n by omega);obtain⟨_,aq⟩:=X.n;rw[M] at aq;have B:x.n.tdiv 16=((j / 16:Nat):Int):=by rw[M];rfl
  have ar:x.n.tmod 16=((j % 16:Nat):Int):=by rw[M];rfl
  refine aN ?_;refine _P AW ?_;rw[B];refine aN ?_;apply I_<;>intro a0
  .refine aN ?_;intro l m;refine aN ?_;rw[o.hz (.inr AW)];exact cf
  have au:j / 16<s.procs.length:=AW
  rw[o.ir AW AW];simp only[Int.toNat_natCast];refine aN ?_;refine _o AW ?_;refine aN ?_;refine _P AW ?_;rw[B];obtain⟨av,rfl⟩:=P.addr;obtain⟨_,a2,dI,aw,_⟩:=P.at (j / 16) au;have ax:w.cell? ((av.add (j / 16*5)).add 2)=some (.I s.procs[j / 16].cb):=aw 2 _ rfl;refine aN ?_;refine L_ ((Q.trans G).cell ax) ?_;refine aN ?_;rw[ar];intro l m;refine aN ?_;apply I_<;>intro a5
  all_goals
   refine aN ?_;refine⟨?_,fU⟩
   first | rw[if_pos AW] | rw[if_neg AW]
 (repeat' (refine aN ?_;first | (refine I_ (λ_=>?_) (λ_=>?_)<;>try (exfalso;omega)) | refine N_ (λ_=>?_) (λ_=>?_)))<;>try refine aN ?_
 all_goals
  refine⟨?_,fU⟩;rw[o.kU,if_neg b,if_neg e,if_neg v,if_pos AW];split<;>first | rfl | (exfalso;omega)
def aeU(a:o.pA)(k:Int):o.nG a [k]=if a.iZ = -1\/k=a.iZ then (a.makes,0) else (0,9):=by
 simp[o.nG]
def asO(c:o.pA)(a b:Int):o.nG c [a,b]=if (c.iZ = -1\/a=c.iZ)/\a=b then (c.makes,0) else (0,9):=by
 simp only[o.nG,List.all_cons,List.all_nil,List.headD_cons,Bool.and_true,decide_true];by_cases d:a=b
 .subst d;simp
 .have e:¬b=a:=λf=>d f.symm;simp[d,e]
def wu(x:o.Node)(k:Int)(s:o.Scope):Int×Int:=match o.gS x.op with | some a=>o.nG a [k] | none=>o.hf x s k
def awV(x:o.Node)(k:Int)(cs:C_ B_)(s:o.Scope)(w:A_)(h:o.gn w cs s)(y:x.op=3\/x.op=9\/x.op=10) :
  EG F.MO #[.agg x.enc.toArray,.I k,.agg cs.toArray] w λz A=>z = .tuple #[.I (wu x k s).1,.I (wu x k s).2]/\Ext w A:=by
 obtain⟨S,U,V,bg,W,bj,X,Y,Z,ab,rfl,ae,B,af,ag,ah,ai,aj,ak,al,an⟩:=h.form;refine bm E.MO ?_;refine aN ?_;refine O_ λao C aq G f=>?_;refine aN ?_;refine O_ λg ar au i H=>?_;have j:=G.trans i;have av:g.heap[C]? = some (.cells #[.I x.op,.I x.n] T.j):=i.obj f;clear f;refine aN ?_;apply I_<;>intro d
 .have I:o.gS x.op=none:=by rw[d];rfl
  have l:wu x k s=(let b:=o.fQ s.vars x.n s;if b.2.2=false then (0,8) else if (x.op=3/\(b.2.1=0\/k≠b.2.1))\/(x.op≠3/\b.2.1≠0) then (0,9) else (b.1,0)):=by
   rw[wu,I];simp only;rw[o.hf,if_neg AW,if_pos AW];simp only[show ¬x.op=4 from AW,if_false]
  rw[l];refine aN ?_;refine R_ (c:=[_,_,_,_,_,_]) H (Ext.refl _) rfl ?_;refine aN ?_;refine J_ (Ih _ s.vars x.n _ s g (B.ext j) (h.ext j)) ?_;rintro _ aw ⟨⟨a,rfl,m⟩,ax⟩;have n:(o.fQ s.vars x.n s).2.2=true->_:=λp=>TY p (m p);clear m l;generalize o.fQ s.vars x.n s=b at n ⊢;obtain⟨J,q,az⟩:=b;refine aN ?_;refine _O (vs:=a.enc) (λ_=>by simp -dsimp only[c8,cA,Nat.reduceAdd,Nat.reduceEqDiff,reduceIte,reduceCtorEq,dq]) rfl rfl (by simp[o.Var.enc,Value.oneCell']) λr K aA aB t=>?_;have aC:r.heap[K]? = some (.cells #[.string a.name,.I a.scalar,.I a.over,.I a.aQ,.I a.ab,.I a.init] T.i):=t;clear t;refine aN ?_;refine N_ (λc=>?_) (λc=>?_);rotate_left
  .refine aN ?_;simp only[c,if_true];exact cf
  obtain⟨L,M,aD,aE,aF,aG⟩:=n c;have N:J=kindOf a.scalar:=L;have O:q=kindOf a.over:=M;have u:q=if a.over=0 then 0 else 1+a.over:=O
  refine aN ?_;apply I_<;>intro v
  .refine aN ?_;simp only[c,Bool.true_eq_false,if_false];rw[if_pos (.inl ⟨d,.inl (by rw[u,if_pos v])⟩)];exact cf
  rw[if_neg v] at u;refine aN ?_;apply I_<;>intro aH;rotate_left
  .refine aN ?_;simp only[c,Bool.true_eq_false,if_false];rw[if_pos (.inl ⟨d,.inr AW⟩)];exact cf
  refine aN ?_;refine J_ (Mc a.scalar r AW) ?_;rintro _ _ ⟨rfl,rfl⟩;refine aN ?_;simp only[c,Bool.true_eq_false,if_false,N];rw[if_neg AW];exact cf
 have P:x.op=9->wu x k s=if k=1 then (1,0) else (0,9):=by
  intro e;rw[wu,e];show o.nG _ [k]=_;rw[aeU];simp
 have Q:x.op=10->wu x k s=if k=0 then (0,0) else (0,9):=by
  intro e;rw[wu,e];show o.nG _ [k]=_;rw[aeU];simp
 (repeat' (refine aN ?_;first | (refine I_ (λ_=>?_) (λ_=>?_)<;>try (exfalso;omega)) | refine N_ (λ_=>?_) (λ_=>?_)))<;>try refine aN ?_
 all_goals
  refine⟨?_,fU⟩;rcases y with e | e | e
  .exact absurd e d
  .rw[P e];split<;>first | rfl | (exfalso;omega)
  .rw[Q e];split<;>first | rfl | (exfalso;omega)
def Iz(op a b:Int):Int×Int:=match o.gS op with | some c=>o.nG c [a,b] | none=>(0,9)
def aw5(op a b:Int)(w:A_)(i:11<=op/\op<=19) :
  EG F.MQ #[.I op,.I a,.I b] w λc d=>c = .tuple #[.I (Iz op a b).1,.I (Iz op a b).2]/\d=w:=by
 have f:Iz op a b=if a≠b then (0,9) else if op=14\/op=15 then (1,0) else if op=18\/op=19 then (if a=1 then (1,0) else (0,9)) else if op=16\/op=17 then (if a=0 then (1,0) else (0,9)) else (if a=0 then (0,0) else (0,9)):=by
  have g:op=11\/op=12\/op=13\/op=14\/op=15\/op=16\/op=17\/op=18\/op=19:=AW
  rcases g with e | e | e | e | e | e | e | e | e<;>subst e <;> (show o.nG _ [a,b]=_)<;>rw[asO]<;>by_cases h:a=b<;>simp[h,o.wz]
 refine bm E.MQ ?_
 (repeat' (refine aN ?_;first | (refine I_ (λ_=>?_) (λ_=>?_)<;>try (exfalso;omega)) | refine N_ (λ_=>?_) (λ_=>?_)))<;>try refine aN ?_
 all_goals
  refine⟨?_,aZ⟩;rw[f]
  (repeat' split)<;>first | rfl | (exfalso;omega)
def am3{s:o.Scope}{x:o.Node}{st:C_ Int}(h:o.ej x.op=0):o.gC s x st=o.hf x s (st.getLastD 0):=by
 unfold o.gC;rw[(N0 h).2.2.2]
theorem am4{s:o.Scope}{x:o.Node}{st:C_ Int}(h:o.ej x.op=1)(a:1<=st.length):o.gC s x st=wu x st[st.length - 1] s:=by
 unfold o.gC wu;cases b:o.gS x.op with
 | none=>simp only;rw[Gg st AW]
 | some c =>
  have:=(o.B5 b).1
  simp only;rw[show c.parts.toNat=1 from AW,QN a]
def am5{s:o.Scope}{x:o.Node}{st:C_ Int}(h:o.ej x.op=2)(a:2<=st.length):o.gC s x st=Iz x.op st[st.length - 2] st[st.length - 1]:=by
 unfold o.gC Iz;obtain⟨b,c,d⟩:=afN (show 9<=x.op/\x.op<=19 by have:=N1 h;omega);rw[c];simp only;rw[show b.parts.toNat=2 from AW,aaK a]
def agC(P:B_)(e:C_ o.Node)(cs:C_ B_)(s:o.Scope)(w:A_)(A:o.fH w P e)(h:o.gn w cs s) :
  EG F.MG #[P,.agg cs.toArray] w λn j=>n = .tuple #[.I (o.kind e s).1,.I (o.kind e s).2]/\Ext w j:=by
 obtain⟨aM,aP,aQ,aS,aT,rfl,_⟩:=h.ex;obtain⟨aU,aW,rfl,aX⟩:=A.form;refine bm E.MG ?_;refine aN ?_;refine O_ λp aY a0 Q ak=>?_;refine aN ?_;apply I_<;>intro a2
 .refine aN ?_;rw[o.kind,o.ma,if_pos AW];exact cf
 refine aN ?_;apply I_<;>intro a5
 .refine aN ?_;rw[o.kind,o.ma,if_neg AW,if_pos AW];exact cf
 refine aN ?_;refine _k 7 e.length (λb S j => ∃n a,S 6=n/\vo p.heap.size j n a/\o.e7 (o.gC s) (e.take b) []=(0,a)/\(0<b->1<=a.length)/\a.length<=12/\Ext p j)
  (by simp -dsimp only[c8,cA,Nat.reduceAdd,Nat.reduceEqDiff,reduceIte,reduceCtorEq,dq]) ⟨.slice none 0 0,[],by simp -dsimp only[c8,cA,Nat.reduceAdd,Nat.reduceEqDiff,reduceIte,reduceCtorEq,dq],aR.nil _ _ _ _ _,by simp[o.e7],Ah,Ah,Ext.refl _⟩ ?_
 rintro b S U B a6 d ⟨a7,a,f,C,r,al,a9,t⟩;have c:=B 0 rfl;have g:=B 3 rfl;simp only[bS,Nat.reduceAdd,Nat.reduceEqDiff,reduceIte,kK,oE] at c g;clear B;obtain⟨ba,bb,rfl,V,an⟩:=C.form;have G:nO U _ a:=aR.iw (enc:=nW) (sz:=1) (λ_=>rfl) C;unfold maxLen at an;refine eG (i_ c (i_ g (i_ f d))) ?_;apply I_<;>intro bf;rotate_left
 .have l:b=e.length:=AW
  subst l;rw[AG9] at r;have W:=al AW;obtain⟨ao,rfl⟩:=G.addr W;have X:o.kind e s=if a.length > 1 then (0,5) else (a.headD 0,0):=by
   rw[o.kind,o.ma,if_neg AW,if_neg AW,r,if_neg Ah]
  rw[X];clear X;refine eG (i_ c (i_ g (i_ f d))) ?_;apply I_<;>intro u
  .refine aN ?_;rw[if_pos AW];exact cf
  .refine eG (i_ c (i_ g (i_ f d))) ?_;refine M_ 0 rfl AW ?_;refine aN ?_;rw[if_neg AW]
   have:a.headD 0=a[0]:=by
    cases a with
    | nil=>simp at W
    | cons bk a=>rfl
   rw[this];exact cf
 have l:b<e.length:=AW
 obtain⟨ao,rfl⟩:=A.addr;have aq:=(A.at b l).ok;have m:=λc=>o.Vq (f:=o.gC s) (e:=e) AW l r c;have ar:=o.EB l r;have Y:=Q.trans t;have Z:=t.obj ak;refine eG (i_ c (i_ g (i_ f d))) ?_;refine J_ (ah4 e[b].op U) ?_;rintro _ _ ⟨rfl,rfl⟩;generalize v:o.ej e[b].op=H at *;have bn : -1<=H/\H<=2:=by rw[<-v];unfold o.ej; (repeat' split)<;>omega
 refine eG (i_ c (i_ g (i_ f d))) ?_;apply I_<;>intro u
 .have I:o.stepG (o.gC s) e[b] a=(3,a):=by unfold o.stepG;rw[v,if_pos u]
  rw[I] at m;refine aN ?_;rw[o.kind,m Ah];exact cf
 refine eG (i_ c (i_ g (i_ f d))) ?_;apply I_<;>intro ab
 .have I:o.stepG (o.gC s) e[b] a=(4,a):=by unfold o.stepG;rw[v,if_neg u,if_pos ab]
  rw[I] at m;refine aN ?_;rw[o.kind,m Ah];exact cf
 obtain⟨i,rfl⟩:=T7 (show 0<=H by omega);have k:o.stepG (o.gC s) e[b] a=if (o.gC s e[b] a).2≠0 then ((o.gC s e[b] a).2,a) else if (a.take (a.length - i)++[(o.gC s e[b] a).1]).length > 12 then (12,a) else (0,a.take (a.length - i)++[(o.gC s e[b] a).1]):=by
  unfold o.stepG;rw[v,if_neg u,if_neg ab];simp only[Int.toNat_natCast]
 have x:(a.take (a.length - i)++[(o.gC s e[b] a).1]).length=a.length - i+1:=by simp[List.length_take]
 rw[x] at k;have au:i=0\/i=1\/i=2:=AW
 rcases au with zH | zH | zH
 case' inl =>
  have q:=am3 (s:=s) (st:=a) (x:=e[b]) AW;obtain⟨av,aw,ax,bo⟩:=N0 (x:=e[b].op) AW;refine eG (i_ c (i_ g (i_ f d))) ?_;refine R_ (c:=[_,_,_,_,_,_]) Z (Ext.refl _) rfl ?_;refine eG (i_ c (i_ g (i_ f d))) ?_;refine P_ _ (λj y=>awP e[b] _ s j aq (h.ext (Y.trans y)) ⟨av,aw⟩ ax (a.getLastD 0)) ?_;rw[<-q];refine eG (i_ c (i_ g (i_ f d))) ?_
 case' inr.inl =>
  have q:=am4 (s:=s) (st:=a) (x:=e[b]) AW AW;obtain⟨az,rfl⟩:=G.addr;refine eG (i_ c (i_ g (i_ f d))) ?_;refine M_ (a.length - 1) AW AW ?_;refine eG (i_ c (i_ g (i_ f d))) ?_;refine R_ (c:=[_,_,_,_,_,_]) Z (Ext.refl _) rfl ?_;refine eG (i_ c (i_ g (i_ f d))) ?_;refine P_ _ (λj y=>awV e[b] _ _ s j (h.ext (Y.trans y)) (afD AW)) ?_;rw[<-q];refine eG (i_ c (i_ g (i_ f d))) ?_
 case' inr.inr =>
  have q:=am5 (s:=s) (st:=a) (x:=e[b]) AW AW;obtain⟨az,rfl⟩:=G.addr;refine eG (i_ c (i_ g (i_ f d))) ?_;refine M_ (a.length - 2) AW AW ?_;refine eG (i_ c (i_ g (i_ f d))) ?_;refine M_ (a.length - 1) AW AW ?_;refine eG (i_ c (i_ g (i_ f d))) ?_;refine P_ _ (λj y=>(aw5 e[b].op _ _ j (N1 AW)).mono λn bp h=>⟨h.1,h.2 ▸ Ext.refl _⟩) ?_;rw[<-q];refine eG (i_ c (i_ g (i_ f d))) ?_
 all_goals
  intro aA J;refine eG (i_ c (i_ g (i_ f d))) ?_;apply I_<;>intro K;rotate_left
  .rw[if_pos K] at k;refine aN ?_;rw[o.kind,m (by rw[k];exact K),k];exact cf
  rw[if_neg (by simpa using K)] at k;have aB:=C.ext J;refine eG (i_ c (i_ g (i_ f d))) ?_;refine _E (cs:=[]) (by simp[List.range,List.range.loop,gu]) λae aC br L aD=>?_;have bt:=t.size;have bu:=J.size;have bw:=L.size;have aE:vo p.heap.size ae (.slice (some ⟨aC,0,none⟩) 0 0) []:=aR.empty AW aD;have aF:=aB.ext L;have aG:vo p.heap.size ae (.slice _ (a.length - i) _) (a.take (a.length - i)):=aR.head (enc:=nW) (sz:=1) (xs:=a) (λ_=>rfl) aF (a.length - i) (Nat.sub_le _ _);have z:(a.take (a.length - i)).length=a.length - i:=by simp[List.length_take]
  refine eG (i_ c (i_ g (i_ f d))) ?_;refine _l (a.length - i) (by refine cg f ?_;first | rfl | (congr 1;omega)) AW ?_;refine aN ?_;refine AA0 (xs:=[]) (ys:=a.take (a.length - i)) aE aG (λ_=>rfl) J5 (by rw[z];simp only[List.length_nil];omega) (by rw[z];simp only[List.length_nil,maxLen];omega) AW λbx aH af aI=>?_;have ag:Ext aA aH:=L.grown aI λah M=>by simp[Value.ownBlock] at M;omega
  rw[AH2] at af;have bz:=ag.size;refine aN ?_;refine _E (cs:=[(o.gC s e[b] a).1].flatMap nW) (by simp[List.range,List.range.loop,gu,lay,dy,bS,Value.cells,nW]) λbA bB bC N V=>?_;have bE:=N.size;have ai:=af.ext N;refine aN ?_;refine _m (xs:=a.take (a.length - i)) (ys:=[(o.gC s e[b] a).1]) ai (λ_=>rfl) (gP V) rfl J5 (by rw[z];simp only[List.length_cons,List.length_nil];omega) (by rw[z];simp only[List.length_cons,List.length_nil,maxLen];omega) AW λbF aJ O aK=>?_;have aj:Ext p aJ:=Ext.grown (((t.trans J).trans ag).trans N) aK λah M=>(ai.lt ah M).1;obtain⟨bG,bH,rfl,_⟩:=O.form;rw[x] at O ⊢;by_cases bI:12<a.length - i+1
  .rw[if_pos AW] at k
   first
    | (exfalso;omega)
    | (refine aN ?_
       rw[o.kind,m (by rw[k];simp),k];exact⟨aZ,Q.trans aj⟩)
  rw[if_neg AW] at k;refine eG d ?_;refine⟨l,aZ,_,_,rfl,O,by rw[ar,k],λ_=>by rw[x];omega,by rw[x];omega,aj⟩
def Ey(c:B_)(e:C_ o.Node)(k:Int)(cs:C_ B_)(s:o.Scope)(w:A_)(d:o.fH w c e)(h:o.gn w cs s) :
  EG F.M3 #[c,.I k,.agg cs.toArray] w λi j=>i = .I (o.asked e k s)/\Ext w j:=by
 obtain⟨m,n,p,bg,q,bj,r,t,u,v,rfl,_⟩:=h.form;obtain⟨x,y,rfl,_⟩:=d.form;refine bm E.M3 ?_;refine ad ?_;intro l z A a B;refine ad ?_;refine J_ (agC _ e _ s l (d.ext a) (h.ext a)) ?_;rintro _ C ⟨rfl,b⟩;rw[o.asked];refine ad ?_;apply I_<;>intro f;rotate_left
 .refine ad ?_;exact⟨by rw[if_pos f],a.trans b⟩
 rw[if_neg (by simpa using f)];refine ad ?_;apply I_<;>intro g;rotate_left
 .refine ad ?_;exact⟨by rw[if_pos g],a.trans b⟩
 .refine ad ?_;exact⟨by rw[if_neg (by simpa using g)],a.trans b⟩
def Md(n:Int)(w:A_)(h:0<=n/\n<=4611686018427387904):EG F.HH #[.I n] w λa b=>a = .I (if n=0 then 0 else 1+n)/\b=w:=Mc n w h
theorem UU(v:B_)(l:C_ o.Var)(n:Int)(cs:C_ B_)(s:o.Scope)(w:A_)(i:o.jO w v l)(h:o.gn w cs s) :
  EG F.M5 #[v,.I n,.agg cs.toArray] w λv m=>v = .tuple #[.I (o.mF l n s).1,.I (o.mF l n s).2]/\Ext w m:=by
 obtain⟨z,A,B,bg,C,bj,G,H,I,J,rfl,_,_,_,_,_,K,L,M,N,O⟩:=h.form;obtain⟨P,Q,rfl,_⟩:=i.form;refine bm E.M5 ?_;refine ad ?_;intro p S U a V;refine ad ?_;refine J_ (Ih _ l n _ s p (i.ext a) (h.ext a)) ?_;rintro W X ⟨⟨f,c,q⟩,g⟩;cases b:(o.fQ l n s).2.2 with
 | false =>
  rw[b] at c;subst c;refine ad ?_;intro j r t d u;refine ad ?_;exact⟨by rw[o.mF,o.aaF b],(a.trans g).trans d⟩
 | true =>
  rw[b] at c;subst c;obtain⟨x,y,Y,Z,ab⟩:=o.aaH b (q b);have e:o.mF l n s=if f.over≠0 then (0,9) else ((if f.scalar=0 then 0 else 1+f.scalar),0):=by unfold o.mF;rw[x]
  refine ad ?_;intro j r t d u;refine ad ?_;apply I_<;>intro k
  .rw[if_neg (by simpa using k)] at e;refine ad ?_;refine J_ (Md _ j ⟨y,AW⟩) ?_;rintro _ _ ⟨rfl,rfl⟩;refine ad ?_;exact⟨by rw[e],(a.trans g).trans d⟩
  .rw[if_pos k] at e;refine ad ?_;exact⟨by rw[e],(a.trans g).trans d⟩
theorem asq(a:o.Act)(q r:B_)(cs:C_ B_)(s:o.Scope)(w:A_)(t:o.fH w q a.index)(u:o.fH w r a.value)(h:o.gn w cs s) :
  EG F.M4 #[.agg (a.enc q r).toArray,.agg cs.toArray] w λv b=>v = .I (o.BO a s)/\Ext w b:=by
 obtain⟨O,P,Q,bg,S,bj,U,V,W,X,rfl,_,C,_,_,_,Y,Z,ab,ae,af⟩:=h.form;obtain⟨_,_,rfl,_⟩:=t.form;obtain⟨_,_,rfl,_⟩:=u.form;refine bm E.M4 ?_;refine ad ?_;intro ag ah ai G d;refine ad ?_;intro x aj ak y g;replace d:=y.obj d;have dm:∀{b},Ext x b->Ext w b:=λc=>(G.trans y).trans c;refine ad ?_;refine J_ (Ih _ s.vars a.to _ s x (C.ext (dm (Ext.refl _))) (h.ext (dm (Ext.refl _)))) ?_;rintro al an ⟨⟨e,k,H⟩,l⟩;replace d:=l.obj d;replace g:=l.obj g;cases i:(o.fQ s.vars a.to s).2.2 with
 | false =>
  rw[i] at k;subst k;refine ad ?_;intro n I J j p;refine ad ?_;exact⟨by rw[o.BO,o.aaF i],dm (l.trans j)⟩
 | true =>
  rw[i] at k;subst k;obtain⟨K,L,ao,aq,ar⟩:=o.aaH i (H i);have f:o.BO a s=if e.over=0 then 9 else if o.asked a.index (1+e.over) s≠0 then o.asked a.index (1+e.over) s else o.asked a.value (if e.scalar=0 then 0 else 1+e.scalar) s:=by unfold o.BO;rw[K]
  refine ad ?_;intro n I J j p;replace d:=j.obj d;replace g:=j.obj g;have dO:∀{b},Ext n b->Ext w b:=λc=>dm ((l.trans j).trans c);refine ad ?_;apply I_<;>intro z
  .rw[if_pos z] at f;refine ad ?_;exact⟨by rw[f],dO (Ext.refl _)⟩
  rw[if_neg z] at f;refine ad ?_;refine J_ (Ey _ a.index (1+e.over) _ s n (t.ext (dO (Ext.refl _))) (h.ext (dO (Ext.refl _)))) ?_;rintro _ M ⟨rfl,m⟩;replace d:=m.obj d;replace g:=m.obj g;replace p:=m.obj p;have hg:∀{b},Ext M b->Ext w b:=λc=>dO (m.trans c);refine ad ?_;apply I_<;>intro A;rotate_left
  .rw[if_pos A] at f;refine ad ?_;exact⟨by rw[f],hg (Ext.refl _)⟩
  rw[if_neg (by simpa using A)] at f;refine ad ?_;refine P_ (.I (if e.scalar=0 then 0 else 1+e.scalar)) (λb c=>(Md _ b ⟨L,AW⟩).mono λv au B=>⟨B.1,by rw[B.2];exact Ext.refl _⟩) ?_;refine ad ?_;refine P_ (.I (o.BO a s)) (λb c=>by rw[f];exact Ey _ a.value _ _ s b (u.ext (hg c)) (h.ext (hg c))) ?_;refine ad ?_;intro av N;refine ad ?_;exact⟨aZ,hg N⟩
def agx(a:o.Act)(comm:Bool)(A B:B_)(cs:C_ B_)(s:o.Scope)(w:A_)(C:o.fH w A a.index)(n:o.fH w B a.value)(h:o.gn w cs s) :
  EG F.M1 #[.agg (a.enc A B).toArray,.agg cs.toArray,.bool comm] w λG d=>G = .I (o.mH a s comm)/\Ext w d:=by
 obtain⟨ae,af,ag,bg,ah,bj,ai,aj,ak,al,rfl,_,O,_,_,H,an,ao,aq,ar,au⟩:=h.form;obtain⟨_,_,rfl,_⟩:=C.form;obtain⟨_,_,rfl,_⟩:=n.form;refine bm E.M1 ?_;refine ad ?_;intro av aw ax P e;refine ad ?_;intro p az aA I g;replace e:=I.obj e;have dm:∀{d},Ext p d->Ext w d:=λj=>(P.trans I).trans j;refine ad ?_;apply I_<;>intro Q
 .refine ad ?_;exact⟨by rw[o.mH,if_pos (.inl Q)],dm (Ext.refl _)⟩
 refine ad ?_;apply I_<;>intro S
 .refine ad ?_;exact⟨by rw[o.mH,if_pos (.inr S)],dm (Ext.refl _)⟩
 have k:¬(a.kind<1\/5<a.kind):=AW
 refine ad ?_;apply I_<;>intro l
 .refine ad ?_;refine J_ (asq a _ _ _ s p (C.ext (dm (Ext.refl _))) (n.ext (dm (Ext.refl _))) (h.ext (dm (Ext.refl _)))) ?_;rintro _ q ⟨rfl,b⟩;refine ad ?_;exact⟨by rw[o.mH,if_neg k,if_pos l],dm b⟩
 refine ad ?_;apply I_<;>intro U
 .have c:o.mH a s comm=if (o.mF s.vars a.to s).2≠0 then (o.mF s.vars a.to s).2 else o.asked a.value (o.mF s.vars a.to s).1 s:=by
   rw[o.mH,if_neg k,if_neg l,if_pos (.inl U)];simp only[if_neg (by omega:¬a.kind=3)]
  refine ad ?_;refine J_ (UU _ s.vars a.to _ s p (O.ext (dm (Ext.refl _))) (h.ext (dm (Ext.refl _)))) ?_;rintro _ q ⟨rfl,b⟩;replace e:=b.obj e;replace g:=b.obj g;refine ad ?_;apply I_<;>intro i;rotate_left
  .rw[if_pos i] at c;refine ad ?_;exact⟨by rw[c],dm b⟩
  rw[if_neg (by simpa using i)] at c;refine ad ?_;refine J_ (Ey _ a.value _ _ s q (n.ext (dm b)) (h.ext (dm b))) ?_;rintro _ r ⟨rfl,f⟩;refine ad ?_;exact⟨by rw[c],dm (b.trans f)⟩
 refine ad ?_;apply I_<;>intro i
 .have c:o.mH a s comm=if (o.mF s.locals a.to s).2≠0 then (o.mF s.locals a.to s).2 else o.asked a.value (o.mF s.locals a.to s).1 s:=by
   rw[o.mH,if_neg k,if_neg l,if_pos (.inr i)];simp only[if_pos i]
  refine ad ?_;refine J_ (UU _ s.locals a.to _ s p (H.ext (dm (Ext.refl _))) (h.ext (dm (Ext.refl _)))) ?_;rintro _ q ⟨rfl,b⟩;replace e:=b.obj e;replace g:=b.obj g;refine ad ?_;apply I_<;>intro i;rotate_left
  .rw[if_pos i] at c;refine ad ?_;exact⟨by rw[c],dm b⟩
  rw[if_neg (by simpa using i)] at c;refine ad ?_;refine J_ (Ey _ a.value _ _ s q (n.ext (dm b)) (h.ext (dm b))) ?_;rintro _ r ⟨rfl,f⟩;refine ad ?_;exact⟨by rw[c],dm (b.trans f)⟩
 have y:¬(a.kind=1\/a.kind=3):=AW
 refine ad ?_;refine N_ (λu=>?_) (λu=>?_)
 .refine ad ?_;exact⟨by rw[o.mH,if_neg k,if_neg l,if_neg y,if_pos u],dm (Ext.refl _)⟩
 refine ad ?_;refine J_ (agy a.to _ s p (h.ext (dm (Ext.refl _)))) ?_;rintro aB q ⟨⟨m,v,V⟩,b⟩;replace e:=b.obj e;replace g:=b.obj g;by_cases t:(o.kT a.to s).2=0;rotate_left
 .rw[decide_eq_false t] at v;subst v;refine ad ?_;intro r W X f z;refine ad ?_;exact⟨by rw[o.mH,if_neg k,if_neg l,if_neg y,if_neg (by simp[u]),o.ale t],dm (b.trans f)⟩
 rw[decide_eq_true t] at v;subst v;obtain⟨Y,J,aC⟩:=o.alg t (V t);have c:o.mH a s comm=if a.kind=4 then o.asked a.value (if m.scalar=0 then 0 else 1+m.scalar) s else if (o.mF s.locals a.loc s).2≠0 then (o.mF s.locals a.loc s).2 else if (o.mF s.locals a.loc s).1≠(if m.scalar=0 then 0 else 1+m.scalar) then 9 else 0:=by
  rw[o.mH,if_neg k,if_neg l,if_neg y,if_neg (by simp[u]),Y]
 refine ad ?_;intro r W X f z;replace e:=f.obj e;replace g:=f.obj g;have dO:∀{d},Ext r d->Ext w d:=λj=>dm ((b.trans f).trans j);refine ad ?_;apply I_<;>intro K
 .rw[if_pos K] at c;refine ad ?_;refine P_ (.I (if m.scalar=0 then 0 else 1+m.scalar)) (λd j=>(Md _ d ⟨J,AW⟩).mono λG aD L=>⟨L.1,by rw[L.2];exact Ext.refl _⟩) ?_;refine ad ?_;refine P_ (.I (o.mH a s comm)) (λd j=>by rw[c];exact Ey _ a.value _ _ s d (n.ext (dO j)) (h.ext (dO j))) ?_;refine ad ?_;intro aE Z;refine ad ?_;exact⟨aZ,dO Z⟩
 rw[if_neg K] at c;refine ad ?_;refine J_ (UU _ s.locals a.loc _ s r (H.ext (dO (Ext.refl _))) (h.ext (dO (Ext.refl _)))) ?_;rintro _ ab ⟨rfl,x⟩;replace z:=x.obj z;refine ad ?_;apply I_<;>intro M;rotate_left
 .rw[if_pos M] at c;refine ad ?_;exact⟨by rw[c],dO x⟩
 rw[if_neg (by simpa using M)] at c;refine ad ?_;refine J_ (Md _ ab ⟨J,AW⟩) ?_;rintro _ _ ⟨rfl,rfl⟩;refine ad ?_;apply I_<;>intro N
 .rw[if_neg (by simpa using N)] at c;refine ad ?_;exact⟨by rw[c],dO x⟩
 .rw[if_pos N] at c;refine ad ?_;exact⟨by rw[c],dO x⟩
end Go.Proofs.R
namespace o
def Zo{s:Scope}{a:Act}{k:Nat}{b:Bool}{c:Int×Int}:(if h2 a&&b then ((2+(k:Int)),(7:Int)) else if lx a s≠0 then (2+(k:Int),lx a s) else c)=if mH a s b≠0 then (2+(k:Int),mH a s b) else c:=by
 rw[av8];by_cases d:(h2 a&&b)=true
 .simp[d]
 .simp[d]
end o
namespace Go.Proofs.R
open Go Go.RowKit a8 o
theorem awh(c:et)(M N:B_)(p:ee)(O P:B_)(cs:C_ B_)(s:o.Scope)(w:A_)(ae:kq c.name)(Q:fH w M c.guard)(u:oq w N c.b6)
  (af:jO w O p.vars)(ag:sX w P p.cL)(h:gn w cs s) :
  EG F.MY #[.agg (c.enc M N).toArray,.agg (p.enc O P).toArray,.agg cs.toArray] w λah e =>
   ah = .tuple #[.I (jP c p.cb s).1,.I (jP c p.cb s).2]/\Ext w e:=by
 obtain⟨aw,ax,az,bg,aA,bj,aB,aC,aD,aE,rfl,_⟩:=h.form;obtain⟨aF,aG,rfl,aH⟩:=u.form;obtain⟨aI,aJ,rfl,aK⟩:=Q.form;obtain⟨_,_,rfl,_⟩:=af.form;obtain⟨_,_,rfl,_⟩:=ag.form;refine bm E.MY ?_;refine ad ?_;intro aM aP aQ ai g;refine ad ?_;intro aS aT aU S A;refine ad ?_;intro U aW aX J k;replace g:=(S.trans J).obj g;replace A:=J.obj A;have g7:∀{e},Ext U e->Ext w e:=λf=>((ai.trans S).trans J).trans f;refine ad ?_;refine J_ (Ez c.name U ae) ?_;rintro aY K ⟨B,C⟩;replace g:=C.obj g;replace A:=C.obj A;replace k:=C.obj k;have dO:∀{e},Ext K e->Ext w e:=λf=>g7 (C.trans f);have n:∀G,o.head c p.cb=G->G≠0->jP c p.cb s=(0,G):=λG f aj=>by unfold jP;rw[f,if_pos aj]
 cases H:o.isName c.name with
 | false =>
  rw[H] at B;subst B;refine ad ?_;exact⟨by rw[n 6 (by unfold o.head;rw[if_pos H]) Ae],dO (Ext.refl _)⟩
 | true =>
  rw[H] at B;subst B;have r:¬o.isName c.name=false:=by rw[H];simp
  refine ad ?_;apply I_<;>intro V
  .refine ad ?_;exact⟨by rw[n 10 (by unfold o.head;rw[if_neg r,if_pos AW]) Ae],dO (Ext.refl _)⟩
  refine ad ?_;apply I_<;>intro t
  .refine ad ?_;exact⟨by rw[n 10 (by unfold o.head;rw[if_neg r,if_pos AW]) Ae],dO (Ext.refl _)⟩
  refine ad ?_;apply I_<;>intro m
  .refine ad ?_;exact⟨by rw[n 10 (by unfold o.head;rw[if_neg r,if_pos AW]) Ae],dO (Ext.refl _)⟩
  refine ad ?_;apply I_<;>intro W
  .refine ad ?_;exact⟨by rw[n 10 (by unfold o.head;rw[if_neg r,if_pos AW]) Ae],dO (Ext.refl _)⟩
  have X:¬(c.from_<0\/p.cb<=c.from_\/c.to<0\/p.cb<=c.to):=AW
  refine ad ?_;apply I_<;>intro a0
  .refine ad ?_;exact⟨by rw[n 11 (by unfold o.head;rw[if_neg r,if_neg X,if_pos AW]) Ae],dO (Ext.refl _)⟩
  have I:jP c p.cb s=if c.guard.length > 0/\o.asked c.guard 1 s≠0 then (1,o.asked c.guard 1 s) else mm s c.b6 0 false:=by
   unfold jP;rw[if_neg];unfold o.head;rw[if_neg r,if_neg X,if_neg AW];simp
  clear n;refine ad ?_;apply I_<;>intro ak
  .refine ad ?_;refine J_ (Ey _ c.guard 1 _ s K (Q.ext (dO (Ext.refl _))) (h.ext (dO (Ext.refl _)))) ?_;rintro _ Y ⟨rfl,L⟩;replace g:=L.obj g;replace k:=L.obj k;have hg:∀{e},Ext Y e->Ext w e:=λf=>dO (L.trans f);refine ad ?_;apply I_<;>intro Z;rotate_left
   .rw[if_pos ⟨AW,Z⟩] at I;refine ad ?_;exact⟨by rw[I],hg (Ext.refl _)⟩
   have v:jP c p.cb s=mm s c.b6 0 false:=by rw[I,if_neg (λab=>ab.2 (by simpa using Z))]
   refine ad ?_;refine K_ 10 c.b6.length [3,4,5] (λi=>[(9,.bool i)]) false (λa i e=>Ext Y e/\mm s c.b6 0 false=mm s (c.b6.drop a) a i) aV aV ⟨Ext.refl _,Ah⟩ ?_;rintro a i al an ao ⟨b,d⟩;replace g:=b.obj g;replace k:=b.obj k;refine ad ?_;apply I_<;>intro V
   .have l:a<c.b6.length:=AW
    obtain⟨aq,rfl⟩:=u.addr;obtain⟨ar,au,x,y,z⟩:=u.at a l;obtain⟨_,_,rfl,_⟩:=y.form;obtain⟨_,_,rfl,_⟩:=z.form;rw[P3 l,Zo] at d;replace x:=x.ext (hg (Ext.refl _));refine ad ?_;refine P_ (.I (mH c.b6[a] s i)) (λe f=>agx c.b6[a] i _ _ _ s e (y.ext (hg (b.trans f))) (z.ext (hg (b.trans f))) (h.ext (hg (b.trans f)))) ?_;refine ad ?_;intro av j;replace g:=j.obj g;replace k:=j.obj k;refine ad ?_;apply I_<;>intro t;rotate_left
    .rw[if_pos t] at d;refine ad ?_;exact⟨by rw[v,d],hg (b.trans j)⟩
    rw[if_neg (by simpa using t)] at d;refine ad ?_;refine N_ (λm=>?_) (λm=>?_)
    .subst m;refine ad ?_;exact⟨l,aZ,true,aV,b.trans j,by simpa using d⟩
    subst m;refine ad ?_;apply I_<;>intro W
    .have q:h2 c.b6[a]=true:=by unfold h2;rw[decide_eq_true_eq];omega
     refine ad ?_;exact⟨l,aZ,true,aV,b.trans j,by simpa[q] using d⟩
    have q:h2 c.b6[a]=decide (c.b6[a].kind=5):=by unfold h2;rw[AH4,decide_eq_true_eq,decide_eq_true_eq];omega
    rw[Bool.false_or,q] at d;refine ad ?_;exact⟨l,aZ,decide (c.b6[a].kind=5),aV,b.trans j,d⟩
   .rw[VB AW] at d;refine ad ?_;exact⟨by rw[v,d];rfl,hg b⟩
  .have v:jP c p.cb s=mm s c.b6 0 false:=by rw[I,if_neg (λab=>ak AW)]
   refine ad ?_;refine K_ 10 c.b6.length [3,4,5] (λi=>[(9,.bool i)]) false (λa i e=>Ext K e/\mm s c.b6 0 false=mm s (c.b6.drop a) a i) aV aV ⟨Ext.refl _,Ah⟩ ?_;rintro a i al an ao ⟨b,d⟩;replace g:=b.obj g;replace k:=b.obj k;refine ad ?_;apply I_<;>intro V
   .have l:a<c.b6.length:=AW
    obtain⟨aq,rfl⟩:=u.addr;obtain⟨ar,au,x,y,z⟩:=u.at a l;obtain⟨_,_,rfl,_⟩:=y.form;obtain⟨_,_,rfl,_⟩:=z.form;rw[P3 l,Zo] at d;replace x:=x.ext (dO (Ext.refl _));refine ad ?_;refine P_ (.I (mH c.b6[a] s i)) (λe f=>agx c.b6[a] i _ _ _ s e (y.ext (dO (b.trans f))) (z.ext (dO (b.trans f))) (h.ext (dO (b.trans f)))) ?_;refine ad ?_;intro av j;replace g:=j.obj g;replace k:=j.obj k;refine ad ?_;apply I_<;>intro t;rotate_left
    .rw[if_pos t] at d;refine ad ?_;exact⟨by rw[v,d],dO (b.trans j)⟩
    rw[if_neg (by simpa using t)] at d;refine ad ?_;refine N_ (λm=>?_) (λm=>?_)
    .subst m;refine ad ?_;exact⟨l,aZ,true,aV,b.trans j,by simpa using d⟩
    subst m;refine ad ?_;apply I_<;>intro W
    .have q:h2 c.b6[a]=true:=by unfold h2;rw[decide_eq_true_eq];omega
     refine ad ?_;exact⟨l,aZ,true,aV,b.trans j,by simpa[q] using d⟩
    have q:h2 c.b6[a]=decide (c.b6[a].kind=5):=by unfold h2;rw[AH4,decide_eq_true_eq,decide_eq_true_eq];omega
    rw[Bool.false_or,q] at d;refine ad ?_;exact⟨l,aZ,decide (c.b6[a].kind=5),aV,b.trans j,d⟩
   .rw[VB AW] at d;refine ad ?_;exact⟨by rw[v,d];rfl,dO b⟩
theorem aw1(p:ee)(ae cs:C_ B_)(s:o.Scope)(w:A_)(aw:yN w ae p)(h:gn w cs s)(af:s.cS)(ag:p.cS) :
  EG F.M6 #[.agg ae.toArray,.agg cs.toArray] w λax a=>ax = .tuple #[.I (iH p s).1,.I (iH p s).2.1,.I (iH p s).2.2]/\Ext w a:=by
 obtain⟨az,aA,aB,bg,aC,bj,aD,aE,a9,ba,rfl,K,U,aF,aG,bb,bf,bk,bn,bo,bp⟩:=h.form;obtain⟨aH,br,bt,rfl,y,C⟩:=aw;obtain⟨aI,aJ,rfl,bu⟩:=y.form;obtain⟨bw,bx,rfl,bz⟩:=C.form;refine bm E.M6 ?_;refine ad ?_;intro bA bB bC aK d;refine ad ?_;intro ah bE bF ai f;replace d:=ai.obj d;have dm:∀{a},Ext ah a->Ext w a:=λb=>(aK.trans ai).trans b;refine ad ?_;refine J_ (Ez p.name ah aH) ?_;rintro bG aj ⟨L,V⟩;replace d:=V.obj d;replace f:=V.obj f;have g7:∀{a},Ext aj a->Ext w a:=λb=>dm (V.trans b);have r:∀M,o.whole p s=M->M≠0->iH p s=(0,0,M):=λM b K=>by unfold iH;rw[b,if_pos K]
 cases N:o.isName p.name with
 | false =>
  rw[N] at L;subst L;refine ad ?_;exact⟨by rw[r 6 (by unfold o.whole;rw[if_pos N]) Ae],g7 (Ext.refl _)⟩
 | true =>
  rw[N] at L;subst L;have z:¬o.isName p.name=false:=by rw[N];simp
  refine ad ?_;apply I_<;>intro aM
  .refine ad ?_;exact⟨by rw[r 8 (by unfold o.whole;rw[if_neg z,if_pos (.inl aM)]) Ae],g7 (Ext.refl _)⟩
  refine ad ?_;apply I_<;>intro bH
  .refine ad ?_;exact⟨by rw[r 8 (by unfold o.whole;rw[if_neg z,if_pos (.inr AW)]) Ae],g7 (Ext.refl _)⟩
  have O:¬(p.over<0\/(s.scalars.length:Int)<p.over):=AW
  refine ad ?_;apply I_<;>intro aP
  .refine ad ?_;exact⟨by rw[r 10 (by unfold o.whole;rw[if_neg z,if_neg O,if_pos (.inl aP)]) Ae],g7 (Ext.refl _)⟩
  refine ad ?_;apply I_<;>intro bI
  .refine ad ?_;exact⟨by rw[r 10 (by unfold o.whole;rw[if_neg z,if_neg O,if_pos (.inr AW)]) Ae],g7 (Ext.refl _)⟩
  have ak:¬(p.cb<1\/12<p.cb):=AW
  refine ad ?_;apply I_<;>intro bJ
  .refine ad ?_;exact⟨by rw[r 11 (by unfold o.whole;rw[if_neg z,if_neg O,if_neg ak,if_pos AW]) Ae],g7 (Ext.refl _)⟩
  have j:iH p s=if (mG p s).2≠0 then (1,(mG p s).1,(mG p s).2) else mT (o.inner p s) p.cb p.cL p.cL 0:=by
   unfold iH;rw[if_neg];unfold o.whole;rw[if_neg z,if_neg O,if_neg ak,if_neg AW];simp
  clear r;refine ad ?_;refine J_ (agF _ _ p.vars s.scalars 4 aj (y.ext (g7 (Ext.refl _))) (K.ext (g7 (Ext.refl _)))) ?_;rintro _ al ⟨rfl,W⟩;replace d:=W.obj d;replace f:=W.obj f;have dO:∀{a},Ext al a->Ext w a:=λb=>g7 (W.trans b);refine ad ?_;apply I_<;>intro X;rotate_left
  .have P:mG p s=o.vars p.vars s.scalars 4:=by unfold mG;rw[if_pos X]
   rw[P,if_pos X] at j;refine ad ?_;exact⟨by rw[j],dO (Ext.refl _)⟩
  have P:mG p s=rO s p.vars 0:=by unfold mG;rw[if_neg (by simpa using X)]
  rw[P] at j;refine ad ?_;refine K_ 9 p.vars.length [2,3] (λ_:Unit=>[]) () (λc _ a=>Ext al a/\rO s p.vars 0=rO s (p.vars.drop c) c) aV aV ⟨Ext.refl _,Ah⟩ ?_;rintro c _ aQ aS aT ⟨t,e⟩;replace d:=t.obj d;replace f:=t.obj f;refine ad ?_;apply I_<;>intro aU
  .have u:c<p.vars.length:=AW
   obtain⟨aW,rfl⟩:=y.addr;have an:=((y.at c u).cells).ext (dO t);rw[afg u] at e;refine ad ?_;apply I_<;>intro G;rotate_left
   .rw[if_pos G] at e;refine ad ?_;exact⟨by rw[j,e];rfl,dO t⟩
   rw[if_neg (by simpa using G)] at e;refine ad ?_;refine K_ 10 s.vars.length [2,3,9] (λ_:Unit=>[]) () (λi _ a=>Ext aS a/\∀g (m:g<s.vars.length),g<i->¬s.vars[g].name=p.vars[c].name) aV aV ⟨Ext.refl _,λ_ _ h=>absurd h (Og _)⟩ ?_;rintro i _ aX Q aY ⟨k,H⟩;replace d:=k.obj d;replace f:=k.obj f;have ks:∀{a},Ext Q a->Ext w a:=λb=>dO ((t.trans k).trans b);refine ad ?_;apply I_<;>intro a0
   .have S:i<s.vars.length:=AW
    obtain⟨bK,rfl⟩:=U.addr;have bL:=((U.at i S).cells).ext (ks (Ext.refl _));replace an:=an.ext k;refine ad ?_;intro ao l;replace d:=l.obj d;replace f:=l.obj f;refine ad ?_;apply I_<;>intro I
    .have v:s.vars.any (λn=>decide (n.name=p.vars[c].name))=true:=List.any_eq_true.2 ⟨s.vars[i],ID _,by simpa using I⟩;rw[if_pos v] at e;refine ad ?_;exact⟨by rw[j,e];rfl,ks l⟩
    .refine ad ?_;exact⟨S,aZ,(),trivial,k.trans l,λg m h=>by
      by_cases b:g=i
      .subst b;exact I
      .exact H g m AW⟩
   .have v:¬s.vars.any (λn=>decide (n.name=p.vars[c].name))=true:=by
     intro Y;obtain⟨n,Z,ab⟩:=List.any_eq_true.1 Y;obtain⟨g,m,rfl⟩:=List.mem_iff_getElem.1 Z;exact H g m AW (by simpa using ab)
    rw[if_neg v] at e;refine ad ?_;exact⟨u,aZ,(),trivial,t.trans k,e⟩
  rw[VB AW] at e;replace j:iH p s=mT (o.inner p s) p.cb p.cL p.cL 0:=by rw[j,e];rfl
  clear e P;have a2:∀a,Ext w a->gn a [.slice az s.scalars.length aA,.slice aB s.vars.length bg,.slice aC s.ay.length bj,.slice aD s.procs.length aE,.slice aI p.vars.length aJ,.I p.over] (o.inner p s):=λa b =>
   ⟨(af.inner ag).sQ.1,_,_,_,_,_,rfl,K.ext b,U.ext b,aF.ext b,aG.ext b,y.ext b,(af.inner ag).sQ.2⟩
  refine ad ?_;intro Q bM bN k q;replace d:=k.obj d;replace f:=k.obj f;have ks:∀{a},Ext Q a->Ext w a:=λb=>dO ((t.trans k).trans b);refine ad ?_;refine K_ 12 p.cL.length [2,3,11] (λ_:Unit=>[]) () (λc _ a=>Ext Q a/\mT (o.inner p s) p.cb p.cL p.cL 0=mT (o.inner p s) p.cb p.cL (p.cL.drop c) c) aV aV ⟨Ext.refl _,Ah⟩ ?_;rintro c _ aQ ao aT ⟨l,e⟩;replace d:=l.obj d;replace f:=l.obj f;replace q:=l.obj q;have hh:∀{a},Ext ao a->Ext w a:=λb=>ks (l.trans b);refine ad ?_;apply I_<;>intro aU
  .have u:c<p.cL.length:=AW
   obtain⟨aW,rfl⟩:=C.addr;obtain⟨a5,bO,bP,A,aq,ar⟩:=C.at c u;obtain⟨bR,bV,rfl,bW⟩:=aq.form;obtain⟨bX,bY,rfl,bZ⟩:=ar.form;rw[aan u] at e;replace A:=A.ext (hh (Ext.refl _));refine ad ?_;refine P_ (.tuple #[.I (jP p.cL[c] p.cb (o.inner p s)).1,.I (jP p.cL[c] p.cb (o.inner p s)).2]) (λa b=>awh p.cL[c] _ _ p _ _ _ (o.inner p s) a a5 (aq.ext (hh b)) (ar.ext (hh b)) (y.ext (hh b)) (C.ext (hh b)) (a2 _ (hh b))) ?_;refine ad ?_;intro au B;replace d:=B.obj d;replace f:=B.obj f;replace q:=B.obj q;replace A:=A.ext B;have jc:∀{a},Ext au a->Ext w a:=λb=>hh (B.trans b);refine ad ?_;apply I_<;>intro G;rotate_left
   .rw[if_pos G] at e;refine ad ?_;exact⟨by rw[j,e],jc (Ext.refl _)⟩
   rw[if_neg (by simpa using G)] at e;refine ad ?_;refine K_ 15 c [2,3,11,12] (λ_:Unit=>[]) () (λi _ a=>Ext au a/\∀g (m:g<p.cL.length),g<i->¬p.cL[g].name=p.cL[c].name) aV aV ⟨Ext.refl _,λ_ _ h=>absurd h (Og _)⟩ ?_;rintro i _ aX a6 aY ⟨x,H⟩;replace d:=x.obj d;replace f:=x.obj f;replace q:=x.obj q;have fT:∀{a},Ext a6 a->Ext w a:=λb=>jc (x.trans b);refine ad ?_;apply I_<;>intro a0
   .have S:i<p.cL.length:=AW
    obtain⟨_,b0,b1,av,_,_⟩:=C.at i S;replace av:=av.ext (fT (Ext.refl _));replace A:=A.ext x;refine ad ?_;intro b3 J;replace d:=J.obj d;replace f:=J.obj f;replace q:=J.obj q;refine ad ?_;apply I_<;>intro I
    .have v:(p.cL.take c).any (λn=>decide (n.name=p.cL[c].name))=true:=List.any_eq_true.2 ⟨p.cL[i],by rw[List.mem_iff_getElem];exact⟨i,by simp;omega,Ah⟩,by simpa using I⟩;rw[if_pos v] at e;refine ad ?_;exact⟨by rw[j,e],fT J⟩
    .refine ad ?_;exact⟨AW,aZ,(),trivial,x.trans J,λg m h=>by
      by_cases b:g=i
      .subst b;exact I
      .exact H g m AW⟩
   .have v:¬(p.cL.take c).any (λn=>decide (n.name=p.cL[c].name))=true:=by
     intro Y;obtain⟨n,Z,ab⟩:=List.any_eq_true.1 Y;obtain⟨g,m,rfl⟩:=List.mem_iff_getElem.1 Z;have a7:g<c/\g<p.cL.length:=by simp at m;omega
     exact H g a7.2 AW (by simpa using ab)
    rw[if_neg v] at e;refine ad ?_;exact⟨u,aZ,(),trivial,(l.trans B).trans x,e⟩
  .rw[VB AW] at e;refine ad ?_;exact⟨by rw[j,e];rfl,hh (Ext.refl _)⟩
def awr(cs:C_ B_)(m:o.Model)(k:Nat)(w:A_)(h:eu w cs m)(q:m.cS)(z:k<m.procs.length)(aX:k<=6)(aY:m.scalars.length<=2/\m.vars.length<=12/\m.ay.length<=4)(a0:k<6->∀f,f<k->(jr m f).1=0) :
  EG F.Ni #[.agg cs.toArray,.I k] w λA B=>A=zh (if (jr m k).1≠0 then ⟨(jr m k).1,4,k,(jr m k).2⟩ else vE)/\Ext w B:=by
 have C:=h;obtain⟨a2,a5,a6,bg,a7,bj,a9,ba,bb,bf,rfl,bk,bn,bo,N,bp,br,bt,bu,bw,bx⟩:=h.form;have e:=Q0 z;refine bm E.Ni ?_;refine ad ?_;intro bz bA bB O a;refine ad ?_;intro bC bE bF P b;replace a:=P.obj a;have r:=O.trans P;have bG:=ca a;have bH:=O.size;refine ad ?_;apply I_<;>intro bI
 .rw[if_pos AW] at e;refine ad ?_;intro al an bJ;refine ad ?_;exact⟨by rw[e];rfl,an.ext r AW⟩
 rw[if_neg AW] at e;obtain⟨bK,rfl⟩:=N.addr;obtain⟨ao,bL,dI,G,s,Q⟩:=N.at k z;obtain⟨bM,bN,rfl,bO⟩:=s.form;obtain⟨bP,bR,rfl,bV⟩:=Q.form;have t:=q.proc _ (ID z);replace G:=G.ext r;refine ad ?_;intro al bW bX H c;replace a:=H.obj a;replace b:=H.obj b;refine ad ?_;intro aq u;replace a:=u.obj a;replace b:=u.obj b;replace c:=u.obj c;have I:=(r.trans H).trans u;refine ad ?_;refine J_ (aww (w0:=w) _ m k aq C I q) ?_;rintro _ ar ⟨⟨bY,rfl,S⟩,j⟩;refine⟨j,?_⟩;have l:=I.trans j;obtain⟨bZ,b0,b1,b3,b4,b5,b6,b8,b9,cb,rfl,_⟩:=(S _ l).form;refine ad ?_;refine J_ (aw1 m.procs[k] _ _ (h0 m k) ar ⟨ao,_,_,rfl,s.ext l,Q.ext l⟩ (S _ l) (q.h0 _) t) ?_;rintro _ cc ⟨rfl,v⟩;replace a:=(j.trans v).obj a;replace b:=(j.trans v).obj b;replace c:=(j.trans v).obj c;have U:=l.trans v;clear r I G;have ch:=age m.procs[k] (h0 m k) 140737488351232 λau av=>by have:=(t.cmd au av).b6;unfold eO at this;omega
 have cj:m.procs[k].vars.length<=140737488351232:=by have:=t.vars;unfold eO at this;omega
 have ck:m.procs[k].cL.length<=140737488351232:=by have:=t.cL;unfold eO at this;omega
 refine ad ?_;apply I_<;>intro J;rotate_left
 .rw[if_pos J] at e;refine ad ?_;intro V aw cm;refine ad ?_;exact⟨by rw[e,if_pos J];rfl,aw.ext U AW⟩
 rw[if_neg (by simpa using J)] at e;have ax:∀(d:Int),m.scalars.length+c0 1 4 d m.vars.length+c0 2 4 d m.ay.length+c0 3 4 k m.procs.length+iJ 4 d m.props.length<=8000000000000:=λd=>by
  have az:=yr 1 4 d m.vars.length;have aA:=yr 2 4 d m.ay.length;have aB:c0 3 4 k m.procs.length<=k:=by unfold c0; (repeat' split)<;>omega
  have aC:iJ 4 d m.props.length=0:=by unfold iJ;rw[if_neg Ae]
  omega
 refine ad ?_;intro V x;replace a:=x.obj a;replace b:=x.obj b;replace c:=x.obj c;have W:=U.trans x;refine ad ?_;refine J_ (Fw _ m 4 k V (C.ext W) AW AW (ax k)) ?_;rintro _ aD ⟨⟨A,rfl,K⟩,n⟩;refine⟨n,?_⟩;rw[ajF] at K;replace a:=n.obj a;replace b:=n.obj b;replace c:=n.obj c;have X:=W.trans n;refine ad ?_;refine J_ (GC A _ m.procs[k].name _ aD K) ?_;rintro _ aE ⟨rfl,rfl⟩;refine ad ?_;apply I_<;>intro Y
 .rw[if_pos Y] at e;refine ad ?_;intro aF aG cp;refine ad ?_;exact⟨by rw[e];rfl,aG.ext X AW⟩
 rw[if_neg Y] at e;have cq:m.procs.length*80<=140737488355328:=by have:=q.procs;unfold eO at this;omega
 have aH:m.scalars.length+c0 1 5 (0:Nat) m.vars.length+c0 2 5 (0:Nat) m.ay.length+c0 3 5 (0:Nat) m.procs.length+iJ 5 (0:Nat) m.props.length<=8000000000000:=by
  have az:=yr 1 5 (0:Nat) m.vars.length;have aA:=yr 2 5 (0:Nat) m.ay.length;have aB:=yr 3 5 (0:Nat) m.procs.length;have aC:iJ 5 (0:Nat) m.props.length=0:=by unfold iJ;rw[if_pos Ae];simp
  omega
 have Z:=a;have aI:=b;have ab:=c;clear a b c K;have a:=Z;have c:=ab;refine ad ?_;refine K_ 9 m.procs[k].vars.length [1,2,4,5] (λ_:Unit=>[]) () (λf _ B=>Ext aE B/\∀d,d<f->sl m m.procs[k] d=0) aV aV ⟨Ext.refl _,λf h=>absurd h (Og _)⟩ ?_;clear a c;rintro f _ cr aF ct ⟨p,L⟩;have a:=p.obj Z;have b:=p.obj aI;have c:=p.obj ab;have M:=X.trans p;refine ad ?_;apply I_<;>intro cu
 .have y:f<m.procs[k].vars.length:=AW
  obtain⟨cv,rfl⟩:=s.addr;have ae:=((s.at f y).cells).ext M;have af:=Ej (f:=λaJ:o.Var=>aJ.name) y;refine ad ?_;intro ag g;replace a:=g.obj a;replace b:=g.obj b;replace c:=g.obj c;replace ae:=ae.ext g;have ah:=M.trans g;refine ad ?_;refine J_ (Fw _ m 5 (0:Nat) ag (C.ext ah) AW AW aH) ?_;rintro _ aK ⟨⟨aM,rfl,ai⟩,i⟩;refine⟨i,?_⟩;rw[Zu] at ai;replace a:=i.obj a;replace b:=i.obj b;replace c:=i.obj c;have aP:=ah.trans i;refine ad ?_;refine J_ (GC aM _ m.procs[k].vars[f].name _ aK ai) ?_;rintro _ cw ⟨rfl,rfl⟩;have aQ:tE m 0=j0 m m.procs.length:=by simp[tE]
  rw[aQ];refine ad ?_;apply I_<;>intro aj
  .have ak:sl m m.procs[k] f=7:=by unfold sl;rw[af,if_pos aj]
   rw[kd y L (by rw[ak];decide),ak,if_pos (show(7:Int)≠0 by decide)] at e;refine ad ?_;intro cx aS cB;refine ad ?_;exact⟨by rw[e];rfl,aS.ext aP AW⟩
  .refine ad ?_;refine⟨y,aZ,(),trivial,(p.trans g).trans i,λd aT=>?_⟩;by_cases aU:d=f
   .subst aU;unfold sl;rw[af,if_neg aj]
   .exact L d AW
 .rw[qv λd aT=>L d AW,if_neg Ah] at e;refine ad ?_;intro ag aW cC;refine ad ?_;exact⟨by rw[e];rfl,aW.ext M AW⟩
def aws(cs:C_ B_)(m:o.Model)(k:Nat)(w:A_)(h:eu w cs m)(q:m.cS)(r:k<m.props.length)(ae:k<=8)(af:m.scalars.length<=2/\m.vars.length<=12/\m.ay.length<=4)(ag:m.procs.length<=6) :
  EG F.Nj #[.agg cs.toArray,.I k] w λG e=>G = .I (oD m k)/\Ext w e:=by
 have H:=h;obtain⟨I,J,K,bg,L,bj,M,N,ah,ai,rfl,O,P,Q,S,s,aj,ak,al,an,ao⟩:=h.form;have a:=aa8 r;refine bm E.Nj ?_;refine ad ?_;intro aq ar au i b;refine ad ?_;apply I_<;>intro av
 .rw[if_pos AW] at a;refine ad ?_;exact⟨by rw[a],i⟩
 rw[if_neg AW] at a;obtain⟨aw,rfl⟩:=s.addr;obtain⟨U,ax,t,u⟩:=s.at k r;obtain⟨az,aA,rfl,aB⟩:=u.form;replace t:=t.ext i;refine ad ?_;intro V aC aD v c;replace b:=v.obj b;have W:=i.trans v;refine ad ?_;refine J_ (Ez m.props[k].name V U) ?_;rintro _ aE ⟨rfl,j⟩;replace b:=j.obj b;replace c:=j.obj c;have x:=W.trans j;refine ad ?_;refine N_ (λl=>?_) (λl=>?_);rotate_left
 .rw[if_pos l] at a;refine ad ?_;exact⟨by rw[a],x⟩
 rw[if_neg (by rw[l];decide)] at a;refine ad ?_;intro X n;replace b:=n.obj b;replace c:=n.obj c;have y:=x.trans n;refine ad ?_;refine J_ (Fw _ m 5 k X (H.ext y) AW AW (by
  have aF:=yr 1 5 k m.vars.length;have aG:=yr 2 5 k m.ay.length;have aH:=yr 3 5 k m.procs.length;have aI:iJ 5 k m.props.length<=k:=by unfold iJ; (repeat' split)<;>omega
  omega)) ?_
 rintro _ Y ⟨⟨Z,rfl,z⟩,f⟩;refine⟨f,?_⟩;rw[Zu] at z;replace b:=f.obj b;replace c:=f.obj c;have d:=y.trans f;refine ad ?_;refine J_ (GC Z _ m.props[k].name _ Y z) ?_;rintro _ aJ ⟨rfl,rfl⟩;refine ad ?_;apply I_<;>intro A
 .rw[if_pos A] at a;refine ad ?_;exact⟨by rw[a],d⟩
 rw[if_neg A] at a;have ab:∀e,Ext w e->gn e [.slice I m.scalars.length J,.slice K m.vars.length bg,.slice L m.ay.length bj,.slice M m.procs.length N,.slice none 0 0,.I 0] (fw m):=λe g =>
  ⟨q.scope.sQ.1,_,_,_,_,_,rfl,O.ext g,P.ext g,Q.ext g,S.ext g,a4.nil,q.scope.sQ.2⟩
 refine ad ?_;refine J_ (agC _ m.props[k].expr _ (fw m) _ (u.ext d) (ab _ d)) ?_;rintro _ aK ⟨rfl,p⟩;refine ad ?_;apply I_<;>intro B;rotate_left
 .rw[if_pos B] at a;refine ad ?_;exact⟨by rw[a],d.trans p⟩
 rw[if_neg (by simpa using B)] at a;refine ad ?_;apply I_<;>intro C;rotate_left
 .rw[if_pos C] at a;refine ad ?_;exact⟨by rw[a],d.trans p⟩
 rw[if_neg (by simpa using C)] at a;refine ad ?_;exact⟨by rw[a],d.trans p⟩
def Vc(cs:C_ B_)(m:o.Model)(w:A_)(h:eu w cs m)(Y:m.cS) :
  EG F.Na #[.agg cs.toArray] w λan j=>an=zh (o.check m)/\Ext w j:=by
 have x:=h;obtain⟨aK,aM,aP,bg,aQ,bj,aS,aT,aU,aW,rfl,q,r,k,Z,aX,aY,a0,a2,a5,a6⟩:=h.form;refine bm E.Na ?_;simp -dsimp only[cA];refine eC ?_;intro a7 a9 ba ab c;refine eC ?_;intro ao bb bf L d;replace c:=L.obj c;have ae:=ab.trans L;have bk:=ca c;have bn:=ca d;have bo:=ab.size;refine eC ?_;simp -dsimp only[cA];refine eC ?_;refine J_ (awo _ m ao (x.ext ae)) ?_;rintro _ bp ⟨rfl,B⟩;replace c:=B.obj c;replace d:=B.obj d;unfold zh;have br:=L.size;have bt:=B.size;refine eC ?_;intro af C bu M f;replace c:=M.obj c;replace d:=M.obj d;have N:=(ae.trans B).trans M;have bw:=ca f;have ag:=c;have ah:=d;have bx:=x.ext N;refine eC ?_;refine S_ [1,2,3] (λ_:tP=>[]) (λb j=>Mod (λy=>y=C) af j/\j.heap[C]? = some (.cells #[.I b.bN,.I b.part,.I b.item,.I b.sub] T.v) /\
  ((b.bN≠0/\b=o.check m)\/(b.bN=0/\(o.data m).bN=0/\∀a,a<m.procs.length->(jr m a).1=0))) ?_ ?_
 .refine ad ?_;refine K_ 4 m.procs.length [1,2,3] (λ_:tP=>[]) (o.data m) (λe b j=>Mod (λy=>y=C) af j/\j.heap[C]? = some (.cells #[.I b.bN,.I b.part,.I b.item,.I b.sub] T.v) /\
   ((b=o.data m/\(o.data m).bN≠0)\/((o.data m).bN=0/\b.bN=0/\∀a,a<e->(jr m a).1=0)\/((o.data m).bN=0/\b=oQ m/\(oQ m).bN≠0))) aV aV ⟨Mod.refl _ _,f,by
     by_cases h:(o.data m).bN=0
     .exact .inr (.inl ⟨h,h,λa h=>absurd h (Og _)⟩)
     .exact .inl ⟨rfl,h⟩⟩ ?_
  clear c d f;rintro e b aq O ar ⟨i,f,s⟩;have c:=i.obj AW ag;have d:=i.obj AW ah;have z:=i.ext N (λy au av=>AW);have ai:b.bN≠0->(b.bN≠0/\b=o.check m):=λt=>⟨t,by
   rcases s with ⟨rfl,h⟩ | ⟨_,h,_⟩ | ⟨r,rfl,k⟩
   .rw[o.check,if_pos h]
   .exact absurd h t
   .rw[o.check,if_neg (by simpa using r),if_pos k]⟩
  refine ad ?_;apply I_<;>intro P
  .have n:e<m.procs.length:=AW
   refine ad ?_;apply I_<;>intro G
   .have p:(o.data m).bN=0/\b.bN=0/\∀a,a<e->(jr m a).1=0:=by
     rcases s with ⟨rfl,h⟩ | h | ⟨r,rfl,k⟩
     .exact absurd G h
     .exact h
     .exact absurd G k
    have aw:e<=6:=by
     apply Classical.byContradiction;intro aj
     have:=J8 (m:=m) (i:=6) AW (p.2.2 6 AW)
     omega
    refine ad ?_;refine J_ (awr _ m e O (x.ext z) Y n aw (FY p.1) λ_=>p.2.2) ?_;rintro _ Q ⟨rfl,l⟩;unfold zh;replace c:=l.obj c;replace d:=l.obj d;replace f:=l.obj f;refine ad ?_;intro H A S;refine ad ?_;refine⟨n,aZ,_,trivial,(i.trans l.mod).trans (A.mod rfl),S,?_⟩;by_cases q:(jr m e).1=0
    .rw[if_neg (by simpa using q)];refine .inr (.inl ⟨p.1,rfl,λa u=>?_⟩);by_cases U:a=e
     .subst U;exact q
     .exact p.2.2 a AW
    .rw[if_pos q]
     have:=H3 n p.2.2 q
     exact .inr (.inr ⟨p.1,this.symm,by rw[this];exact q⟩)
   .refine ad ?_;exact⟨b,trivial,i,f,.inl (ai G)⟩
  .refine ad ?_;refine⟨b,trivial,i,f,?_⟩;by_cases t:b.bN=0
   .refine .inr ?_;rcases s with ⟨rfl,h⟩ | ⟨r,k,Z⟩ | ⟨r,rfl,k⟩
    .exact absurd t h
    .exact⟨k,r,λa u=>Z a AW⟩
    .exact absurd t k
   .exact .inl (ai t)
 clear c d f;rintro b aq O ⟨i,f,s⟩;have c:=i.obj AW ag;have d:=i.obj AW ah;have z:=i.ext N (λy au av=>AW);refine ad ?_;apply I_<;>intro P;rotate_left
 .have g:b=o.check m:=by
   rcases s with ⟨_,h⟩ | ⟨h,_⟩
   .exact h
   .exact absurd h P
  refine ad ?_;intro Q ax bz;refine ad ?_;exact⟨by rw[g],ax.ext z AW⟩
 have az:(o.data m).bN=0/\∀a,a<m.procs.length->(jr m a).1=0:=by
  rcases s with ⟨h,_⟩ | ⟨_,h⟩
  .exact absurd P h
  .exact h
 obtain⟨ak,V⟩:=az;have aA:=FY ak;have aB:m.procs.length<=6:=by
  apply Classical.byContradiction;intro aj
  have:=J8 (i:=6) AW (V 6 AW)
  omega
 have aC:wN m:=⟨AW,AW,AW,λbA aD=>by
  obtain⟨a,u,rfl⟩:=List.mem_iff_getElem.1 aD
  have:=UZ (Dg u (V a u)).2.1
  omega⟩
 have v:=U1 V;have g:o.check m=if (oQ m).bN≠0 then oQ m else rR m:=by rw[o.check,if_neg (by simpa using ak)]
 clear f;refine ad ?_;refine J_ (awq _ m O (x.ext z) aC) ?_;rintro _ Q ⟨rfl,l⟩;replace c:=l.obj c;replace d:=l.obj d;have W:=z.trans l;refine ad ?_;apply I_<;>intro G
 .rw[if_pos (.inl AW)] at v;rw[v,if_pos (show(11:Int)≠0 by decide)] at g;refine ad ?_;intro H A S;refine ad ?_;exact⟨by rw[g];rfl,A.ext W AW⟩
 refine ad ?_;apply I_<;>intro bB
 .rw[if_pos (.inr AW)] at v;rw[v,if_pos (show(11:Int)≠0 by decide)] at g;refine ad ?_;intro H A S;refine ad ?_;exact⟨by rw[g];rfl,A.ext W AW⟩
 rw[if_neg AW] at v;rw[v,if_neg (by simp[vE])] at g;have aE:=c;have aF:=d;refine ad ?_;refine K_ 8 m.props.length [1,2] (λ_:Unit=>[]) () (λe _ j=>Ext Q j/\∀a,a<e->oD m a=0) aV aV ⟨Ext.refl _,λa h=>absurd h (Og _)⟩ ?_;clear c d;rintro e _ bC H ar ⟨I,J⟩;have c:=I.obj aE;have d:=I.obj aF;have X:=W.trans I;refine ad ?_;apply I_<;>intro bE
 .have n:e<m.props.length:=AW
  have aG:e<=8:=by
   apply Classical.byContradiction;intro aj
   have:=amA (m:=m) (i:=8) AW (J 8 AW)
   omega
  refine ad ?_;refine J_ (aws _ m e H (x.ext X) Y n aG aA aB) ?_;rintro _ aH ⟨rfl,K⟩;replace c:=K.obj c;replace d:=K.obj d;refine ad ?_;apply I_<;>intro al;rotate_left
  .rw[agf n J al] at g;refine ad ?_;intro bF aI bG;refine ad ?_;exact⟨by rw[g];rfl,aI.ext (X.trans K) AW⟩
  .refine ad ?_;refine⟨n,aZ,(),trivial,I.trans K,λa u=>?_⟩;by_cases U:a=e
   .subst U;simpa using al
   .exact J a AW
 .rw[U2 λa u=>J a AW] at g;refine ad ?_;intro aH aJ bH;refine ad ?_;exact⟨by rw[g];rfl,aJ.ext X AW⟩
end Go.Proofs.R
namespace a8
open Go Go.RowKit
def wA(l:C_ ByteArray):C_ (ByteArray×B_):=l.map λa=>(a,.bool true)
theorem axq(l:C_ ByteArray)(x:ByteArray):((wA l).find? (λb=>decide (x=b.1))).map (·.2)=if x∈l then some (.bool true) else none:=by
 induction l with
 | nil=>rfl
 | cons c l d =>
  simp only[wA,List.map_cons,List.find?_cons,List.mem_cons];by_cases a:x=c
  .simp[a]
  .simp only[a,decide_false,false_or];exact d
structure CJ(es:Array MapEntry)(c:Nat)(L:List ByteArray):Prop where
 TX:∃l,mN Value.string es.toList (wA l)/\∀x,x∈l↔x∈L
 born:∀e∈es.toList,e.born<c
 nodup:(es.toList.map (·.born)).Nodup
theorem mN.mem{l:C_ ByteArray}:∀{es:C_ MapEntry},mN Value.string es (wA l)->∀c∈es,∃d∈l,c.key = .string d/\c.val = .bool true:=by
 induction l with
 | nil=>intro es a c b;cases es with | nil=>cases b | cons _ _=>simp[mN,wA] at a
 | cons e l f =>
  intro es a c b;cases es with
  | nil=>cases b
  | cons i es =>
   simp only[mN,wA,List.map_cons,List.cons.injEq,Prod.mk.injEq] at a;rcases List.mem_cons.1 b with rfl | b
   .exact⟨e,Ah,a.1.1,a.1.2⟩
   .obtain⟨d,g,h⟩:=f (es:=es) a.2 c b;exact⟨d,by simp[g],h⟩
theorem mN.UM{l:C_ ByteArray}:∀{es:C_ MapEntry},mN Value.string es (wA l)->∀c∈l,∃d∈es,d.key = .string c:=by
 induction l with
 | nil=>intro es a c b;cases b
 | cons h l e =>
  intro es a c b;cases es with
  | nil=>simp[mN,wA] at a
  | cons f es =>
   simp only[mN,wA,List.map_cons,List.cons.injEq,Prod.mk.injEq] at a;rcases List.mem_cons.1 b with rfl | b
   .exact⟨f,Ah,a.1.1⟩
   .obtain⟨d,he,g⟩:=e (es:=es) a.2 c b;exact⟨d,by simp[he],g⟩
def CJ.mem{es:Array MapEntry}{c:Nat}{d:C_ ByteArray}(h:CJ es c d):∀a∈es.toList,∃b∈d,a.key = .string b/\a.val = .bool true:=λa e=>by
 obtain⟨k,f,g⟩:=h.TX;obtain⟨b,i,j⟩:=f.mem a e;exact⟨b,(g b).1 i,j⟩
def CJ.UM{es:Array MapEntry}{c:Nat}{b:C_ ByteArray}(h:CJ es c b):∀a∈b,∃d∈es.toList,d.key = .string a:=λa e=>by
 obtain⟨i,f,g⟩:=h.TX;exact f.UM a ((g a).2 e)
theorem abn{d:TypeDesc}{k:B_}:∀{f:C_ MapEntry} {b c:Nat} {g:B_},Instr.findNow d k f b=some (some (c,g))->b<=c/\∃e,f[c - b]? = some e/\Instr.sameNow d k e.key=some true
 | [],b,c,g,a=>by simp[Instr.findNow] at a
 | e :: f,b,c,g,a=>by
  unfold Instr.findNow at a;split at a
  .rename_i j;injection a with a;injection a with a;injection a with h i
   subst h;exact⟨Fy _,e,Ah,j⟩
  .obtain⟨h,l,i,m⟩:=abn a;refine⟨AW,l,?_,m⟩;rw[show c - b=(c - (b+1))+1 from AW,List.getElem?_cons_succ];exact i
  .cases a
def atI{es:Array MapEntry}{j:Nat}{e:MapEntry}{f:MapEntry->MapEntry}(b:es[j]? = some e)(c:f e=e):es.modify j f=es:=by
 apply Array.ext_getElem?;intro d;rw[Array.getElem?_modify];by_cases a:j=d
 .subst a;rw[if_pos rfl,b,AI3,c]
 .rw[if_neg a]
def gp(w:A_)(b:Nat)(d:C_ ByteArray):Prop := ∃a c,w.heap[b]? = some (.map a c)/\CJ a c d
theorem gp.of{w w':A_}{b:Nat}{a:C_ ByteArray}(h:gp w b a)(e:w'.heap[b]? = w.heap[b]?):gp w' b a:=let ⟨es,c,d,f⟩:=h; ⟨es,c,e.trans d,f⟩
def gp.lt{w:A_}{b:Nat}{a:C_ ByteArray}(h:gp w b a):b<w.heap.size:=let ⟨_,_,c,_⟩:=h;ca c
theorem gp.ext{w w':A_}{b:Nat}{a:C_ ByteArray}(h:gp w b a)(e:Ext w w'):gp w' b a:=h.of (e.heap h.lt)
def gp.wr{w w':A_}{b k:Nat}{a:C_ ByteArray}(h:gp w b a)(e:dY k w w')(c:b≠k):gp w' b a:=h.of (e.block b c)
def gp.j2{w:A_}{b:Nat}{c d:C_ ByteArray}(h:gp w b c)(e:∀a,a∈c↔a∈d):gp w b d:=by
 obtain⟨f,g,i,⟨⟨j,k,l⟩,m,n⟩⟩:=h;exact⟨f,g,i,⟨⟨j,k,λa=>(l a).trans (e a)⟩,m,n⟩⟩
def gp.empty{w:A_}{b:Nat}(h:w.heap[b]? = some (.map #[] 0)):gp w b []:=⟨_,_,h,⟨⟨[],rfl,λ_=>Iff.rfl⟩,λc a=>by simp at a,Ah⟩⟩
def gp.look{w:A_}{b:Nat}{f:C_ ByteArray}(h:gp w b f)(x:ByteArray):∃a d,tS w (.map (some b)) a/\Instr.findNow .string (.string x) a.toList 0=some d/\po (.bool false) false d = .bool (decide (x∈f)):=by
 obtain⟨a,i,j,⟨⟨m,k,g⟩,_,_⟩⟩:=h;obtain⟨d,l,c⟩:=F8 Ov x a.toList _ 0 k;rw[axq] at c;refine⟨a,d,.inr ⟨b,i,rfl,j⟩,l,?_⟩;by_cases e:x∈f
 .rw[if_pos ((g x).2 e)] at c;simp[po,c,e]
 .rw[if_neg (λh=>e ((g x).1 h))] at c;simp[po,c,e]
theorem gp.put{w:A_}{b:Nat}{l:C_ ByteArray}(h:gp w b l)(x:ByteArray):∃a c m,w.heap[b]? = some (.map a c)/\Instr.findNow .string (.string x) a.toList 0=some m /\
  ∀g:A_,g.heap[b]? = some (uX a c (.string x) (.bool true) m)->gp g b (l++[x]):=by
 obtain⟨a,c,y,f⟩:=h;obtain⟨n,i,p⟩:=f.TX;obtain⟨q,r,L⟩:=F8 Ov x a.toList _ 0 i;refine⟨a,c,q,y,r,λg s=>?_⟩;cases q with
 | none =>
  refine⟨_,_,s,⟨⟨n++[x],?_,λj=>?_⟩,?_,?_⟩⟩
  .have:=mN.push i x (.bool true) c
   simpa[wA] using this
  .simp[p j]
  .intro d e;simp only[Array.toList_push,List.mem_append,List.mem_singleton] at e;rcases e with e | rfl
   .have:=f.born d e;omega
   .show c<c+1;omega
  .simp only[Array.toList_push,List.map_append,List.map_cons,List.map_nil];rw[List.nodup_append];refine⟨f.nodup,Ah,λM z N A=>?_⟩;obtain⟨d,e,rfl⟩:=List.mem_map.1 z;simp only[List.mem_singleton] at A
   have:=f.born d e
   omega
 | some B =>
  obtain⟨t,O⟩:=B;obtain⟨_,d,e,u⟩:=abn r;have C:d∈a.toList:=List.mem_of_getElem? e;obtain⟨j,G,k,v⟩:=f.mem d C;have H:x=j:=by rw[k,Ov] at u;simpa using u
  subst H;have I:a.modify t (λd=>{ d with key:=.string x,val:=.bool true })=a:=atI (e:=d) (by simpa using e) (by cases d;simp only at k v;subst k v;rfl);have J:g.heap[b]? = some (.map a c):=by rw[s];show some (Obj.map (a.modify t _) c)=_;rw[I]
  exact⟨a,c,J,⟨⟨n,i,λK=>by rw[p K];simp;rintro rfl;exact G⟩,f.born,f.nodup⟩⟩
def oX(w:A_)(r b:Nat)(h D:C_ ByteArray)(n:Nat)(cur:H_ ByteArray):Prop :=
 ∃d e f seen g,w.heap[b]? = some (.map d e)/\CJ d e h/\w.heap[r]? = some (.mapIter (some b) f seen g)/\(∀a∈d.toList,a.born<f)/\f<=g/\f<=e/\(leftOf d seen).size=n /\
  (∀c∈d.toList,seen.contains c.born=true->∃a∈D,c.key = .string a)/\(∀a∈D,a∈h)/\(∀a,cur=some a->∃(i:Array Nat) (c:MapEntry),g=e/\seen=i.push c.born/\c∈d.toList/\c.key = .string a/\c.val = .bool true)
theorem oX.of{w w':A_}{r b:Nat}{a D:C_ ByteArray}{n:Nat}{cur:H_ ByteArray}(h:oX w r b a D n cur)(c:w'.heap[b]? = w.heap[b]?)(d:w'.heap[r]? = w.heap[r]?):oX w' r b a D n cur :=
 let ⟨es,e,since,seen,f,g,i,j,k⟩:=h; ⟨es,e,since,seen,f,c.trans g,i,d.trans j,k⟩
def oX.sub{w:A_}{r b:Nat}{a D:C_ ByteArray}{n:Nat}{cur:H_ ByteArray}(h:oX w r b a D n cur):∀c∈D,c∈a:=let ⟨_,_,_,_,_,_,_,_,_,_,_,_,_,d,_⟩:=h;d
def oX.ne{w:A_}{r b:Nat}{c D:C_ ByteArray}{n:Nat}{cur:H_ ByteArray}(h:oX w r b c D n cur):r≠b:=by
 obtain⟨f,g,i,seen,j,d,k,a,l⟩:=h;intro e;rw[e,d] at a;cases a
def oX.lt{w:A_}{r b:Nat}{a D:C_ ByteArray}{n:Nat}{cur:H_ ByteArray}(h:oX w r b a D n cur):r<w.heap.size:=by
 obtain⟨d,e,f,seen,g,i,j,c,k⟩:=h;exact ca c
def oX.wr{w w':A_}{r b k:Nat}{a D:C_ ByteArray}{n:Nat}{cur:H_ ByteArray}(h:oX w r b a D n cur)(e:dY k w w')(c:b≠k)(d:r≠k):oX w' r b a D n cur:=h.of (e.block b c) (e.block r d)
def ay1(k:Nat)(w:A_):dY k w w.drew:=⟨rfl,rfl,rfl,rfl,λ_ _=>rfl⟩
section
variable{P:Program}{cI:Value->World->Prop}{S:Fr}{w:World}{iB:World->Prop}{a9:Value->Prop}
def AA4{b:Nat}{a:C_ ByteArray}{x:ByteArray}{t}(h:gp w b a)(c:a9 (.bool (decide (x∈a)))):I6 .string (.bool false) false (.map (some b)) (.string x) w a9 t:=by
 obtain⟨g,i,d,e,f⟩:=h.look x;exact _t d e (by rw[f];exact c)
def _z{b:Nat}{c:C_ ByteArray}{x:ByteArray}{t}(h:gp w b c)(e:∀a,dY b w a->gp a b (c++[x])->iB a):Fh .string (.map (some b)) (.string x) (.bool true) w iB t:=by
 obtain⟨i,j,k,d,f,g⟩:=h.put x;exact _2 d f (e _ (dY.fZ w b _) (g _ (Ik (ca d))))
def AC3{b:Nat}{i:C_ ByteArray}{x:G_}{d k e n:F_}{t}(c:bq S x = .map (some b))(p:P.underlying d=some (.map k e))(h:gp w b i)
  (q:∀f g r,w.heap.size<=g->Ext w f->oX f g b i [] r none->cI (.pointer (some ⟨g,0,none⟩)) f):wS P (.range d x) n S w cI t:=by
 obtain⟨j,a,l,m⟩:=h;have s:=run_range_map (P:=P) w d k e b j a p l;refine _X (v:=.pointer (some ⟨w.heap.size,0,none⟩)) (w':=w.alloc (.mapIter (some b) a #[] a)) (by simp[execOp,c,s,Result.andThen]) ?_;refine q _ _ _ (Fy _) ((Ext.refl w).alloc _) ⟨j,a,a,#[],a,heap_alloc_old l,m,heap_alloc_new w _,m.born,Fy _,Fy _,rfl,?_,?_,?_⟩
 .intro e _ h;simp at h
 .intro x c;cases c
 .intro x c;cases c
def AC4{r b n:Nat}{p D:C_ ByteArray}{cur:H_ ByteArray}{x:G_}{B:F_}{t}(C:bq S x = .pointer (some ⟨r,0,none⟩))(h:oX w r b p D n cur)
  (U:(∀d∈p,d∈D)->cI (.tuple #[.bool false]) w)
  (V:∀d e G,d∈p->G<n->dY r w e->oX e r b p (D++[d]) G (some d)->cI (.tuple #[.bool true,.string d,.bool true]) e):wS P (.next x false) B S w cI t:=by
 have W:=h.ne;obtain⟨f,g,j,seen,X,H,k,I,J,Y,K,Z,L,ab,_⟩:=h;rcases run_next_at (P:=P) w B r b j X seen f g I H J Y with ⟨c,q⟩ | ⟨a,l,e,M,q⟩
 .refine _X (v:=.tuple #[.bool false]) (w':=w) (by simp[execOp,C,q,Result.andThen]) (U λd s=>?_);obtain⟨a,l,m⟩:=k.UM d s;obtain⟨z,ae,u⟩:=L a l (all_seen f seen c a l);rw[m] at u;injection u with u
  rw[u];exact ae
 .obtain⟨A,al⟩:=mem_left l;obtain⟨d,s,m,N⟩:=k.mem a A;have O:dY r w e:=by
   rcases M with rfl | rfl
   .exact dY.refl _ _
   .exact ay1 r w
  have af:e.heap.size=w.heap.size:=O.size;have ag:r<e.heap.size:=by rw[af];exact ca I
  have ah:Go.ChangeMaps.setBlock e r (.mapIter (some b) j (seen.push a.born) g)=a8.fZ e r (.mapIter (some b) j (seen.push a.born) g):=rfl;rw[ah] at q;refine _X (v:=.tuple #[.bool true,a.key,a.val]) (w':=fZ e r (.mapIter (some b) j (seen.push a.born) g)) (by simp[execOp,C,q,Result.andThen]) ?_;rw[m,N];refine V d _ _ s (Nat.lt_of_lt_of_eq (left_shrinks f seen a l) Z) (O.trans (dY.fZ _ _ _)) ⟨f,g,j,seen.push a.born,g,?_,k,Ik ag,J,K,K,rfl,λv Q i=>?_,λz c=>?_,λz c=>?_⟩
  .rw[Vx (Ne.symm W)];rcases M with rfl | rfl<;>exact H
  .rw[contains_push] at i;rcases Bool.or_eq_true_iff.1 i with i | i
   .obtain⟨x,ai,aj⟩:=L v Q i;exact⟨x,by simp[ai],aj⟩
   .have ak:v.born=a.born:=by simpa using i
    have y:=find_born v f.toList k.nodup Q;rw[ak,find_born a f.toList k.nodup A] at y;injection y with y
    have:v=a:=y.symm
    subst this;exact⟨d,Ah,m⟩
  .rcases List.mem_append.1 c with c | c
   .exact ab z c
   .simp only[List.mem_singleton] at c;subst c;exact s
  .injection c with c
   subst c;exact⟨seen,a,rfl,rfl,A,m,N⟩
def AC5{r b n:Nat}{c D:C_ ByteArray}{y:ByteArray}{x:G_}{d:F_}{t}(e:bq S x = .pointer (some ⟨r,0,none⟩))(h:oX w r b c D n (some y))
  (f:cI (.tuple #[.string y,.bool true]) w):wS P (.entry x) d S w cI t:=by
 obtain⟨g,A,i,seen,j,k,l,m,B,C,G,H,I,J,p⟩:=h;obtain⟨q,a,rfl,rfl,s,u,v⟩:=p y rfl;have z:(Instr.entry (.pointer (some ⟨r,0,none⟩))).run P w = .ok (.tuple #[a.key,a.val]) w:=run_entry_at w r b i q g j a m k s l.nodup;refine _X (v:=.tuple #[a.key,a.val]) (w':=w) (by simp[execOp,e,z,Result.andThen]) ?_;rw[u,v];exact f
end
end a8
namespace Go.Proofs.R
open Go Go.RowKit a8
def yq(f:o.tP):C_ PanicEntry:=[{ v:=.iface T.j9 (.agg #[.int .i64 f.bN,.int .i64 f.part,.int .i64 f.item,.int .i64 f.sub]),recovered:=false }]
def sR(e p i s:Int)(w:A_):r6 Tryz.prog F.a #[.I e,.I p,.I i,.I s] w (λ_ a=>e=0/\a=w) (λc a=>e≠0/\c=yq ⟨e,p,i,s⟩/\a=w):=by
 refine _q kB E.a CS (args:=[_,_,_,_]) (Nat.le_of_ble_eq_true rfl) ?_;dsimp only[C.a];refine ow ?_;refine ad ?_;refine I_ (λb=>?_) (λb=>?_)
 .refine ad ?_;exact⟨b,aZ⟩
 .refine ad ?_;exact⟨b,aZ,aZ⟩
def OO(b:Nat)(a:C_ ByteArray)(x:ByteArray)(p i:Int)(w:A_)(h:gp w b a):r6 Tryz.prog F.f #[.map (some b),.string x,.I p,.I i] w
  (λ_ c => ¬x∈a/\dY b w c/\gp c b (a++[x])) (λe c=>x∈a/\e=yq ⟨7,p,i,0⟩/\c=w):=by
 refine _q kB E.f CS (args:=[_,_,_,_]) (Nat.le_of_ble_eq_true rfl) ?_;dsimp only[C.f];refine ow ?_;refine ad ?_;refine AA4 h ?_;refine ad ?_;refine I_ (λd=>?_) (λd=>?_)
 .refine ad ?_;refine U_ (sR 7 p i 0 w) ?_ ?_
  .rintro _ _ ⟨f,_⟩;exact absurd f Ae
  .rintro e _ ⟨_,rfl,rfl⟩;refine ad ?_;exact⟨d,aZ,aZ⟩
 .refine ad ?_;refine _z h λk g j=>?_;refine ad ?_;exact⟨d,g,j⟩
end Go.Proofs.R
namespace Go.Proofs.R
open Go Go.RowKit a8 o
structure k4(w0 w:World)(b4 bf:Nat)(cs:List Value)(w':World)(L:List ByteArray):Prop where
 ext:Ext w0 w'
 mod:Mod (λk=>k=b4) w w'
 box:w'.heap[bf]? = some (.cells cs.toArray T.h)
 set:gp w' b4 L
 low:w0.heap.size<=b4
 ne:bf≠b4
section
variable{w0 w w' bx:World}{b4 bf:Nat}{cs:List Value}{L Au:List ByteArray}
theorem k4.then(h:k4 w0 w b4 bf cs w' L)(a:Ext w' bx):k4 w0 w b4 bf cs bx L:=⟨h.ext.trans a,h.mod.trans a.mod,a.obj h.box,h.set.ext a,h.low,h.ne⟩
def k4.wr(h:k4 w0 w b4 bf cs w' L)(a:dY b4 w' bx)(b:gp bx b4 Au):k4 w0 w b4 bf cs bx Au:=⟨a.ext h.ext h.low,h.mod.trans (a.mod rfl),a.obj h.box h.ne,b,h.low,h.ne⟩
def k4.j2(h:k4 w0 w b4 bf cs w' L)(e:L=Au):k4 w0 w b4 bf cs w' Au:=e ▸ h
end
def anO{w0:A_}(cs:C_ B_)(m:o.Model)(i:Nat)(w:A_)(h:eu w0 cs m)(au:Ext w0 w)(av:w0.heap.size<=i)(N:gZ w0)(O:gp w i []) :
  r6 Tryz.prog F.ta #[.agg cs.toArray,.map (some i)] w (λ_ d=>(o.data m).bN=0/\Ext w0 d/\Mod (λa=>a=i) w d/\gp d i (oO m m.ay.length))
   (λu d=>(o.data m).bN≠0/\u=yq (o.data m)/\Ext w0 d/\Mod (λa=>a=i) w d):=by
 obtain⟨aM,aP,aQ,bg,aS,bj,aT,aU,aW,aX,rfl,I,af,ag,aY,a0,a2,a5,a6,a7,a9⟩:=h.form;refine _q kB E.ta CS (args:=[_,_]) (Nat.le_of_ble_eq_true rfl) ?_;dsimp only[C.ta];refine ow ?_;refine ad ?_;intro ah J ba P e;have q:k4 w0 w i J _ ah []:=⟨au.trans P,P.mod,e,O.ext P,av,by have:=O.lt;omega⟩;clear O;refine ad ?_;refine J_ (axo _ m.scalars ah (N.ext q.ext) (I.ext q.ext)) ?_;rintro _ aw ⟨rfl,ai⟩;replace q:=q.then ai;clear e;refine ad ?_;refine U_ (sR (o.scalars m.scalars).2 1 (o.scalars m.scalars).1 0 aw) ?_ ?_;rotate_left
 .rintro u _ ⟨aj,rfl,rfl⟩;refine ad ?_;rw[aaD aj];exact⟨aj,rfl,q.ext,q.mod⟩
 rintro _ _ ⟨z,rfl⟩;have e:=q.box;refine ad ?_;refine K_ 24 m.scalars.length [1,2,22,23] (λ_:Unit=>[]) () (λa _ d=>k4 w0 w i J _ d ((m.scalars.take a).map (·.name))) aV aV (q.j2 Ah) ?_;clear e ai q;rintro a _ bb ax ak n;have e:=n.box;have K:=n.ext;refine ad ?_;apply I_<;>intro al
 .have c:a<m.scalars.length:=AW
  obtain⟨an,rfl⟩:=I.addr;refine ad ?_;intro az bf bk L bn;have ao:=n.then L;refine ad ?_;refine _z ao.set λaq aA aB=>?_;refine ad ?_;exact⟨c,aZ,(),trivial,(ao.wr aA aB).j2 (EM _ _ c).symm⟩
 replace n:=n.j2 (show _=tF m 0 by rw[Im AW];simp);refine ad ?_;refine J_ (aiw _ _ m.vars m.scalars 12 ax (N.ext K) (af.ext K) (I.ext K)) ?_;rintro _ az ⟨rfl,L⟩;replace n:=n.then L;clear e K;have e:=n.box;rw[ayB];refine ad ?_;refine K_ 43 m.vars.length [1,2,4,5,41,42] (λ_:Unit=>[]) () (λa _ d=>k4 w0 w i J _ d (tF m a)/\∀b,b<a->kA m b=0) aV aV ⟨n,λb h=>absurd h (Og _)⟩ ?_;clear e n L;rintro a _ aC aq ak ⟨p,j⟩;have e:=p.box;have M:=p.ext;refine ad ?_;apply I_<;>intro al
 .have c:a<m.vars.length:=AW
  obtain⟨an,rfl⟩:=af.addr;have A:=Ej (f:=λr:o.Var=>r.name) c;refine ad ?_;intro aD aE Q B S;refine eC ?_;intro v U aF;have x:=U.ext B Q;have f:=p.then x;replace e:=f.box;clear S B;refine eC ?_;refine S_ [1,2,4,5,8,9,41,42,43] (λ_:Unit=>[]) (λ_ d=>d=v/\pw m a=0) ?_ ?_
  .refine ad ?_;apply I_<;>intro V
   .refine ad ?_;refine U_ (sR (o.first m.vars.length (pw m)).2 2 a 0 v) ?_ ?_
    .rintro _ _ ⟨g,rfl⟩;refine ad ?_;exact⟨(),trivial,aZ,vF g a c⟩
    .rintro u _ ⟨g,rfl,rfl⟩;obtain⟨W,aG,aH,G⟩:=abp g;obtain rfl:a=W:=AW
     rw[G] at g;have k:kA m a=pw m a:=by unfold kA;rw[if_pos g]
     have l:=JR z c j (by rw[k];exact g);rw[k] at l;refine ad ?_;rw[l,G];exact⟨g,aZ,f.ext,f.mod⟩
   .refine ad ?_;refine⟨(),trivial,aZ,?_⟩;apply Classical.byContradiction;intro X;apply V;rw[kd c (λb s=>O2 (j b s)) X]
  rintro _ aI _ ⟨rfl,H⟩;refine ad ?_;refine U_ (OO i (tF m a) m.vars[a].name 2 a _ f.set) ?_ ?_
  .rintro _ ar ⟨t,Y,Z⟩;refine ad ?_;refine⟨c,aZ,(),trivial,(f.wr Y Z).j2 (by simp only[tF,B0];rw[EM (λr:o.Var=>r.name) _ c,VA]),λb s=>?_⟩;by_cases ab:b=a
   .subst ab;unfold kA;rw[if_neg (by simpa using H),A,if_neg t]
   .exact j b AW
  .rintro u _ ⟨t,rfl,rfl⟩;have k:kA m a=7:=by unfold kA;rw[if_neg (by simpa using H),A,if_pos t]
   have l:=JR z c j (by rw[k];decide);rw[k] at l;refine ad ?_;rw[l];exact⟨(show(7:Int)≠0 by decide),aZ,f.ext,f.mod⟩
 have aJ:m.vars.length<=a:=AW
 have ae:∀b,b<m.vars.length->kA m b=0:=λb s=>j b AW;replace p:=p.j2 (show _=oO m 0 by simp only[oO,tF,B0,BZ];rw[Im aJ];simp);refine ad ?_;refine J_ (alk _ _ m.ay m.scalars aq (N.ext M) (ag.ext M) (I.ext M)) ?_;rintro _ v ⟨rfl,x⟩;replace p:=p.then x;clear e M;have e:=p.box;rw[alj];refine ad ?_;refine K_ 71 m.ay.length [1,2,4,5,69,70] (λ_:Unit=>[]) () (λa _ d=>k4 w0 w i J _ d (oO m a)/\∀b,b<a->lB m b=0) aV aV ⟨p,λb h=>absurd h (Og _)⟩ ?_;clear e p x;rintro a _ aC ar ak ⟨y,j⟩;have e:=y.box;have bo:=y.ext;refine ad ?_;apply I_<;>intro al
 .have c:a<m.ay.length:=AW
  obtain⟨an,rfl⟩:=ag.addr;have A:=Ej (f:=λr:ed=>r.name) c;refine ad ?_;intro aD aE Q B S;refine eC ?_;intro v U aF;have x:=U.ext B Q;have f:=y.then x;replace e:=f.box;clear S B;refine eC ?_;refine S_ [1,2,4,5,10,11,69,70,71] (λ_:Unit=>[]) (λ_ d=>d=v/\o5 m a=0) ?_ ?_
  .refine ad ?_;apply I_<;>intro V
   .refine ad ?_;refine U_ (sR (o.first m.ay.length (o5 m)).2 3 a 0 v) ?_ ?_
    .rintro _ _ ⟨g,rfl⟩;refine ad ?_;exact⟨(),trivial,aZ,vF g a c⟩
    .rintro u _ ⟨g,rfl,rfl⟩;obtain⟨W,aG,aH,G⟩:=abp g;obtain rfl:a=W:=AW
     rw[G] at g;have k:lB m a=o5 m a:=by unfold lB;rw[if_pos g]
     have l:=JQ z ae c j (by rw[k];exact g);rw[k] at l;refine ad ?_;rw[l,G];exact⟨g,aZ,f.ext,f.mod⟩
   .refine ad ?_;refine⟨(),trivial,aZ,?_⟩;apply Classical.byContradiction;intro X;apply V;rw[kd c (λb s=>JG (j b s)) X]
  rintro _ aI _ ⟨rfl,H⟩;refine ad ?_;refine U_ (OO i (oO m a) m.ay[a].name 3 a _ f.set) ?_ ?_
  .rintro _ ar ⟨t,Y,Z⟩;refine ad ?_;refine⟨c,aZ,(),trivial,(f.wr Y Z).j2 (by simp only[oO,BZ];rw[EM (λr:ed=>r.name) _ c,VA]),λb s=>?_⟩;by_cases ab:b=a
   .subst ab;unfold lB;rw[if_neg (by simpa using H),A,if_neg t]
   .exact j b AW
  .rintro u _ ⟨t,rfl,rfl⟩;have k:lB m a=7:=by unfold lB;rw[if_neg (by simpa using H),A,if_pos t]
   have l:=JQ z ae c j (by rw[k];decide);rw[k] at l;refine ad ?_;rw[l];exact⟨(show(7:Int)≠0 by decide),aZ,f.ext,f.mod⟩
 have aK:m.ay.length<=a:=AW
 refine ad ?_;refine⟨by rw[aaC z ae λb s=>j b AW];rfl,y.ext,y.mod,(y.j2 ?_).set⟩;simp only[oO,BZ];rw[Im aK,Im (Fy _)]
end Go.Proofs.R