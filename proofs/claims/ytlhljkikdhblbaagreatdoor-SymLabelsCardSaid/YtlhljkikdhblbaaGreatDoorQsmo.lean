/- Parts. -/
import Derived.Test.YtlhljkikdhblbaaGreatDoorQsmn
set_option linter.all false
set_option maxRecDepth 4000
set_option maxHeartbeats 16000000
namespace Go.Proofs.R
open Go Go.RowKit ba o
def FD(v:B_)(l:C_ Int)(n:Int)(w:A_)(a:pE w v l):EL F.bB #[v,.I n] w λv b=>v = .tuple #[.I (g1 l n).1,.I (g1 l n).2]/\b=w:=by
 obtain⟨d,e,rfl,f⟩:=a.form;refine bn E.bB ?_;refine aO ?_;apply I_<;>intro c
 .refine aO ?_;rw[g1,hv (.inl c)];exact⟨rfl,trivial⟩
 refine aO ?_;apply I_<;>intro g
 .refine aO ?_;rw[g1,hv (.inr AY)];exact⟨rfl,trivial⟩
 obtain⟨h,rfl⟩:=Uh (show 0<=n by omega);obtain⟨i,rfl⟩:=a.addr;refine aO ?_;rw[g1,ik AY AY];simp only[Int.toNat_natCast];exact⟨aV,trivial⟩
def ay7(l:C_ Int)(b:l.length<=9223372036854775807)(n:Int)(h:ev n):o.nth l (IntKind.i64.wrap (n - 1))=o.nth l (n - 1):=by
 obtain⟨c,d⟩:=h;by_cases a:n = -9223372036854775808
 .subst a
  have:IntKind.i64.wrap (-9223372036854775808 - 1)=9223372036854775807:=Ae
  rw[this,hv (.inr AY),hv (.inl AY)]
 .rw[IntWalk.i64_in (n - 1) AY]
def azc(x:o.Node)(cs:C_ B_)(v:o.Env)(base b:Nat)(w:A_)(m:B_)(st:C_ Int)(P:x.ok)(h:q0 w cs v)(Q:rT base b w m st)(S:x.op=3->0<st.length)(U:∀V∈st,ev V) :
  EL F.aS #[.pointer (some ⟨b,0,none⟩),.agg x.enc.toArray,.agg cs.toArray] w λW e=>W = .tuple #[.I (fq x v (st.getLastD 0)).1,.I (fq x v (st.getLastD 0)).2]/\Ext w e:=by
 obtain⟨au,av,aw,bg,ax,bj,ay,az,rfl,y,X,Y,z,aB,aC,aD,aE,aF⟩:=h.form;refine bn E.aS ?_;refine aO ?_;refine O_ λaG Z aH ab A=>?_;refine aO ?_;refine O_ λj aI aJ B aK=>?_;have c:=ab.trans B;have ae:j.heap[Z]? = some (.cells #[.I x.op,.I x.n] T.k):=B.obj A;clear A;refine aO ?_;apply I_<;>intro r
 .have g:fq x v (st.getLastD 0)=if o.within x.n then (x.n,0) else (0,10):=by rw[fq,if_pos r]
  have af:(o.tell (· + ·) x.n 0).2=o.within x.n:=by
   unfold o.tell
   have:o.within 0=true:=rfl
   simp only[Int.add_zero,this,Bool.and_true,Bool.and_self];split<;>simp_all
  rw[g];refine aO ?_;refine J_ (Qm x.n 0 j) ?_;rintro _ C ⟨rfl,G⟩;rw[af];refine aO ?_;refine N_ (λk=>?_) (λk=>?_)
  all_goals
   refine aO ?_;rw[k];exact cd
 by_cases aL:x.op=2\/x.op=3
 .have g:fq x v (st.getLastD 0)=(match o.nth v.vars x.n with | some p=>if x.op=2 then g1 p 0 else (match o.nth p (st.getLastD 0 - 1) with | some l=>(l,0) | none=>(0,10)) | none=>(0,8)):=by
   rw[fq,if_neg r];split
   .rename_i d;cases o.nth v.vars x.n<;>simp[d]
   .rename_i d;rw[if_pos AY];cases o.nth v.vars x.n with
    | none=>rfl
    | some p=>simp only[d,if_false];cases o.nth p (st.getLastD 0 - 1)<;>rfl
  by_cases ag:x.n<0\/(v.vars.length:Int)<=x.n
  .rw[g,hv ag]
   (repeat' (refine aO ?_;first | (refine I_ (λ_=>?_) (λ_=>?_)<;>try (exfalso;omega)) | refine N_ (λ_=>?_) (λ_=>?_)))<;>try refine aO ?_
   all_goals exact cd
  obtain⟨a,i⟩:=Uh (show 0<=x.n by omega);have ah:a<v.vars.length:=AY
  obtain⟨ai,rfl⟩:=y.addr;obtain⟨aj,q,n⟩:=y.at a ah;have H:o.nth v.vars x.n=some v.vars[a]:=by rw[i,ik AY AY];simp only[Int.toNat_natCast]
  rw[i] at ae;by_cases k:x.op=2
  .have ak:fq x v (st.getLastD 0)=g1 v.vars[a] 0:=by rw[g,H];simp only[k,if_true]
   rw[ak];refine aO ?_;refine L_ (c.cell q) ?_;refine aO ?_;refine J_ (FD _ v.vars[a] 0 j (n.ext c)) ?_;rintro _ _ ⟨rfl,rfl⟩;refine aO ?_;exact cd
  .have al:x.op=3:=AY
   have I:=S al;have J:fq x v (st.getLastD 0)=(match o.nth v.vars[a] (st.getLastD 0 - 1) with | some l=>(l,0) | none=>(0,10)):=by rw[g,H];simp only[k,if_false]
   rw[J];clear J g;refine aO ?_;refine L_ (c.cell q) ?_;refine aO ?_;refine P_ _ (λe d=>aiG base b e m st (Q.ext (c.trans d)) I) ?_;refine aO ?_;refine _n ?_;refine aO ?_;refine P_ _ (λe d=>(FD _ v.vars[a] _ e (n.ext (c.trans d))).mono λ_ _ ⟨s,t⟩=>⟨s,t ▸ Ext.refl _⟩) ?_;refine aO ?_;intro C G;have an:ev (st.getLastD 0):=by rw[Gj _ I];exact U _ (FA _)
   obtain⟨aP,aQ,rfl,ao⟩:=n.form;have K:=ay7 _ ao _ an;cases f:o.nth v.vars[a] (IntKind.i64.wrap (st.getLastD 0 - 1)) with
   | none =>
    have u:g1 v.vars[a] (IntKind.i64.wrap (st.getLastD 0 - 1))=(0,8):=by rw[g1,f]
    rw[u];refine aO ?_;rw[<-K,f];exact cd
   | some l =>
    have u:g1 v.vars[a] (IntKind.i64.wrap (st.getLastD 0 - 1))=(l,0):=by rw[g1,f]
    rw[u];refine aO ?_;rw[<-K,f];exact cd
 rw[fq,if_neg r,if_neg AY,if_neg AY];refine aO ?_;apply I_<;>intro L
 .rw[if_pos L];refine aO ?_;refine J_ (FD _ v.locals x.n j (Y.ext c)) ?_;rintro _ _ ⟨rfl,rfl⟩;refine aO ?_;exact cd
 rw[if_neg L];refine aO ?_;apply I_<;>intro M
 .rw[if_pos M];refine aO ?_;refine J_ (FD _ v.lens x.n j (X.ext c)) ?_;rintro _ _ ⟨rfl,rfl⟩;refine aO ?_;exact cd
 rw[if_neg M];refine aO ?_;apply I_<;>intro N
 .rw[if_pos N];refine aO ?_;exact cd
 rw[if_neg N];refine aO ?_;apply I_<;>intro O;rotate_left
 .rw[if_neg O];refine aO ?_;exact cd
 rw[if_pos O];refine aO ?_;apply I_<;>intro aR
 .refine aO ?_;rw[if_neg AY];exact cd
 rw[if_pos AY];obtain⟨a,i⟩:=Uh (show 0<=x.n by omega);obtain⟨_,aq⟩:=P.n;rw[i] at aq;have f:x.n.tdiv 16=((a / 16:Nat):Int):=by rw[i];rfl
 have aS:x.n.tmod 16=((a % 16:Nat):Int):=by rw[i];rfl
 refine aO ?_;refine _P AY ?_;rw[f];refine aO ?_;apply I_<;>intro aU
 .refine aO ?_;rw[hv (.inr AY)];exact cd
 have ar:a / 16<v.at_.length:=AY
 obtain⟨ai,rfl⟩:=z.addr;obtain⟨aj,q,n⟩:=z.at (a / 16) ar;rw[ik AY AY];simp only[Int.toNat_natCast];refine aO ?_;refine _P AY ?_;rw[f];refine aO ?_;refine L_ (c.cell q) ?_;refine aO ?_;refine _o AY ?_;refine aO ?_;refine P_ _ (λe d=>(FD _ v.at_[a / 16] _ e (n.ext (c.trans d))).mono λ_ _ ⟨s,t⟩=>⟨s,t ▸ Ext.refl _⟩) ?_;refine aO ?_;intro C G;refine aO ?_;exact cd
end Go.Proofs.R
namespace o
open Go Go.RowKit ba
structure Env.ok(v:Env):Prop where
 vars:∀l∈v.vars,∀z∈l,ev z
 lens:∀z∈v.lens,ev z
 locals:∀z∈v.locals,ev z
 at_:∀l∈v.at_,∀z∈l,ev z
 self:ev v.self
def ahD{w:A_}{v:B_}{l:C_ (C_ Int)}(h:vm w v l):∀a∈l,∀b∈a,ev b:=by
 intro a c;obtain⟨d,e,rfl⟩:=List.mem_iff_getElem.1 c;obtain⟨g,i,rfl,_⟩:=h.form;obtain⟨j,rfl⟩:=h.addr;obtain⟨k,_,f⟩:=h.at d e;exact f.ok
def q0.ok{w:A_}{cs:C_ B_}{v:Env}(h:q0 w cs v):v.ok:=by
 obtain⟨f,g,i,j,_,a,b,c,d,e⟩:=h.ex;exact⟨ahD a,b.ok,c.ok,ahD d,e⟩
def B6{α:Type}{l:C_ α}{n:Int}{x:α}(h:nth l n=some x):x∈l:=by
 unfold nth at h;split at h
 .exact List.mem_of_getElem? h
 .cases h
def Mj:ev 0:=⟨Ae,Ae⟩
def azk{n:Int}(h:within n=true):ev n:=by simp[within] at h;exact⟨AY,AY⟩
def ays(f:Int->Int->Int)(a b:Int):ev (tell f a b).1:=by
 unfold tell;split
 .rename_i c;simp only[Bool.and_eq_true] at c;exact azk c.2
 .exact Mj
def akZ(b:Bool):ev (bit b):=by cases b<;>exact⟨Ae,Ae⟩
def amy{x:Int}{c:pF}(h:gY x=some c)(a b:Int):ev (c.xd a b).1:=by
 unfold gY at h
 repeat' split at h
 all_goals first | (cases h;first | exact ays _ _ _ | exact akZ _) | cases h
def Ph{l:C_ Int}{n:Int}(h:∀a∈l,ev a):ev (g1 l n).1:=by
 unfold g1;split
 .rename_i b c;exact h b (B6 c)
 .exact Mj
def anD{v:Env}(a:v.ok){x:Node}{st:C_ Int}(e:x.ok):ev (gj v x st).1:=by
 unfold gj;split
 .rename_i g f;unfold wJ;simp only;split
  .exact amy f _ _
  .exact Mj
 .unfold fq
  (repeat' split)
  all_goals first
   | exact e.n
   | exact Mj
   | exact a.self
   | exact Ph a.locals
   | exact Ph a.lens
   | (rename_i b;exact Ph (a.vars _ (B6 b)))
   | (rename_i b;exact Ph (a.at_ _ (B6 b)))
   | (rename_i c _ _ d;exact a.vars _ (B6 c) _ (B6 d))
   | (rename_i d;rename_i c;exact a.vars _ (B6 c) _ (B6 d))
end o
namespace Go.Proofs.R
open Go Go.RowKit ba o
def aze(a:pF)(d e:B_)(l:C_ Int)(w:A_)(b:nF w e l)(c:0<l.length)(i:yF w d a.xd) :
  EL F.a8 #[.agg #[.I a.parts,.I a.iU,.I a.makes,d],e] w λj f=>j = .tuple #[.I (wJ a l).1,.I (wJ a l).2]/\Ext w f:=by
 obtain⟨s,k,rfl,t⟩:=b.form;refine bn E.a8 ?_;refine aO ?_;refine O_ λm u v g x=>?_;obtain⟨n,rfl⟩:=b.addr c;have y:nF m (.slice (some n) l.length k) l:=b.ext g;refine aO ?_;refine M_ (l.length - 1) AY AY ?_;refine aO ?_;refine AA3 _ (λf p=>AC0 (i.ext (g.trans p)) λz q=>⟨rfl,q⟩) ?_;have r:l[0]=l.headD 0:=by
  cases l with
  | nil=>simp at c
  | cons A l=>rfl
 rw[r,<-Gj l c];rw[wJ];generalize a.xd (l.headD 0) (l.getLastD 0)=B;refine aO ?_;intro C G;refine aO ?_;refine N_ (λh=>?_) (λh=>?_)
 all_goals
  refine aO ?_;simp only[h,if_true,Bool.false_eq_true,if_false];exact cd
def ani(x:o.Node)(cs:C_ B_)(v:o.Env)(base b c d:Nat)(w:A_)(m:B_)(st:C_ Int)(f:F_)(g:x.ok)(h:q0 w cs v)(i:rT base b w m st)(j:x.op=3->0<st.length)(k:∀l∈st,ev l)
  (u:w.heap[c]? = some (.cells #[.pointer (some ⟨b,0,none⟩)] f))(n:w.heap[d]? = some (.cells cs.toArray T.s)) :
  EL F.s6 #[.agg x.enc.toArray,.pointer (some ⟨c,0,none⟩),.pointer (some ⟨d,0,none⟩)] w λp q =>
   p = .tuple #[.I (fq x v (st.getLastD 0)).1,.I (fq x v (st.getLastD 0)).2]/\Ext w q:=by
 obtain⟨y,z,A,B,rfl,_⟩:=h.ex;refine bn E.s6 ?_;refine aO ?_;refine O_ λe r C a s=>?_;have t:e.heap[r]? = some (.cells x.enc.toArray T.k):=s;refine aO ?_;refine S_ (c:=x.enc) t (Ext.refl _) rfl ?_;refine aO ?_;refine S_ n a rfl ?_;refine aO ?_;refine J_ (azc x _ v base b e m st g (h.ext a) (i.ext a) j k) ?_;rintro _ G ⟨rfl,H⟩;refine aO ?_;exact cd
def anE(v:o.Env):O5 (gj v) wJ λa b=>fq a v (b.getLastD 0):=λ_ _=>rfl
def anj(j:B_)(e:C_ o.Node)(cs:C_ B_)(v:o.Env)(w:A_)(H:fJ w j e)(h:q0 w cs v) :
  EL F.K9 #[j,.agg cs.toArray] w λk d=>k = .tuple #[.I (o.eval e v).1,.I (o.eval e v).2]/\Ext w d:=by
 have I:=h.ok;obtain⟨ai,aj,ak,al,rfl,_⟩:=h.ex;refine bn E.K9 ?_;refine aO ?_;refine O_ λan t ao u x=>?_;refine aO ?_;refine V_ (cs:=[.slice none 0 0,.map none]) (by simp[gv]) ?_;refine aO ?_;refine O_ λJ l aq y z=>?_;refine aO ?_;refine O_ λar m K A B=>?_;refine aO ?_;refine _i B Ae rfl λf C G=>?_;have L:f.heap[m]? = some (.cells #[.pointer (some ⟨l,0,none⟩)] T.kZ):=G;have n:Ext J f:=C.ext A K;have au:=cf z;have av:=cf x;have p:Ext w f:=(u.trans y).trans n;clear G C A B;have M:=n.obj z;have N:=n.obj (y.obj x);have aw:=u.size;refine aO ?_;refine J_ (ahO (gj v) wJ (λa g=>fq a v (g.getLastD 0)) (anE v) ev l w f p AY j _ _ e H M (λa g b _ _ _ _=>anD I b) ?_ ?_) ?_
 .intro a g base O d b hm P Q ax ay az S U V i c;refine W_ (first:=[]) (cap:=[.pointer (some ⟨m,0,none⟩),.pointer (some ⟨t,0,none⟩)]) Cl
   (ani a _ v base l m t S O g _ b (h.ext ((hm.ext p (by intro W c e;omega)).trans i)) (P.ext i) ?_ Q (i.obj (hm.obj AY L)) (i.obj (hm.obj AY N))) λv q ⟨r,s⟩=>by subst r;exact c q s
  intro X
  have:en a.op=1:=by rw[X];rfl
  omega
 .rintro Y aB Z ab d U V hm ⟨k,rfl,ae⟩ ⟨a,b⟩ aC af c;exact _u (first:=[]) (cap:=[]) Cl (aze Y k Z ab d af (by have:=UO b;omega) ae) λv q ⟨r,s⟩=>by subst r;exact c q s
 rintro _ ag ⟨rfl,ah⟩;have aD:Ext w ag:=ah.ext p (by intro W c e;omega);refine aO ?_;exact cd
def OG(v:B_)(l:C_ Int)(n:Int)(w:A_)(a:pE w v l):EL F.MZ #[v,.I n] w λv b=>v = .tuple #[.I (g1 l n).1,.bool (decide ((g1 l n).2=0))]/\Ext w b:=by
 obtain⟨d,e,rfl,f⟩:=a.form;refine bn E.MZ ?_;refine aO ?_;apply I_<;>intro c
 .refine aO ?_;rw[g1,hv (.inl c)];exact cd
 refine aO ?_;apply I_<;>intro g
 .refine aO ?_;rw[g1,hv (.inr AY)];exact cd
 obtain⟨h,rfl⟩:=Uh (show 0<=n by omega);obtain⟨i,rfl⟩:=a.addr;refine aO ?_;rw[g1,ik AY AY];simp only[Int.toNat_natCast];exact cd
def ay6(l:C_ Int)(n:Int):(g1 l n).2=0\/g1 l n=(0,8):=by
 unfold g1;split
 .exact .inl rfl
 .exact .inr rfl
def Cv(b:Bool)(w:A_):EL F.MX #[.bool b] w λc d=>c = .I (o.bit b)/\d=w:=by
 refine bn E.MX ?_;refine aO ?_;refine N_ (λa=>?_) (λa=>?_)
 all_goals
  subst a;refine aO ?_;exact⟨rfl,trivial⟩
def VJ(n:Int)(w:A_):EL F.MN #[.I n] w λa b=>a = .bool (o.within n)/\b=w:=by
 refine bn E.MN ?_
 (repeat' (refine aO ?_;first | (refine I_ (λ_=>?_) (λ_=>?_)<;>try (exfalso;omega)) | refine N_ (λ_=>?_) (λ_=>?_)))<;>try refine aO ?_
 all_goals
  refine⟨?_,aV⟩;congr 1
  first | (rw[AH3];simp[o.within];omega) | (simp[o.within];omega)
theorem Wf(a b n:Int)(w:A_):EL F.MM #[.I a,.I b,.I n] w
  λc d=>c = .tuple #[.I (if o.within a&&o.within b&&o.within n then n else 0),.bool (o.within a&&o.within b&&o.within n)]/\d=w:=by
 refine bn E.MM ?_;refine aO ?_;refine J_ (VJ a w) ?_;rintro _ _ ⟨rfl,rfl⟩;refine aO ?_;cases e:o.within a with
 | false =>
  refine aO ?_;exact⟨Ah,trivial⟩
 | true =>
  refine aO ?_;refine J_ (VJ b _) ?_;rintro _ _ ⟨rfl,rfl⟩;refine aO ?_;cases f:o.within b with
  | false =>
   refine aO ?_;exact⟨Ah,trivial⟩
  | true =>
   refine aO ?_;refine J_ (VJ n _) ?_;rintro _ _ ⟨rfl,rfl⟩;refine aO ?_;cases g:o.within n with
   | false =>
    refine aO ?_;exact⟨Ah,trivial⟩
   | true =>
    refine aO ?_;exact⟨Ah,trivial⟩
theorem Wg(f:Int->Int->Int)(a b n:Int)(h:o.within a=true->o.within b=true->n=f a b) :
  (if (o.within a&&o.within b&&o.within n)=true then n else 0)=(o.tell f a b).1/\(o.within a&&o.within b&&o.within n)=(o.tell f a b).2:=by
 unfold o.tell;cases c:o.within a with
 | false=>simp
 | true =>
  cases d:o.within b with
  | false=>simp
  | true =>
   rw[h c d];cases e:o.within (f a b)<;>simp
def awB:vg F.MJ (o.tell (· + ·)):=by
 intro a b e;refine bn E.MJ ?_;refine aO ?_;refine _n ?_;refine aO ?_;refine J_ (Wf a b _ e) ?_;rintro _ _ ⟨rfl,rfl⟩;obtain⟨c,d⟩:=Wg (· + ·) a b (IntKind.i64.wrap (a+b)) (λc d=>by simp[o.within] at c d;exact IntWalk.i64_in _ AY);rw[c,d];refine aO ?_;exact cd
def ahF:vg F.ML (o.tell (· - ·)):=by
 intro a b e;refine bn E.ML ?_;refine aO ?_;refine _n ?_;refine aO ?_;refine J_ (Wf a b _ e) ?_;rintro _ _ ⟨rfl,rfl⟩;obtain⟨c,d⟩:=Wg (· - ·) a b (IntKind.i64.wrap (a - b)) (λc d=>by simp[o.within] at c d;exact IntWalk.i64_in _ AY);rw[c,d];refine aO ?_;exact cd
def axj:vg F.MK (o.tell (· * ·)):=by
 intro c d e;refine bn E.MK ?_;refine aO ?_;refine _n ?_;refine aO ?_;refine J_ (Wf c d _ e) ?_;rintro _ _ ⟨rfl,rfl⟩;obtain⟨a,b⟩:=Wg (· * ·) c d (IntKind.i64.wrap (c*d)) (λa b=>by simp[o.within] at a b;have:=afY a b;exact IntWalk.i64_in _ AY);rw[a,b];refine aO ?_;exact cd
def sI(op a b:Int):Int×Int:=match gY op with | some c=>wJ c [a,b] | none=>(0,0)
def awH(op a b:Int)(w:A_)(m:11<=op/\op<=19) :
  EL F.M0 #[.I op,.I a,.I b] w λj k=>j = .tuple #[.I (sI op a b).1,.I (sI op a b).2]/\Ext w k:=by
 have num:∀f:Int->Int->Int×Bool,(if (f a b).2=true then ((f a b).1,(0:Int)) else (0,10))=(let g:=f a b;if g.2=true then (g.1,0) else (0,10)):=λ_=>rfl;have l:op=11\/op=12\/op=13\/op=14\/op=15\/op=16\/op=17\/op=18\/op=19:=AY
 refine bn E.M0 ?_;rcases l with e | e | e | e | e | e | e | e | e
 .have key:sI op a b=if (o.tell (· + ·) a b).2=true then ((o.tell (· + ·) a b).1,0) else (0,10):=by subst e;rfl
  rw[key];refine aO ?_;refine J_ (awB a b w) ?_;rintro _ h ⟨rfl,i⟩;refine aO ?_;refine N_ (λc=>?_) (λc=>?_)
  all_goals
   refine aO ?_;rw[c];exact cd
 .have key:sI op a b=if (o.tell (· - ·) a b).2=true then ((o.tell (· - ·) a b).1,0) else (0,10):=by subst e;rfl
  rw[key];refine aO ?_;refine J_ (ahF a b w) ?_;rintro _ h ⟨rfl,i⟩;refine aO ?_;refine N_ (λc=>?_) (λc=>?_)
  all_goals
   refine aO ?_;rw[c];exact cd
 .have key:sI op a b=if (o.tell (· * ·) a b).2=true then ((o.tell (· * ·) a b).1,0) else (0,10):=by subst e;rfl
  rw[key];refine aO ?_;refine J_ (axj a b w) ?_;rintro _ h ⟨rfl,i⟩;refine aO ?_;refine N_ (λc=>?_) (λc=>?_)
  all_goals
   refine aO ?_;rw[c];exact cd
 .have key:sI op a b=(o.bit (decide (a=b)),0):=by subst e;rfl
  rw[key];refine aO ?_;refine J_ (Cv _ w) ?_;rintro _ _ ⟨rfl,rfl⟩;refine aO ?_;exact cd
 .have key:sI op a b=(o.bit (!decide (a=b)),0):=by subst e;rfl
  rw[key];refine aO ?_;refine J_ (Cv _ w) ?_;rintro _ _ ⟨rfl,rfl⟩;refine aO ?_;exact cd
 .have key:sI op a b=(o.bit (decide (a<b)),0):=by subst e;rfl
  rw[key];refine aO ?_;refine J_ (Cv _ w) ?_;rintro _ _ ⟨rfl,rfl⟩;refine aO ?_;exact cd
 .have key:sI op a b=(o.bit (decide (a<=b)),0):=by subst e;rfl
  rw[key];refine aO ?_;refine J_ (Cv _ w) ?_;rintro _ _ ⟨rfl,rfl⟩;refine aO ?_;exact cd
 .have key:sI op a b=(o.bit (!decide (a=0) && !decide (b=0)),0):=by subst e;rfl
  rw[key];refine aO ?_;refine I_ (λd=>?_) (λd=>?_)
  all_goals
   refine aO ?_;refine J_ (Cv _ w) ?_;rintro _ _ ⟨rfl,rfl⟩;refine aO ?_;refine⟨?_,fT⟩;simp[d]
 .have key:sI op a b=(o.bit (!decide (a=0) || !decide (b=0)),0):=by subst e;rfl
  rw[key];refine aO ?_;refine I_ (λd=>?_) (λd=>?_)
  all_goals
   refine aO ?_;refine J_ (Cv _ w) ?_;rintro _ _ ⟨rfl,rfl⟩;refine aO ?_;refine⟨?_,fT⟩;simp[d]
def Pj(l:C_ Int)(n:Int):(decide ((g1 l n).2=0)=true->g1 l n=((g1 l n).1,0))/\(decide ((g1 l n).2=0)=false->g1 l n=(0,8)):=by
 rcases ay6 l n with a | a
 .exact⟨λ_=>Prod.ext rfl a,λb=>by simp[a] at b⟩
 .exact⟨λb=>by simp[a] at b,λ_=>a⟩
def axF(x:o.Node)(cs:C_ B_)(v:o.Env)(w:A_)(I:x.ok)(h:q0 w cs v)(k:x.op≠3)(t:Int) :
  EL F.M7 #[.agg x.enc.toArray,.agg cs.toArray] w λJ n=>J = .tuple #[.I (fq x v t).1,.I (fq x v t).2]/\Ext w n:=by
 obtain⟨ae,af,ag,bg,ah,bj,ai,aj,rfl,A,K,L,B,ak,al,an,ao,aq⟩:=h.form;refine bn E.M7 ?_;refine aO ?_;refine O_ λar M au N C=>?_;refine aO ?_;refine O_ λm av aw G ax=>?_;have i:=N.trans G;have O:m.heap[M]? = some (.cells #[.I x.op,.I x.n] T.k):=G.obj C;clear C;refine aO ?_;apply I_<;>intro d
 .have a:fq x v t=if o.within x.n then (x.n,0) else (0,10):=by rw[fq,if_pos d]
  (repeat' (refine aO ?_;first | (refine I_ (λ_=>?_) (λ_=>?_)<;>try (exfalso;omega)) | refine N_ (λ_=>?_) (λ_=>?_)))<;>try refine aO ?_
  all_goals
   refine⟨?_,fT⟩;rw[a];unfold o.within;split<;>first | rfl | (rename_i P;simp at P;exfalso;omega)
 refine aO ?_;apply I_<;>intro e
 .by_cases Q:x.n<0\/(v.vars.length:Int)<=x.n
  .have a:fq x v t=(0,8):=by rw[fq,if_neg d,if_pos e,hv Q]
   rw[a]
   (repeat' (refine aO ?_;first | (refine I_ (λ_=>?_) (λ_=>?_)<;>try (exfalso;omega)) | refine N_ (λ_=>?_) (λ_=>?_)))<;>try refine aO ?_
   all_goals exact cd
  obtain⟨c,j⟩:=Uh (show 0<=x.n by omega);have S:c<v.vars.length:=AY
  obtain⟨U,rfl⟩:=A.addr;obtain⟨V,p,q⟩:=A.at c S;have W:o.nth v.vars x.n=some v.vars[c]:=by rw[j,ik AY AY];simp only[Int.toNat_natCast]
  have a:fq x v t=g1 v.vars[c] 0:=by rw[fq,if_neg d,if_pos e,W]
  rw[a];rw[j] at O;refine aO ?_;refine L_ (i.cell p) ?_;refine aO ?_;refine J_ (OG _ v.vars[c] 0 m (q.ext i)) ?_;rintro _ r ⟨rfl,s⟩;obtain⟨f,g⟩:=Pj v.vars[c] 0;refine aO ?_;refine N_ (λb=>?_) (λb=>?_)
  .refine aO ?_;rw[f b];exact cd
  .refine aO ?_;rw[g b];exact cd
 refine aO ?_;apply I_<;>intro l
 .have a:fq x v t=g1 v.locals x.n:=by rw[fq,if_neg d,if_neg e,if_neg k,if_pos l]
  rw[a];refine aO ?_;refine J_ (OG _ v.locals x.n m (L.ext i)) ?_;rintro _ r ⟨rfl,s⟩;obtain⟨f,g⟩:=Pj v.locals x.n;refine aO ?_;refine N_ (λb=>?_) (λb=>?_)
  .refine aO ?_;rw[f b];exact cd
  .refine aO ?_;rw[g b];exact cd
 refine aO ?_;apply I_<;>intro u
 .have a:fq x v t=(v.self,0):=by rw[fq,if_neg d,if_neg e,if_neg k,if_neg l,if_neg AY,if_pos u]
  rw[a];refine aO ?_;exact cd
 refine aO ?_;apply I_<;>intro y
 .have a:fq x v t=g1 v.lens x.n:=by rw[fq,if_neg d,if_neg e,if_neg k,if_neg l,if_pos y]
  rw[a];refine aO ?_;refine J_ (OG _ v.lens x.n m (K.ext i)) ?_;rintro _ r ⟨rfl,s⟩;obtain⟨f,g⟩:=Pj v.lens x.n;refine aO ?_;refine N_ (λb=>?_) (λb=>?_)
  .refine aO ?_;rw[f b];exact cd
  .refine aO ?_;rw[g b];exact cd
 refine aO ?_;apply I_<;>intro H;rotate_left
 .have a:fq x v t=(0,0):=by rw[fq,if_neg d,if_neg e,if_neg k,if_neg l,if_neg y,if_neg u,if_neg H]
  rw[a];refine aO ?_;exact cd
 have a:fq x v t=if 0<=x.n then (match o.nth v.at_ (x.n.tdiv 16) with | some X=>g1 X (x.n.tmod 16) | none=>(0,8)) else (0,8):=by
  rw[fq,if_neg d,if_neg e,if_neg k,if_neg l,if_neg y,if_neg u,if_pos H];split
  .cases o.nth v.at_ (x.n.tdiv 16)<;>rfl
  .rfl
 refine aO ?_;apply I_<;>intro ay
 .rw[a,if_neg AY];refine aO ?_;exact cd
 rw[if_pos AY] at a;obtain⟨c,j⟩:=Uh (show 0<=x.n by omega);obtain⟨_,Y⟩:=I.n;rw[j] at Y;have z:x.n.tdiv 16=((c / 16:Nat):Int):=by rw[j];rfl
 have az:x.n.tmod 16=((c % 16:Nat):Int):=by rw[j];rfl
 refine aO ?_;refine _P AY ?_;rw[z];refine aO ?_;apply I_<;>intro aB
 .rw[a,hv (.inr AY)];refine aO ?_;exact cd
 have Z:c / 16<v.at_.length:=AY
 obtain⟨U,rfl⟩:=B.addr;obtain⟨V,p,q⟩:=B.at (c / 16) Z;rw[z,ik AY AY] at a;simp only[Int.toNat_natCast] at a;rw[a];refine aO ?_;refine _P AY ?_;rw[z];refine aO ?_;refine L_ (i.cell p) ?_;refine aO ?_;refine _o AY ?_;refine aO ?_;refine P_ _ (λn ab=>OG _ v.at_[c / 16] _ n (q.ext (i.trans ab))) ?_;obtain⟨f,g⟩:=Pj v.at_[c / 16] (x.n.tmod 16);refine aO ?_;intro r s;refine aO ?_;refine N_ (λb=>?_) (λb=>?_)
 .refine aO ?_;rw[f b];exact cd
 .refine aO ?_;rw[g b];exact cd
def u2(x:o.Node)(k:Int)(v:o.Env):Int×Int:=match gY x.op with | some a=>wJ a [k] | none=>fq x v k
def axh(x:o.Node)(k:Int)(cs:C_ B_)(v:o.Env)(w:A_)(h:q0 w cs v)(J:x.op=3\/x.op=9\/x.op=10) :
  EL F.M1 #[.agg x.enc.toArray,.I k,.agg cs.toArray] w λs t=>s = .tuple #[.I (u2 x k v).1,.I (u2 x k v).2]/\Ext w t:=by
 obtain⟨K,L,M,bg,N,bj,O,P,rfl,i,Q,S,U,V,W,X,Y,Z⟩:=h.form;refine bn E.M1 ?_;refine aO ?_;refine O_ λab u ae y j=>?_;refine aO ?_;refine O_ λd af ag l ah=>?_;have c:=y.trans l;have z:d.heap[u]? = some (.cells #[.I x.op,.I x.n] T.k):=l.obj j;clear j;refine aO ?_;apply I_<;>intro A
 .have a:u2 x k v=(o.bit (decide (k=0)),0):=by rw[u2,A];rfl
  rw[a];refine aO ?_;refine J_ (Cv _ d) ?_;rintro _ _ ⟨rfl,rfl⟩;refine aO ?_;exact cd
 refine aO ?_;apply I_<;>intro B
 .have a:u2 x k v=if (o.tell (· - ·) 0 k).2=true then ((o.tell (· - ·) 0 k).1,0) else (0,10):=by rw[u2,B];rfl
  rw[a];refine aO ?_;refine J_ (ahF 0 k d) ?_;rintro _ ai ⟨rfl,aj⟩;refine aO ?_;refine N_ (λm=>?_) (λm=>?_)
  all_goals
   refine aO ?_;rw[m];exact cd
 have n:x.op=3:=AY
 have p:u2 x k v=fq x v k:=by rw[u2,show gY x.op=none from by rw[n];rfl]
 have a:u2 x k v=(match o.nth v.vars x.n with | some b=>(match o.nth b (k - 1) with | some C=>(C,0) | none=>(0,10)) | none=>(0,8)):=by
  rw[p,fq,if_neg AY,if_neg AY,if_pos n];cases o.nth v.vars x.n with
  | none=>rfl
  | some b=>simp only;cases o.nth b (k - 1)<;>rfl
 clear p;by_cases G:x.n<0\/(v.vars.length:Int)<=x.n
 .rw[hv G] at a;rw[a]
  (repeat' (refine aO ?_;first | (refine I_ (λ_=>?_) (λ_=>?_)<;>try (exfalso;omega)) | refine N_ (λ_=>?_) (λ_=>?_)))<;>try refine aO ?_
  all_goals exact cd
 obtain⟨e,q⟩:=Uh (show 0<=x.n by omega);have H:e<v.vars.length:=AY
 obtain⟨ak,rfl⟩:=i.addr;obtain⟨al,f,g⟩:=i.at e H;obtain⟨an,ao,rfl,aq⟩:=g.form;rw[q,ik AY AY] at a;simp only[Int.toNat_natCast] at a;rw[q] at z;have ar:=g.ext c;generalize v.vars[e]=b at *;by_cases au:k<1\/(b.length:Int)<k
 .rw[hv AY] at a;simp only at a;rw[a];by_cases av:k<1
  .refine aO ?_;exact cd
  .refine aO ?_;refine L_ (c.cell f) ?_;refine aO ?_;exact cd
 obtain⟨r,I⟩:=Uh (show 0<=k - 1 by omega);have aw:r<b.length:=AY
 rw[ik AY AY] at a;simp only[I,Int.toNat_natCast] at a;rw[a];obtain⟨ax,rfl⟩:=g.addr;refine aO ?_;refine L_ (c.cell f) ?_;refine aO ?_;refine L_ (c.cell f) ?_;refine aO ?_;refine M_ r AY AY ?_;refine aO ?_;exact cd
def anA{v:o.Env}{x:o.Node}{st:C_ Int}(h:en x.op=0):gj v x st=fq x v (st.getLastD 0):=by
 unfold gj;rw[(Oj h).2.2.2]
theorem anB{v:o.Env}{x:o.Node}{st:C_ Int}(h:en x.op=1)(a:1<=st.length):gj v x st=u2 x st[st.length - 1] v:=by
 unfold gj u2;cases b:gY x.op with
 | none=>simp only;rw[Gj st AY]
 | some c =>
  have:=(Ca b).1
  simp only;rw[show c.parts.toNat=1 from AY,Q4 a]
def anC{v:o.Env}{x:o.Node}{st:C_ Int}(h:en x.op=2)(a:2<=st.length):gj v x st=sI x.op st[st.length - 2] st[st.length - 1]:=by
 unfold gj sI;obtain⟨b,c,d⟩:=agj (show 9<=x.op/\x.op<=19 by have:=Ok h;omega);rw[c];simp only;rw[show b.parts.toNat=2 from AY,aa1 a]
def OJ(P:B_)(e:C_ o.Node)(cs:C_ B_)(v:o.Env)(w:A_)(A:fJ w P e)(h:q0 w cs v) :
  EL F.MU #[P,.agg cs.toArray] w λq j=>q = .tuple #[.I (o.eval e v).1,.I (o.eval e v).2]/\Ext w j:=by
 obtain⟨aJ,aK,aL,aP,rfl,_⟩:=h.ex;obtain⟨aQ,aR,rfl,aS⟩:=A.form;refine bn E.MU ?_;refine aO ?_;refine O_ λn aU aX Q ak=>?_;refine aO ?_;apply I_<;>intro aY
 .refine aO ?_;rw[o.eval,l7,if_pos AY];exact cd
 refine aO ?_;apply I_<;>intro aZ
 .refine aO ?_;rw[o.eval,l7,if_neg AY,if_pos AY];exact cd
 refine aO ?_;refine _j 7 e.length (λb S j => ∃q a,S 6=q/\vk n.heap.size j q a/\e3 (gj v) (e.take b) []=(0,a)/\(0<b->1<=a.length)/\a.length<=12/\Ext n j)
  (by simp -dsimp only[c7,cD,Nat.reduceAdd,Nat.reduceEqDiff,reduceIte,reduceCtorEq,dt]) ⟨.slice none 0 0,[],by simp -dsimp only[c7,cD,Nat.reduceAdd,Nat.reduceEqDiff,reduceIte,reduceCtorEq,dt],aT.nil _ _ _ _ _,by simp[e3],Ah,Ah,Ext.refl _⟩ ?_
 rintro b S U B a0 d ⟨a1,a,f,C,r,al,a3,s⟩;have c:=B 0 rfl;have g:=B 3 rfl;simp only[bR,Nat.reduceAdd,Nat.reduceEqDiff,reduceIte,kF,ox] at c g;clear B;obtain⟨a5,a7,rfl,V,an⟩:=C.form;have G:nF U _ a:=aT.im (enc:=nO) (sz:=1) (λ_=>rfl) C;unfold maxLen at an;refine eJ (i_ c (i_ g (i_ f d))) ?_;apply I_<;>intro a8;rotate_left
 .have l:b=e.length:=AY
  subst l;rw[AG9] at r;have W:=al AY;obtain⟨ao,rfl⟩:=G.addr W;have X:o.eval e v=if a.length > 1 then (0,5) else (a.headD 0,0):=by
   rw[o.eval,l7,if_neg AY,if_neg AY,r,if_neg Ah]
  rw[X];clear X;refine eJ (i_ c (i_ g (i_ f d))) ?_;apply I_<;>intro t
  .refine aO ?_;rw[if_pos AY];exact cd
  .refine eJ (i_ c (i_ g (i_ f d))) ?_;refine M_ 0 rfl AY ?_;refine aO ?_;rw[if_neg AY]
   have:a.headD 0=a[0]:=by
    cases a with
    | nil=>simp at W
    | cons a9 a=>rfl
   rw[this];exact cd
 have l:b<e.length:=AY
 obtain⟨ao,rfl⟩:=A.addr;have aq:=(A.at b l).ok;have m:=λc=>VG (f:=gj v) (e:=e) AY l r c;have ar:=EG l r;have Y:=Q.trans s;have Z:=s.obj ak;refine eJ (i_ c (i_ g (i_ f d))) ?_;refine J_ (aiy e[b].op U) ?_;rintro _ _ ⟨rfl,rfl⟩;generalize u:en e[b].op=H at *;have bb : -1<=H/\H<=2:=by rw[<-u];unfold en; (repeat' split)<;>omega
 refine eJ (i_ c (i_ g (i_ f d))) ?_;apply I_<;>intro t
 .have I:o.stepG (gj v) e[b] a=(3,a):=by unfold o.stepG;rw[u,if_pos t]
  rw[I] at m;refine aO ?_;rw[o.eval,m Ah];exact cd
 refine eJ (i_ c (i_ g (i_ f d))) ?_;apply I_<;>intro ab
 .have I:o.stepG (gj v) e[b] a=(4,a):=by unfold o.stepG;rw[u,if_neg t,if_pos ab]
  rw[I] at m;refine aO ?_;rw[o.eval,m Ah];exact cd
 obtain⟨i,rfl⟩:=Uh (show 0<=H by omega);have k:o.stepG (gj v) e[b] a=if (gj v e[b] a).2≠0 then ((gj v e[b] a).2,a) else if (a.take (a.length - i)++[(gj v e[b] a).1]).length > 12 then (12,a) else (0,a.take (a.length - i)++[(gj v e[b] a).1]):=by
  unfold o.stepG;rw[u,if_neg t,if_neg ab];simp only[Int.toNat_natCast]
 have x:(a.take (a.length - i)++[(gj v e[b] a).1]).length=a.length - i+1:=by simp[List.length_take]
 rw[x] at k;have au:i=0\/i=1\/i=2:=AY
 rcases au with zG | zG | zG
 case' inl =>
  have p:=anA (v:=v) (st:=a) (x:=e[b]) AY;obtain⟨bf,bk,av,bl⟩:=Oj (x:=e[b].op) AY;refine eJ (i_ c (i_ g (i_ f d))) ?_;refine S_ (c:=[_,_,_,_,_]) Z (Ext.refl _) rfl ?_;refine eJ (i_ c (i_ g (i_ f d))) ?_;refine P_ _ (λj y=>axF e[b] _ v j aq (h.ext (Y.trans y)) av (a.getLastD 0)) ?_;rw[<-p];refine eJ (i_ c (i_ g (i_ f d))) ?_
 case' inr.inl =>
  have p:=anB (v:=v) (st:=a) (x:=e[b]) AY AY;obtain⟨aw,rfl⟩:=G.addr;refine eJ (i_ c (i_ g (i_ f d))) ?_;refine M_ (a.length - 1) AY AY ?_;refine eJ (i_ c (i_ g (i_ f d))) ?_;refine S_ (c:=[_,_,_,_,_]) Z (Ext.refl _) rfl ?_;refine eJ (i_ c (i_ g (i_ f d))) ?_;refine P_ _ (λj y=>axh e[b] _ _ v j (h.ext (Y.trans y)) (af7 AY)) ?_;rw[<-p];refine eJ (i_ c (i_ g (i_ f d))) ?_
 case' inr.inr =>
  have p:=anC (v:=v) (st:=a) (x:=e[b]) AY AY;obtain⟨aw,rfl⟩:=G.addr;refine eJ (i_ c (i_ g (i_ f d))) ?_;refine M_ (a.length - 2) AY AY ?_;refine eJ (i_ c (i_ g (i_ f d))) ?_;refine M_ (a.length - 1) AY AY ?_;refine eJ (i_ c (i_ g (i_ f d))) ?_;refine P_ _ (λj y=>awH e[b].op _ _ j (Ok AY)) ?_;rw[<-p];refine eJ (i_ c (i_ g (i_ f d))) ?_
 all_goals
  intro ax J;refine eJ (i_ c (i_ g (i_ f d))) ?_;apply I_<;>intro K;rotate_left
  .rw[if_pos K] at k;refine aO ?_;rw[o.eval,m (by rw[k];exact K),k];exact cd
  rw[if_neg (by simpa using K)] at k;have ay:=C.ext J;refine eJ (i_ c (i_ g (i_ f d))) ?_;refine _D (cs:=[]) (by simp[List.range,List.range.loop,gv]) λae az bo L aB=>?_;have bp:=s.size;have bq:=J.size;have bt:=L.size;have aC:vk n.heap.size ae (.slice (some ⟨az,0,none⟩) 0 0) []:=aT.empty AY aB;have aD:=ay.ext L;have aE:vk n.heap.size ae (.slice _ (a.length - i) _) (a.take (a.length - i)):=aT.head (enc:=nO) (sz:=1) (xs:=a) (λ_=>rfl) aD (a.length - i) (Nat.sub_le _ _);have z:(a.take (a.length - i)).length=a.length - i:=by simp[List.length_take]
  refine eJ (i_ c (i_ g (i_ f d))) ?_;refine _k (a.length - i) (by simp -dsimp only[c7,cD,Nat.reduceAdd,Nat.reduceEqDiff,reduceIte,reduceCtorEq,dt,f];first | rfl | (congr 1;omega)) AY ?_;refine aO ?_;refine AA0 (xs:=[]) (ys:=a.take (a.length - i)) aC aE (λ_=>rfl) Kp (by rw[z];simp only[List.length_nil];omega) (by rw[z];simp only[List.length_nil,maxLen];omega) AY λbu aF af aG=>?_;have ag:Ext ax aF:=L.grown aG λah M=>by simp[Value.ownBlock] at M;omega
  rw[AH9] at af;have bw:=ag.size;refine aO ?_;refine _D (cs:=[(gj v e[b] a).1].flatMap nO) (by simp[List.range,List.range.loop,gv,lay,dE,bR,Value.cells,nO]) λbx bz bA N V=>?_;have bB:=N.size;have ai:=af.ext N;refine aO ?_;refine _l (xs:=a.take (a.length - i)) (ys:=[(gj v e[b] a).1]) ai (λ_=>rfl) (g5 V) rfl Kp (by rw[z];simp only[List.length_cons,List.length_nil];omega) (by rw[z];simp only[List.length_cons,List.length_nil,maxLen];omega) AY λbC aH O aI=>?_;have aj:Ext n aH:=Ext.grown (((s.trans J).trans ag).trans N) aI λah M=>(ai.lt ah M).1;obtain⟨bD,bE,rfl,_⟩:=O.form;rw[x] at O ⊢;by_cases bG:12<a.length - i+1
  .rw[if_pos AY] at k
   first
    | (exfalso;omega)
    | (refine aO ?_
       rw[o.eval,m (by rw[k];simp),k];exact⟨aV,Q.trans aj⟩)
  rw[if_neg AY] at k;refine eJ d ?_;refine⟨l,aV,_,_,rfl,O,by rw[ar,k],λ_=>by rw[x];omega,by rw[x];omega,aj⟩
end Go.Proofs.R
namespace o
open Go
def abI{m:Model}(e:gh m){s:C_ Int}(b:Fits m s):∀a∈s,-9223372036854775808<=a/\a<=9223372036854775807:=λa f=>by
 obtain⟨c,g,rfl⟩:=List.mem_iff_getElem.1 f;have d:c<(bF m).length:=by have:=b.len;unfold cH at this;omega
 have i:=b.cell c g d;have h:=aln e _ (FA d);obtain⟨j,k,l⟩:=h;omega
structure PF(v:Env):Prop where
 vars:∀l∈v.vars,∀x∈l,ev x
 lens:∀x∈v.lens,ev x
 locals:∀x∈v.locals,ev x
 at_:∀l∈v.at_,∀x∈l,ev x
 self:ev v.self
def Rh{m:Model}(g:gh m){s:C_ Int}(h:Fits m s){q:Nat}(e:q<(insts m).length):PF (bZ m s q):=by
 have f:=abI g h;have n:=(qJ _ (FA e)).elem;have p:=aeZ g;refine⟨λi b c a=>?_,λc a=>?_,λc a=>?_,λi b c a=>?_,?_⟩
 .simp only[bZ,List.mem_map] at b;obtain⟨d,_,rfl⟩:=b;exact f c (AL2 (AJ8 a))
 .simp only[bZ,List.mem_map] at a;obtain⟨d,_,rfl⟩:=a;rw[List.getElem!_eq_getElem?_getD];cases j:s[bS m d]? with
  | none=>simp[ev]
  | some k=>exact f k (List.mem_of_getElem? j)
 .rw[(yt s e rfl).1] at a;exact f c (AL2 (AJ8 a))
 .simp only[bZ,List.mem_map] at b;obtain⟨d,_,rfl⟩:=b;unfold jI at a;obtain⟨l,_,rfl⟩:=List.mem_map.1 a
  have:=JE m s d l (insts m).length
  unfold ev;omega
 .rw[(yt s e rfl).2];unfold ev;omega
end o
namespace ba
open Go Go.RowKit
def _U{b n k:Nat}{c:C_ B_}{e:F_}{w:A_}{d:B_->Prop}{t}(cs:C_ B_)(f:w.heap[b]? = some (.cells c.toArray e))(g:(c.drop k).take n=cs)(h:cs.length=n)(i:d (.agg cs.toArray)):yN n (.pointer (some (Addr.add ⟨b,0,none⟩ k))) w d t:=by
 refine Y_ (cs:=cs) (λj l a=>?_) h i;subst g;rw[List.getElem?_take] at a;split at a
 .rw[List.getElem?_drop] at a;rw[add_add];exact gH f (by simpa using a)
 .cases a
end ba
namespace Go.Proofs.R
open Go Go.RowKit ba o
def T0{w:A_}{v:B_}{l:C_ Int}(h:cl w v l)(b:∀c∈l,ev c):pE w v l:=by
 obtain⟨d,e,f,g,i,j,k⟩:=h.ex;exact⟨d,e,f,g,i,j,λm n p a=>⟨k m n p a,b _ (FA a)⟩⟩
def ahC{w:A_}{v:B_}{l:C_ (C_ Int)}(h:gS w v l)(b:∀c∈l,∀d∈c,ev d):vm w v l:=by
 obtain⟨e,f,g,i,j,k,m⟩:=h.ex;refine⟨e,f,g,i,j,k,λn p q a=>?_⟩;obtain⟨r,s,t⟩:=m n p q a;exact⟨r,s,T0 t (b _ (FA a))⟩
def Kq{w:A_}{cs:C_ B_}{x:o.Env}(h:PE w cs x)(a:PF x):q0 w cs x:=by
 obtain⟨b,c,d,e,rfl,f,g,i,j⟩:=h.ex;exact⟨b,c,d,e,rfl,ahC f a.vars,T0 g a.lens,T0 i a.locals,ahC j a.at_,a.self⟩
def Y9(base:Nat)(a:H_ (C_ Int))(b:B_)(w:A_):Prop :=
 (a=none/\b = .tuple #[.slice none 0 0,.bool false])\/(∃c d,a=some c/\b = .tuple #[d,.bool true]/\ft base w d c)
def awu(cs:C_ B_)(v aS aU:B_)(m:o.Model)(s:C_ Int)(q p:Nat)(a:o.Act)(w:A_)(h:oj w cs m)(bL:m.cB)(i:gh m)(A:cl w v s)(av:o.Fits m s)(M:hF m q p)
  (aX:fJ w aS a.index)(aY:fJ w aU a.value)(N:qZ (o.inner (m.procs[p]'(M.aB)) (fm m)) a) :
  EL F.NZ #[.agg cs.toArray,v,.I q,.agg (a.enc aS aU).toArray] w λr aZ=>Y9 w.heap.size (hr m s q a) r aZ/\Ext w aZ:=by
 have G:=h;obtain⟨bM,bN,bO,bQ,bU,bV,bW,bX,bY,b0,b1,b3,b4,bg,b5,bj,b6,b8,b9,ca,dc,dd,de,df,rfl,cb,cc,ak,di,al,dj,dk,a0,dp,a1,dq,dr,du⟩:=h.form;obtain⟨dv,dw,rfl,dx⟩:=A.form;obtain⟨dy,dz,rfl,dA⟩:=aX.form;obtain⟨dB,dC,rfl,dF⟩:=aY.form;have dG:=N.kind;have B:=av.len;have dI:cH m<=64:=ij i;have ch:=i.gT;have a3:=M.ax;have dK:=M.axp i;obtain⟨dL,dM,dO⟩:=uO m;obtain⟨dP,a5⟩:=qH a3;have cj:=Rh i av a3;refine bn E.NZ ?_;refine aa ?_;intro dQ dR dV cm b;refine aa ?_;intro a7 dW dY a8 c;replace b:=a8.obj b;have I:=cm.trans a8;unfold o.Act.enc at c;refine aa ?_;apply I_<;>intro ab
 .obtain⟨ae,an⟩:=N.chan (.inr ab);have j:a.to.toNat<m.aA.length:=an;have aw:a.to=(a.to.toNat:Nat):=AY
  rw[aw] at c;refine aa ?_;refine J_ (Vn _ _ m s a.to.toNat a7 (G.ext I) i (A.ext Flat.ext I) B j) ?_;rintro r a9 ⟨af,O⟩;obtain⟨cp,cq,rfl,_⟩:=af.form;have bb:(o.chanOf m s a.to.toNat).length=1+gq m a.to.toNat:=pJ (by rw[B];exact mj j);have bf:=aah i j;have dZ:=mj j;obtain⟨ee,cr⟩:=N.recv ab;have ef:a.loc.toNat<(m.procs[p]'(M.aB)).vars.length:=cr;have eg:=M.room;have ax:hr m s q a=yh m s q a:=by unfold hr;rw[if_pos ab]
  rw[ax];unfold yh;replace b:=O.obj b;replace c:=O.obj c;have ay:=I.trans O;refine aa ?_;refine J_ (axx _ _ a9 af AY) ?_;rintro r bk ⟨t,C⟩;replace b:=C.obj b;replace c:=C.obj c;have W:=ay.trans C;rcases t with ⟨u,rfl⟩ | ⟨ag,J,bl,x,rfl,ah⟩
  .refine aa ?_;exact⟨.inl ⟨by rw[u],aV⟩,W⟩
  obtain⟨ct,cu,rfl,_⟩:=ah.form;have az:=IK x;rw[x];obtain⟨aB,rfl⟩:=al.addr;have bo:=al.ext Flat.ext W;refine aa ?_;intro aC n;replace b:=n.obj b;replace c:=n.obj c;replace bo:=bo.ext Flat.ext n;have k:=W.trans n;refine aa ?_;rw[a5];refine aa ?_;refine J_ (Vz _ _ _ m s ag a.to.toNat aC (G.ext k) i (A.ext Flat.ext k) ((ha ah).ext Flat.ext n) B j AY) ?_;rintro r P ⟨bp,e⟩;obtain⟨cv,cw,rfl,_⟩:=bp.form;have d:=k.trans e;have cx:(hQ s (bS m a.to.toNat) ag).length=cH m:=by rw[BQ AY];exact B
  refine⟨e,?_⟩;refine aa ?_;refine J_ (ON _ _ m (hQ s (bS m a.to.toNat) ag) (b7 m q+1+a.loc.toNat) _ J P (G.ext d) i (ha bp) cx AY AY) ?_;rintro r X ⟨t,f⟩;rcases t with ⟨u,rfl⟩ | ⟨Q,aD,cy,rfl,y⟩
  .refine aa ?_;exact⟨.inl ⟨u,aV⟩,d.trans f⟩
  .obtain⟨aE,aF,rfl,_⟩:=y.form;refine aa ?_;exact⟨.inr ⟨Q,_,cy,rfl,aT.low d.size y⟩,d.trans f⟩
 .refine aa ?_;refine _U [.slice bM m.scalars.length bN,.slice bO m.vars.length bQ,.slice bU m.aA.length bV,.slice bW m.procs.length bX,.slice bY m.props.length b0] b rfl rfl ?_;refine aa ?_;refine _U [.slice b1 (o.layout m).vars.length b3,.slice b4 (o.layout m).aA.length bg,.slice b5 (o.layout m).insts.length bj,.I (o.layout m).cells,.slice b6 (o.layout m).aQ.length b8,.slice b9 (o.layout m).ab.length ca] b rfl rfl ?_;refine aa ?_;refine J_ (VF _ _ _ m s q a7 (cb.ext I) bL i (cc.ext I) (A.ext Flat.ext I) av AY AY) ?_;rintro _ a9 ⟨⟨eh,rfl,cz⟩,O⟩;have bq:=Kq cz.here cj;have bt:=bq;obtain⟨ei,ae,ej,eo,er,et,eu,eB,rfl,bu,eC,eE,eF,eG,_⟩:=bq.form;replace b:=O.obj b;replace c:=O.obj c;have ay:=I.trans O;refine aa ?_;intro bk eH eK C ao;replace b:=C.obj b;replace c:=C.obj c;have W:=ay.trans C;refine aa ?_;refine J_ (OJ _ a.value _ (bZ m s q) bk (aY.ext W) (bt.ext C)) ?_;rintro _ aC ⟨rfl,n⟩;obtain⟨g,bw⟩:∃g,g=(o.eval a.value (bZ m s q)).1:=⟨_,rfl⟩;obtain⟨bx,aG⟩:∃bx,bx=(o.eval a.value (bZ m s q)).2:=⟨_,rfl⟩;rw[<-bw,<-aG];replace b:=n.obj b;replace c:=n.obj c;replace ao:=n.obj ao;have k:=W.trans n;have eL:=I.size;refine aa ?_;refine I_ (λaH=>?_) (λaH=>?_);rotate_left
  .refine aa ?_;refine⟨.inl ⟨?_,aV⟩,k⟩;unfold hr;rw[if_neg ab,<-aG,if_pos aH]
  have ax:hr m s q a=if a.kind=1 then o.putAt m s (dS m a.to.toNat) g else if a.kind=2 then wh m s a (o.eval a.index (bZ m s q)) g else if a.kind=3 then o.putAt m s (b7 m q+1+a.to.toNat) g else u7 m s a.to.toNat g:=by
   unfold hr;rw[if_neg ab,<-aG,if_neg (by simpa using aH),<-bw]
  rw[ax];have eM:=A.ext Flat.ext k;have eP:=G.ext k;refine aa ?_;apply I_<;>intro z
  .obtain⟨ae,cB,an,cE⟩:=N.set z;have l:a.to.toNat<m.vars.length:=(List.getElem?_eq_some_iff.1 an).1;obtain⟨cF,aI⟩:=An l;have eQ:=ayW i l;have cG:=qV l;have cI:=ni m;have cK:=BY l;have eR:o.cells m.vars[a.to.toNat] m.scalars=1:=by
    have cL:m.vars[a.to.toNat]=cB:=(List.getElem?_eq_some_iff.1 an).2;rw[cL];unfold o.cells;rw[if_pos cE]
   obtain⟨aB,rfl⟩:=ak.addr;have bz:=ak.ext Flat.ext k;refine aa ?_;intro P e;replace b:=e.obj b;replace c:=e.obj c;replace bz:=bz.ext Flat.ext e;have d:=k.trans e;refine aa ?_;refine M_ a.to.toNat AY AY ?_;refine aa ?_;refine J_ (ON _ _ m s (dS m a.to.toNat) _ g P (G.ext d) i (A.ext Flat.ext d) B (by rw[aI]) AY) ?_;rintro r X ⟨t,f⟩;rcases t with ⟨u,rfl⟩ | ⟨Q,aD,x,rfl,y⟩
   .refine aa ?_;exact⟨.inl ⟨by rw[if_pos z];exact u,aV⟩,d.trans f⟩
   .obtain⟨aE,aF,rfl,_⟩:=y.form;refine aa ?_;exact⟨.inr ⟨Q,_,by rw[if_pos z];exact x,rfl,aT.low d.size y⟩,d.trans f⟩
  refine aa ?_;apply I_<;>intro H
  .obtain⟨ae,cM,eS⟩:=N.item H;have l:a.to.toNat<m.vars.length:=cM;obtain⟨cF,aI⟩:=An l;have cG:=qV l;have cI:=ni m;have cK:=BY l;have bb:=r3 m.vars[a.to.toNat] m.scalars;have cN:=Cm (s:=s) (inst:=(q:Int)) l;have eU:=OZ m s q;obtain⟨cP,cQ⟩:=List.getElem?_eq_some_iff.1 cN;have az:((bZ m s q).vars[a.to.toNat]).length=zY m a.to.toNat:=by rw[cQ,IP,AG7];omega
   obtain⟨aB,rfl⟩:=ak.addr;obtain⟨eV,rfl⟩:=bu.addr;obtain⟨bl,bA,cS⟩:=bu.at a.to.toNat cP;obtain⟨eW,eX,rfl,_⟩:=cS.form;rw[az] at bA;refine aa ?_;refine J_ (OJ _ a.index _ (bZ m s q) aC (aX.ext k) (bt.ext (C.trans n))) ?_;rintro _ P ⟨rfl,e⟩;obtain⟨Y,bB⟩:∃Y,Y=(o.eval a.index (bZ m s q)).1:=⟨_,rfl⟩;obtain⟨aJ,bC⟩:∃aJ,aJ=(o.eval a.index (bZ m s q)).2:=⟨_,rfl⟩;have bD:∀g,wh m s a (o.eval a.index (bZ m s q)) g=if aJ≠0\/Y<1\/(zY m a.to.toNat:Int)<Y then none else o.putAt m s (dS m a.to.toNat+Y.toNat - 1) g:=λg=>by unfold wh;rw[<-bB,<-bC]
   rw[bD,<-bB,<-bC];clear bD;replace b:=e.obj b;replace c:=e.obj c;replace ao:=e.obj ao;have d:=k.trans e;have cU:=((C.trans n).trans e).cell bA;refine aa ?_;refine I_ (λS=>?_) (λS=>?_);rotate_left
   .refine aa ?_;exact⟨.inl ⟨by rw[if_neg z,if_pos H,if_pos (.inl S)],aV⟩,d⟩
   refine aa ?_;refine I_ (λaq=>?_) (λaq=>?_)
   .refine aa ?_;exact⟨.inl ⟨by rw[if_neg z,if_pos H,if_pos (.inr (.inl aq))],aV⟩,d⟩
   refine aa ?_;refine M_ a.to.toNat AY AY ?_;refine aa ?_;refine L_ cU ?_;refine aa ?_;refine I_ (λcV=>?_) (λcV=>?_)
   .refine aa ?_;exact⟨.inl ⟨by rw[if_neg z,if_pos H,if_pos (.inr (.inr AY))],aV⟩,d⟩
   have bE:=ak.ext Flat.ext d;refine aa ?_;intro X f;replace b:=f.obj b;replace c:=f.obj c;replace bE:=bE.ext Flat.ext f;have K:=d.trans f;refine aa ?_;refine M_ a.to.toNat AY AY ?_;refine aa ?_;refine J_ (ON _ _ m s (dS m a.to.toNat+Y.toNat - 1) _ g X (G.ext K) i (A.ext Flat.ext K) B (by rw[aI];omega) AY) ?_;rintro r aK ⟨t,L⟩;rcases t with ⟨u,rfl⟩ | ⟨Q,aD,x,rfl,y⟩
   .refine aa ?_;exact⟨.inl ⟨by rw[if_neg z,if_pos H,if_neg AY];exact u,aV⟩,K.trans L⟩
   .obtain⟨aE,aF,rfl,_⟩:=y.form;refine aa ?_;exact⟨.inr ⟨Q,_,by rw[if_neg z,if_pos H,if_neg AY];exact x,rfl,aT.low K.size y⟩,K.trans L⟩
  refine aa ?_;apply I_<;>intro ar
  .obtain⟨ae,l⟩:=N.loc ar;have j:a.to.toNat<(m.procs[p]'(M.aB)).vars.length:=l;have bf:=M.room;obtain⟨aB,rfl⟩:=al.addr;have bG:=al.ext Flat.ext k;refine aa ?_;intro P e;replace b:=e.obj b;replace c:=e.obj c;replace bG:=bG.ext Flat.ext e;have d:=k.trans e;refine aa ?_;rw[a5];refine aa ?_;refine J_ (ON _ _ m s (b7 m q+1+a.to.toNat) _ g P (G.ext d) i (A.ext Flat.ext d) B AY AY) ?_;rintro r X ⟨t,f⟩;rcases t with ⟨u,rfl⟩ | ⟨Q,aD,x,rfl,y⟩
   .refine aa ?_;exact⟨.inl ⟨by rw[if_neg z,if_neg H,if_pos ar];exact u,aV⟩,d.trans f⟩
   .obtain⟨aE,aF,rfl,_⟩:=y.form;refine aa ?_;exact⟨.inr ⟨Q,_,by rw[if_neg z,if_neg H,if_pos ar];exact x,rfl,aT.low d.size y⟩,d.trans f⟩
  have cW:a.kind=4:=AY
  rw[if_neg z,if_neg H,if_neg ar];obtain⟨ae,l⟩:=N.chan (.inl cW);have j:a.to.toNat<m.aA.length:=l;have bH:=i.chan _ (FA j);obtain⟨eY,rfl⟩:=a1.addr;have cX:=((a1.at a.to.toNat j).cells).ext k;refine aa ?_;refine M_ a.to.toNat AY j ?_;refine eA ?_;intro P eZ e0 e aL;replace b:=e.obj b;replace c:=e.obj c;have d:=k.trans e;refine eA ?_;simp -dsimp only[cD];refine eA ?_;intro X f;replace b:=f.obj b;replace c:=f.obj c;replace aL:=f.obj aL;have K:=d.trans f;have e4:=QO bH ch.1;have au:ue m a.to.toNat=dJ m.aA[a.to.toNat].scalar m.aA[a.to.toNat].aQ m.aA[a.to.toNat].ab m.scalars:=by unfold ue;rw[List.getElem?_eq_getElem j]
  clear cX;unfold eb.enc at aL;refine eA ?_;refine R_ [1,4,7,14,18] (λJ:Int×Int=>[(19,.I J.1),(20,.I J.2)]) (λJ cY=>Ext X cY/\J.1=(ue m a.to.toNat).aQ/\J.2=(ue m a.to.toNat).ab) ?_ ?_
  .refine aa ?_;refine I_ (λS=>?_) (λS=>?_)
   .have U:=bH.fa.resolve_left AY;obtain⟨V,ai,e7,c0⟩:∃(V:Nat) (ai:V<m.scalars.length),m.aA[a.to.toNat].scalar=(V:Int)+1/\o.size m.aA[a.to.toNat].scalar m.scalars=m.scalars[V].size:=by
     unfold o.size at U ⊢;cases aP:m.scalars[(m.aA[a.to.toNat].scalar - 1).toNat]? with
     | none=>rw[aP] at U;exact absurd rfl U
     | some J =>
      rw[aP] at U;obtain⟨ai,rfl⟩:=List.getElem?_eq_some_iff.1 aP;simp only at U ⊢;split at U
      .rename_i c1;exact⟨_,ai,AY,by rw[if_pos c1]⟩
      .exact absurd rfl U
    obtain⟨e8,rfl⟩:=a0.addr;have e9:=((a0.at V ai).cells).ext K;refine aa ?_;refine M_ V AY ai ?_;refine aa ?_;intro aK L;refine aa ?_;refine⟨(0,m.scalars[V].size),⟨rfl,rfl,trivial⟩,L,?_,?_⟩
    .rw[au];unfold dJ;rw[if_neg AY]
    .rw[au];unfold dJ;rw[if_neg AY];exact c0.symm
   .refine aa ?_;refine⟨(m.aA[a.to.toNat].aQ,m.aA[a.to.toNat].ab),⟨rfl,rfl,trivial⟩,Ext.refl _,?_,?_⟩
    .rw[au];unfold dJ;rw[if_pos AY]
    .rw[au];unfold dJ;rw[if_pos AY]
  rintro⟨c2,c3⟩ fa aK ⟨L,bI,bJ⟩;simp only at bI bJ;replace b:=L.obj b;replace c:=L.obj c;have Z:=K.trans L;have fc:=Z.size;rw[show u7 m s a.to.toNat g=if g<c2\/c3<g then none else (l6 (o.chanOf m s a.to.toNat) g).map (hQ s (bS m a.to.toNat)) from by unfold u7;rw[<-bI,<-bJ]];refine aa ?_;refine I_ (λS=>?_) (λS=>?_)
  .refine aa ?_;exact⟨.inl ⟨by rw[if_pos (.inl S)],aV⟩,Z⟩
  refine aa ?_;refine I_ (λaq=>?_) (λaq=>?_)
  .refine aa ?_;exact⟨.inl ⟨by rw[if_pos (.inr AY)],aV⟩,Z⟩
  rw[if_neg AY];have aw:a.to=(a.to.toNat:Nat):=AY
  rw[aw] at c;have bb:(o.chanOf m s a.to.toNat).length=1+gq m a.to.toNat:=pJ (by rw[B];exact mj j);have bf:=aah i j;refine aa ?_;refine J_ (Vn _ _ m s a.to.toNat aK (G.ext Z) i (A.ext Flat.ext Z) B j) ?_;rintro r c4 ⟨af,aQ⟩;obtain⟨cp,cq,rfl,_⟩:=af.form;replace b:=aQ.obj b;replace c:=aQ.obj c;have c5:=Z.trans aQ;refine aa ?_;refine J_ (axw _ _ g c4 af AY) ?_;rintro r c8 ⟨t,aR⟩;replace b:=aR.obj b;replace c:=aR.obj c;have aj:=c5.trans aR;rcases t with ⟨u,rfl⟩ | ⟨ag,bl,x,rfl,ah⟩
  .refine aa ?_;exact⟨.inl ⟨by rw[u];rfl,aV⟩,aj⟩
  .obtain⟨ct,cu,rfl,_⟩:=ah.form;have az:=Ij x;refine aa ?_;refine J_ (Vz _ _ _ m s ag a.to.toNat c8 (G.ext aj) i (A.ext Flat.ext aj) (ha ah) B j AY) ?_;rintro r fe ⟨bK,db⟩;obtain⟨cv,cw,rfl,_⟩:=bK.form;refine aa ?_;exact⟨.inr ⟨_,_,by rw[x];rfl,rfl,aT.low aj.size bK⟩,aj.trans db⟩
end Go.Proofs.R
namespace o
open Go
def Qk(m:Model)(q:Nat)(l:C_ Act)(s:C_ Int){k:Nat}(a:k<l.length):jj m q (l.take (k+1)) s=match jj m q (l.take k) s with | none=>none | some b=>hr m b q l[k]:=by
 rw[Oi a,ZA]<;>rfl
theorem Qj(m:Model)(q:Nat):∀(c:C_ Act) (b:C_ Int) (d:Nat),jj m q (c.take d) b=none->jj m q c b=none
 | [],b,d,a=>by simp[jj] at a
 | e :: c,b,0,a=>by simp[jj] at a
 | e :: c,b,d+1,a=>by
  simp only[List.take_succ_cons,jj] at a ⊢;cases f:hr m b q e with
  | none=>rfl
  | some g=>rw[f] at a;exact Qj m q c g d a
end o
namespace Go.Proofs.R
open Go Go.RowKit ba o
def awy(cs:C_ B_)(v:B_)(m:o.Model)(s:C_ Int)(ref:Int)(q p k:Nat)(w:A_)(h:oj w cs m)(ae:m.cB)(r:cl w v s)(C:o.Fits m s)(l:gf m ref q p k) :
  EL F.N3 #[.agg cs.toArray,v,.I ref] w λO af=>Y9 w.heap.size (hs m s q (cT m p k)) O af/\Ext w af:=by
 have ag:=h;have u:=gA l.ok;obtain⟨aX,aY,aZ,a0,a1,a3,a5,a7,a8,a9,bb,bf,bk,bg,b5,bj,bl,bo,bp,bq,b6,b8,b9,ca,rfl,bt,bu,cb,cc,P,ch,cj,cm,cp,cq,cr,ct,ah⟩:=h.form;obtain⟨cu,bw,rfl,cv⟩:=r.form;have G:=l.inst;have Q:=l.cin;have bx:=Q.gT;have ai:=G.ax;have cw:=C.len;have cx:cH m<=64:=ij u;have cy:=G.room;obtain⟨x,rfl⟩:=Uh l.aQ;have cz:x<(o.refs m).length:=l.ab;have bz:(o.refs m)[x].inst=(q:Int):=l.at_.rH;have bA:(o.refs m)[x].cmd=(k:Int):=l.at_.sD;obtain⟨cB,aj⟩:=qH ai;obtain⟨cE,rfl⟩:=ah.addr;obtain⟨bB,rfl⟩:=P.addr;obtain⟨bC,rfl⟩:=r.addr;have bD:=Rh u C ai;obtain⟨a,ak⟩:∃a,a=cT m p k:=⟨_,rfl⟩;rw[<-ak] at Q bx ⊢;refine bn E.N3 ?_;refine aa ?_;intro cF cG cI al b;have bE:=ah.ext Flat.ext al;refine aa ?_;intro bG cK cL an d;have bH:(o.refs m)[x].enc=[.I q,.I k]:=by unfold o.Ref.enc;rw[bz,bA]
 rw[bH] at d;replace b:=an.obj b;have ao:=al.trans an;clear bE;refine aa ?_;refine J_ (Vi _ m x q p k bG (ag.ext ao) l) ?_;rintro _ cM ⟨⟨cN,cP,rfl,H,I⟩,y⟩;rw[<-ak] at H I ⊢;obtain⟨cQ,cS,rfl,_⟩:=H.form;obtain⟨cU,cV,rfl,_⟩:=I.form;replace b:=y.obj b;replace d:=y.obj d;have bI:=ao.trans y;unfold ew.enc;refine aa ?_;intro cW cX cY z e;replace b:=z.obj b;replace d:=z.obj d;have S:=bI.trans z;have bJ:=r.ext Flat.ext S;have bK:=P.ext Flat.ext S;have aq:=H.ext (y.trans z);have ar:=I.ext (y.trans z);clear H I;refine aa ?_;refine M_ (b7 m q) (by rw[aj]) AY ?_;refine aa ?_;intro au t;replace b:=t.obj b;replace d:=t.obj d;replace e:=t.obj e;have A:=S.trans t;have bL:=aq.ext t;have av:=ar.ext t;have aw:s[b7 m q]? = some (s[b7 m q]' AY):=List.getElem?_eq_getElem AY;clear aq ar bJ bK;refine eA ?_;apply I_<;>intro ax;rotate_left
 .refine aa ?_;exact⟨.inl ⟨by unfold hs;rw[aw,if_pos (by simpa using ax)],aV⟩,A⟩
 have B:hs m s q a=if 0<a.guard.length/\((o.eval a.guard (bZ m s q)).2≠0\/(o.eval a.guard (bZ m s q)).1=0) then none else (jj m q a.b6 s).map λj=>j.set (b7 m q) a.to:=by
  unfold hs;rw[aw,if_neg (by simpa using ax)]
 have bM:=b;have bN:=d;have ay:=e;refine eA ?_;refine R_ [1,3,8,9] (λ_:Unit=>[]) (λ_ J=>Ext au J/\¬(0<a.guard.length/\((o.eval a.guard (bZ m s q)).2≠0\/(o.eval a.guard (bZ m s q)).1=0))) ?_ ?_
 .refine aa ?_;apply I_<;>intro bO;rotate_left
  .refine aa ?_;exact⟨(),trivial,Ext.refl _,λaz=>AY⟩
  have c0:=r.ext Flat.ext A;refine aa ?_;intro aB f;replace b:=f.obj b;replace d:=f.obj d;replace e:=f.obj e;have K:=A.trans f;refine aa ?_;refine _U [.slice aX m.scalars.length aY,.slice aZ m.vars.length a0,.slice a1 m.aA.length a3,.slice a5 m.procs.length a7,.slice a8 m.props.length a9] b rfl rfl ?_;refine aa ?_;refine _U [.slice bb (o.layout m).vars.length bf,.slice bk (o.layout m).aA.length bg,.slice (some bB) (o.layout m).insts.length bj,.I (o.layout m).cells,.slice bl (o.layout m).aQ.length bo,.slice bp (o.layout m).ab.length bq] b rfl rfl ?_;refine aa ?_;refine J_ (VF _ _ _ m s q aB (bt.ext K) ae u (bu.ext K) (r.ext Flat.ext K) C AY AY) ?_;rintro _ aC ⟨⟨c1,rfl,aD⟩,g⟩;have bQ:=Kq aD.here bD;refine⟨g,?_⟩;refine aa ?_;refine J_ (OJ _ a.guard _ (bZ m s q) aC (bL.ext (f.trans g)) bQ) ?_;rintro _ U ⟨rfl,c⟩;obtain⟨i,aE⟩:∃i,i=(o.eval a.guard (bZ m s q)).1:=⟨_,rfl⟩;obtain⟨aF,aG⟩:∃aF,aF=(o.eval a.guard (bZ m s q)).2:=⟨_,rfl⟩;rw[<-aE,<-aG];rw[<-aE,<-aG] at B;have n:=(K.trans g).trans c;refine aa ?_;refine I_ (λV=>?_) (λV=>?_);rotate_left
  .refine aa ?_;exact⟨.inl ⟨by rw[B,if_pos ⟨AY,.inl V⟩],aV⟩,n⟩
  refine aa ?_;refine I_ (λW=>?_) (λW=>?_)
  .refine aa ?_;exact⟨.inl ⟨by rw[B,if_pos ⟨AY,.inr W⟩],aV⟩,n⟩
  .refine aa ?_;exact⟨(),trivial,(f.trans g).trans c,λaz=>by rcases az.2 with h | h;exact h V;exact W h⟩
 clear b d e;rintro _ c2 aB ⟨f,aH⟩;have aI:hs m s q a=(jj m q a.b6 s).map λj=>j.set (b7 m q) a.to:=by rw[B,if_neg aH]
 rw[aI];clear B aH aI;have e:=f.obj ay;refine aa ?_;refine K_ 13 a.b6.length [1,3,8,9] (λv:ez=>[(12,.slice v.1 v.2.1 v.2.2)]) (some bC,s.length,bw) (λi v J=>Ext au J/\∃j,jj m q (a.b6.take i) s=some j/\cl J (.slice v.1 v.2.1 v.2.2) j/\o.Fits m j) aW aW ⟨f,s,rfl,r.ext Flat.ext (A.trans f),C⟩ ?_;clear e f;rintro i bU c3 aC aD ⟨g,j,X,Y,Z⟩;have b:=g.obj bM;have d:=g.obj bN;have e:=g.obj ay;have bV:=av.ext g;have ab:=A.trans g;refine aa ?_;apply I_<;>intro bO
 .have L:i<a.b6.length:=AY
  obtain⟨c4,rfl⟩:=av.addr;obtain⟨c5,c8,aJ,aK,aL⟩:=bV.at i L;have aP:=Q.act i L;obtain⟨db,dc,rfl,_⟩:=aK.form;obtain⟨dd,de,rfl,_⟩:=aL.form;refine aa ?_;intro U c;replace b:=c.obj b;replace d:=c.obj d;replace e:=c.obj e;replace aJ:=aJ.ext c;have n:=ab.trans c;refine aa ?_;refine J_ (awu _ _ _ _ m j q p a.b6[i] U (ag.ext n) ae u (Y.ext Flat.ext c) Z G (aK.ext c) (aL.ext c) aP) ?_;rintro O bW ⟨bX,M⟩;have N:=Qk m q a.b6 s L;rw[X] at N;simp only at N;rcases bX with ⟨bY,rfl⟩ | ⟨b0,df,aQ,rfl,aR⟩
  .refine aa ?_;exact⟨.inl ⟨by rw[Qj m q a.b6 s (i+1) (N.trans bY)];rfl,aV⟩,n.trans M⟩
  .obtain⟨b1,b3,rfl,_⟩:=aR.form;refine aa ?_;exact⟨L,aV,(b1,_,b3),⟨rfl,trivial⟩,(g.trans c).trans M,b0,N.trans aQ,ha aR,Qi u G aP Z aQ⟩
 .have b4:i=a.b6.length:=AY
  subst b4;rw[AG9] at X;rw[X];obtain⟨di,dj,dN⟩:=bU;obtain⟨_,_,dk,_⟩:=Y.form;have dp:=Z.len;have aS:=P.ext Flat.ext ab;refine aa ?_;intro U c;replace b:=c.obj b;replace d:=c.obj d;replace e:=c.obj e;replace aS:=aS.ext Flat.ext c;have n:=ab.trans c;refine aa ?_;refine J_ (ahc _ j (b7 m q) a.to _ (Y.ext Flat.ext c) (by rw[aj]) AY AY) ?_;rintro O bW ⟨aU,M⟩;obtain⟨dq,dr,rfl,_⟩:=aU.form;refine aa ?_;exact⟨.inr ⟨_,_,rfl,rfl,aT.low n.size aU⟩,n.trans M⟩
end Go.Proofs.R
namespace o
open Go
def lost(m:Model)(s t:C_ Int)(c:ew):C_ Int:=hQ t (bS m (comm c.b6).2.toNat) (chanOf m s (comm c.b6).2.toNat)
structure I5(m:Model)(s:List Int)(ref eH:Int)(t:List Int)(e:Int):Prop where
 f0:¬(hH m s/\Told m ref)->t=[]/\e=2
 f1:∀q p k,hH m s->gf m ref q p k->¬(0<=eH/\eH<ways (cT m p k) m.aA)->t=[]/\e=2
 f2:∀q p k,hH m s->gf m ref q p k->0<=eH/\eH<ways (cT m p k) m.aA->hs m s q (cT m p k)=none->t=[]/\e=15
 f3:∀q p k u,hH m s->gf m ref q p k->0<=eH/\eH<ways (cT m p k) m.aA->hs m s q (cT m p k)=some u->t=(if eH=1 then lost m s u (cT m p k) else u)/\e=0
theorem I5.none{m:Model}{s:C_ Int}{ref a:Int}{q p k:Nat}(b:gf m ref q p k)(f:hH m s)(g:0<=a/\a<ways (cT m p k) m.aA)(h:hs m s q (cT m p k)=Option.none):I5 m s ref a [] 15 :=
 ⟨λc=>absurd ⟨f,b.told⟩ c,λi j l _ d c=>(by obtain⟨rfl,rfl,rfl⟩:=b.one d;exact absurd g c),λ_ _ _ _ _ _ _=>⟨rfl,rfl⟩,λi j l n _ d _ e=>by obtain⟨rfl,rfl,rfl⟩:=b.one d;rw[h] at e;cases e⟩
def I5.some{m:Model}{s e:C_ Int}{ref c:Int}{q p k:Nat}(d:gf m ref q p k)(l:hH m s)(n:0<=c/\c<ways (cT m p k) m.aA)(h:hs m s q (cT m p k)=Option.some e):I5 m s ref c (if c=1 then lost m s e (cT m p k) else e) 0 :=
 ⟨λf=>absurd ⟨l,d.told⟩ f,λg i j _ b f=>(by obtain⟨rfl,rfl,rfl⟩:=d.one b;exact absurd n f),λg i j _ b _ a=>(by obtain⟨rfl,rfl,rfl⟩:=d.one b;rw[h] at a;cases a),
  λg i j r _ b _ a=>by obtain⟨rfl,rfl,rfl⟩:=d.one b;rw[h] at a;injection a with a;subst a;exact⟨rfl,rfl⟩⟩
def azh{c:ew}{l:C_ eb}(h:1<ways c l):∃a:Nat,(comm c.b6).2=a/\a<l.length/\(comm c.b6).1=4:=by
 unfold ways at h;split at h
 .rename_i d;cases b:nth l (comm c.b6).2 with
  | none=>rw[b] at h;simp at h
  | some f =>
   obtain⟨g,_,e⟩:=z6 b;exact⟨(comm c.b6).2.toNat,AY,e,d⟩
 .omega
def aaE{m:Model}{s t:C_ Int}{ref:Int}{q p k:Nat}(a:gf m ref q p k)(b:Fits m s)(h:hs m s q (cT m p k)=some t):t.length=cH m :=
 (al9 a.inst.ax rfl a.cin b.len h).1.trans b.len
end o
namespace Go.Proofs.R
open Go Go.RowKit ba
def Vm(cs:C_ B_)(v:B_)(m:o.Model)(s:C_ Int)(w:A_)(h:oj w cs m)(e:o.gh m)(c:cl w v s) :
  EL F.NX #[.agg cs.toArray,v] w λf g=>(∃a:Bool,f = .bool a/\(a=true↔o.Fits m s))/\Ext w g:=by
 obtain⟨i,j,k,l,n,p,q,r,t,u,x,y,z,bg,A,bj,B,C,G,H,N,O,P,Q,rfl,I,J,_⟩:=h.form;obtain⟨S,U,rfl,V⟩:=c.form;refine bn E.NX ?_;refine aa ?_;intro K W X b d;refine aa ?_;refine _U [.slice i m.scalars.length j,.slice k m.vars.length l,.slice n m.aA.length p,.slice q m.procs.length r,.slice t m.props.length u] d rfl rfl ?_;refine aa ?_;refine _U [.slice x (o.layout m).vars.length y,.slice z (o.layout m).aA.length bg,.slice A (o.layout m).insts.length bj,.I (o.layout m).cells,.slice B (o.layout m).aQ.length C,.slice G (o.layout m).ab.length H] d rfl rfl ?_;refine aa ?_;refine J_ (Vj _ _ m _ s K (I.ext b) (J.ext b) e (c.ext Flat.ext b)) ?_;rintro _ Y ⟨⟨a,rfl,L⟩,M⟩;refine aa ?_;exact⟨⟨a,rfl,L⟩,b.trans M⟩
end Go.Proofs.R
namespace o
open Go
structure jE where
 cmd:Int
 eH:Int
 to:List Int
def Ig(m:Model)(q:Nat):Nat:=match (insts m)[q]? with
 | some a=>a.proc.toNat
 | none=>0
def kh(m:Model)(s:C_ Int)(r:Nat):C_ jE:=match (refs m)[r]? with
 | none=>[]
 | some a=>match hs m s a.inst.toNat (cT m (Ig m a.inst.toNat) a.cmd.toNat) with
  | none=>[]
  | some b=>⟨r,0,b⟩ :: if ways (cT m (Ig m a.inst.toNat) a.cmd.toNat) m.aA=2 then [⟨r,1,lost m s b (cT m (Ig m a.inst.toNat) a.cmd.toNat)⟩] else []
def hi(m:Model)(s:C_ Int)(n:Nat):C_ jE:=(List.range n).flatMap (kh m s)
def ek(m:Model)(s:C_ Int):C_ jE:=match hi m s (refs m).length with
 | []=>[⟨-1,0,s⟩]
 | l=>l
def HZ(m:Model)(s:C_ Int)(n:Nat):hi m s (n+1)=hi m s n++kh m s n:=by
 unfold hi;rw[AI8,AJ6];simp
def auo(m:Model)(s:C_ Int)(r:Nat):(kh m s r).length<=2:=by
 unfold kh;split
 .simp
 .split
  .simp
  .split<;>simp
theorem UB(m:Model)(s:C_ Int):∀a,(hi m s a).length<=2*a
 | 0=>by simp[hi]
 | a+1=>by
  rw[HZ,JM]
  have:=UB m s a
  have:=auo m s a
  omega
theorem gf.kh{m:Model}{r q p k:Nat}(h:gf m r q p k)(s:C_ Int):kh m s r=match hs m s q (cT m p k) with
  | none=>[]
  | some b=>⟨r,0,b⟩ :: if ways (cT m p k) m.aA=2 then [⟨r,1,lost m s b (cT m p k)⟩] else []:=by
 have c:=h.ab;have a:=h.at_;simp only[Int.toNat_natCast] at c a;have d:(refs m)[r].inst.toNat=q:=by have:=a.rH;omega
 have e:(refs m)[r].cmd.toNat=k:=by have:=a.sD;omega
 have f:Ig m q=p:=by
  unfold Ig;rw[List.getElem?_eq_getElem a.ab]
  have:=a.ip
  simp only;omega
 unfold o.kh;rw[List.getElem?_eq_getElem c];simp only[d,e,f]
def gf.off{m:Model}{r q p k:Nat}(h:gf m r q p k){s:C_ Int}(a:hs m s q (cT m p k)=none):o.kh m s r=[]:=by rw[h.kh,a]
def gf.H6{m:Model}{r q p k:Nat}(h:gf m r q p k){s t:C_ Int}(a:hs m s q (cT m p k)=some t)(b:¬ways (cT m p k) m.aA=2):o.kh m s r=[⟨r,0,t⟩]:=by
 rw[h.kh,a];simp only[if_neg b]
def gf.H7{m:Model}{r q p k:Nat}(h:gf m r q p k){s t:C_ Int}(a:hs m s q (cT m p k)=some t)(b:ways (cT m p k) m.aA=2):o.kh m s r=[⟨r,0,t⟩,⟨r,1,lost m s t (cT m p k)⟩]:=by
 rw[h.kh,a];simp only[if_pos b]
structure AA(m:Model)(s:List Int)(x:jE)(q p k:Nat)(u:List Int):Prop where
 at_:gf m x.cmd q p k
 aa0:hs m s q (cT m p k)=some u
 aiD:x.eH=0/\x.to=u\/x.eH=1/\ways (cT m p k) m.aA=2/\x.to=lost m s u (cT m p k)
theorem H0{m:Model}{s:C_ Int}{r:Nat}(h:(check m).bK=0)(i:r<(refs m).length){x:jE}(a:x∈kh m s r):∃d b c g,AA m s x d b c g/\x.cmd=r:=by
 obtain⟨d,b,c,e⟩:=F1 (m:=m) (ref:=r) ⟨h,AY,AY⟩;cases f:hs m s d (cT m b c) with
 | none=>rw[e.off f] at a;cases a
 | some g =>
  by_cases hw:ways (cT m b c) m.aA=2
  .rw[e.H7 f hw] at a;simp only[List.mem_cons,List.not_mem_nil,or_false] at a;rcases a with rfl | rfl
   .exact⟨d,b,c,g,⟨e,f,.inl ⟨rfl,rfl⟩⟩,rfl⟩
   .exact⟨d,b,c,g,⟨e,f,.inr ⟨rfl,hw,rfl⟩⟩,rfl⟩
  .rw[e.H6 f hw] at a;simp only[List.mem_cons,List.not_mem_nil,or_false] at a;subst a;exact⟨d,b,c,g,⟨e,f,.inl ⟨rfl,rfl⟩⟩,rfl⟩
def Oc{m:Model}{s:C_ Int}(g:(check m).bK=0){x:jE}(a:x∈ek m s):(x.cmd = -1/\x.eH=0/\x.to=s)\/∃b c d e,AA m s x b c d e:=by
 have h:x∈hi m s (refs m).length->∃b c d e,AA m s x b c d e:=λf=>by
  unfold hi at f;obtain⟨j,i,a⟩:=List.mem_flatMap.1 f;obtain⟨b,c,d,e,f,_⟩:=H0 g (List.mem_range.1 i) a;exact⟨b,c,d,e,f⟩
 unfold ek at a;split at a
 .simp only[List.mem_cons,List.not_mem_nil,or_false] at a;subst a;exact .inl ⟨rfl,rfl,rfl⟩
 .exact .inr (h a)
def Pn{m:Model}{c:ew}(h:ways c m.aA=2):∃a:Nat,(comm c.b6).2=a/\a<m.aA.length:=by
 obtain⟨a,b,d,_⟩:=azh (c:=c) (l:=m.aA) AY;exact⟨a,b,d⟩
def atW{m:Model}{f b:Int->Int->Int}(d:eD m.scalars f b){s t e v:C_ Int}(h:fB m f s t)(k:fB m f e v){c:ew}(g:ways c m.aA=2):fB m f (lost m s e c) (lost m t v c):=by
 obtain⟨j,i,a⟩:=Pn g;unfold lost;rw[i,AG2,h.chan d a];have l:=mj a;exact k.Eb d a (pJ (by rw[h.ls];omega))
theorem Vt(m:Model):∀(e:C_ c9) (d:Nat),(mE m e d).Pairwise (λb a=>b.inst<a.inst\/b.inst=a.inst/\b.cmd<a.cmd)/\∀b∈mE m e d,(d:Int)<=b.inst
 | [],_=>⟨List.Pairwise.nil,λb i=>by simp[mE] at i⟩
 | b :: j,d=>by
  obtain⟨k,f⟩:=Vt m j (d+1);have g:∀a∈refsOf d (p2 m b),a.inst=d:=λa c=>by
   unfold refsOf at c;obtain⟨q,_,rfl⟩:=List.mem_map.1 c;rfl
  simp only[mE];refine⟨List.pairwise_append.2 ⟨?_,k,λh l n p=>.inl ?_⟩,λa c=>?_⟩
  .unfold refsOf;rw[List.pairwise_map];exact List.Pairwise.imp (λ{h r} s=>.inr ⟨rfl,by simp only;omega⟩) List.pairwise_lt_range
  .rw[g h l]
   have:=f n p
   omega
  .rcases List.mem_append.1 c with c | c
   .rw[g a c];omega
   .have:=f a c
    omega
def aho{m:Model}{q r:Nat}(b:q<(refs m).length)(c:r<(refs m).length)(e:(refs m)[q].inst=(refs m)[r].inst)(f:(refs m)[q].cmd=(refs m)[r].cmd):q=r:=by
 have a:=(Vt m (insts m) 0).1;rw[AK0] at a;rcases AK6 q r with h | h | h
 .have:=a q r b c h
  have d:(refs m)[q].inst<(refs m)[r].inst\/(refs m)[q].inst=(refs m)[r].inst/\(refs m)[q].cmd<(refs m)[r].cmd:=this;omega
 .exact h
 .have:=a r q c b h
  have d:(refs m)[r].inst<(refs m)[q].inst\/(refs m)[r].inst=(refs m)[q].inst/\(refs m)[r].cmd<(refs m)[q].cmd:=this;omega
theorem ahl{m:Model}:∀(c:C_ c9) (a b d:Nat) (e:b<c.length),d<p2 m c[b]->(⟨((a+b:Nat):Int),(d:Int)⟩:Ref)∈mE m c a
 | [],_,_,_,e,_=>by simp at e
 | g :: c,a,0,d,_,f=>by
  simp only[mE];refine AI7 _ ?_;unfold refsOf;exact List.mem_map.2 ⟨d,List.mem_range.2 f,Ah⟩
 | g :: c,a,b+1,d,e,f=>by
  simp only[mE];refine AJ0 _ ?_
  have:=ahl c (a+1) b d (by simpa using e) (by simpa using f)
  rwa[show a+1+b=a+(b+1) from AY] at this
def aw1{m:Model}(f:(check m).bK=0){q p k:Nat}(a:hF m q p)(h:k<(m.procs[p]'a.aB).cP.length):∃b:Nat,gf m b q p k:=by
 have g:p2 m ((insts m)[q]'a.ax)=(m.procs[p]'a.aB).cP.length:=by
  unfold p2;rw[a.nth]
 have e:=ahl (m:=m) (insts m) 0 q k a.ax (by rw[g];exact h);rw[ZQ] at e;obtain⟨b,c,d⟩:=List.mem_iff_getElem.1 e;have d:(refs m)[b]'c=⟨(q:Int),(k:Int)⟩:=d;have i:(refs m)[(b:Int).toNat]'(by rw[AG2];exact c)=⟨(q:Int),(k:Int)⟩:=d;refine⟨b,f,AY,by rw[AG2];exact c,?_⟩;rw[i];exact⟨a.ax,rfl,a.eq,a.aB,rfl,h⟩
def al5{m:Model}{r a q p k:Nat}(h:gf m r q p k)(b:gf m a q p k):r=a:=by
 have c:=h.at_;have d:=b.at_
 have:=h.ab
 have:=b.ab
 exact aho (q:=r) (r:=a) AY AY (c.rH.trans d.rH.symm) (c.sD.trans d.sD.symm)
structure pG(m:Model)(f:Int->Int->Int)(r eh:Nat)(q q' p k:Nat):Prop where
 a:gf m r q p k
 b:gf m eh q' p k
 i:jD m f q q' p
def OK{m:Model}{f b:Int->Int->Int}(l:eD m.scalars f b)(j:(check m).bK=0){r:Nat}(h:r<(refs m).length):∃a c d e g,pG m f r a c d e g:=by
 obtain⟨c,e,g,i⟩:=F1 (m:=m) (ref:=r) ⟨j,AY,AY⟩;obtain⟨d,k⟩:=Ea l i.inst;obtain⟨a,n⟩:=aw1 j k.b i.at_.J;exact⟨a,c,d,e,g,i,n,k⟩
theorem pG.symm{m:Model}{f b:Int->Int->Int}(c:eD m.scalars f b){r a q q' p k:Nat}(h:pG m f r a q q' p k):pG m b a r q' q p k:=⟨h.b,h.a,h.i.symm c⟩
theorem pG.one{m:Model}{f:Int->Int->Int}{r d e q q' p k a i b c:Nat}(h:pG m f r d q q' p k)(g:pG m f r e a i b c):d=e:=by
 obtain⟨rfl,rfl,rfl⟩:=h.a.one g.a
 have:=(h.i.one g.i).1
 subst this;exact al5 h.b g.b
theorem gf.e{m:Model}{r:Int}{q p k:Nat}(h:gf m r q p k):I3 (inner (m.procs[p]'(h.at_.aB)) (fm m)) (cT m p k):=by
 rw[Dh h.at_.aB h.at_.J];exact al8 h.ok h.at_.aB h.at_.J
theorem afZ{m:Model}{f b:Int->Int->Int}(g:eD m.scalars f b){s t:C_ Int}(h:fB m f s t){r i q q' p k:Nat}(a:pG m f r i q q' p k) :
  (kh m t i).length=(kh m s r).length/\∀d∈kh m s r,∃l∈kh m t i,l.eH=d.eH/\fB m f d.to l.to:=by
 cases e:hs m s q (cT m p k) with
 | none =>
  rw[a.a.off e,a.b.off (amd g a.i a.a.e h e)];exact⟨rfl,λd c=>by cases c⟩
 | some u =>
  obtain⟨v,n,j⟩:=aaF g a.i a.a.e h e;by_cases hw:ways (cT m p k) m.aA=2
  .rw[a.a.H7 e hw,a.b.H7 n hw];refine⟨rfl,λd c=>?_⟩;simp only[List.mem_cons,List.not_mem_nil,or_false] at c;rcases c with rfl | rfl
   .exact⟨_,AG3 ..,rfl,j⟩
   .exact⟨_,AG4 _ (AG3 ..),rfl,atW g h j hw⟩
  .rw[a.a.H6 e hw,a.b.H6 n hw];refine⟨rfl,λd c=>?_⟩;simp only[List.mem_cons,List.not_mem_nil,or_false] at c;subst c;exact⟨_,AG3 ..,rfl,j⟩
def aw3{m:Model}{f b:Int->Int->Int}(i:eD m.scalars f b)(n:(check m).bK=0):∃p:Nat->Nat,(∀a,a<(refs m).length->∃d e g h,pG m f a (p a) d e g h)/\((List.range (refs m).length).map p).Perm (List.range (refs m).length):=by
 have j:∀a,∃k,a<(refs m).length->∃d e g h,pG m f a k d e g h:=λa=>by
  by_cases q:a<(refs m).length
  .obtain⟨k,c⟩:=OK i n q;exact⟨k,λ_=>c⟩
  .exact⟨a,λc=>absurd c q⟩
 refine⟨λa=>Classical.choose (j a),λa=>Classical.choose_spec (j a),?_⟩;refine Ov _ _ AL1 Ah λu r=>?_;obtain⟨a,d,e,g,h,c⟩:=OK i.symm n (List.mem_range.1 r);have s:=c.symm i.symm;have l:=c.b.ab;rw[AG2] at l;obtain⟨_,_,_,_,t⟩:=Classical.choose_spec (j a) l;exact List.mem_map.2 ⟨a,List.mem_range.2 l,t.one s⟩
def afU{m:Model}{f b:Int->Int->Int}(a:eD m.scalars f b)(c:(check m).bK=0){s t:C_ Int}(h:fB m f s t):(hi m t (refs m).length).length=(hi m s (refs m).length).length:=by
 obtain⟨k,d,e⟩:=aw3 a c;unfold hi;rw[<-(e.flatMap_right _).length_eq,List.length_flatMap,List.length_flatMap,List.map_map];congr 1;refine AI4 λg i=>?_;obtain⟨_,_,_,_,j⟩:=d g (List.mem_range.1 i);exact(afZ a h j).1
theorem aug{m:Model}{f b:Int->Int->Int}(d:eD m.scalars f b)(e:(check m).bK=0){s t:C_ Int}(h:fB m f s t):(ek m t).length=(ek m s).length:=by
 have:=afU d e h
 unfold ek;cases a:hi m s (refs m).length with
 | nil =>
  rw[a] at this;rw[AF8 this];rfl
 | cons g i =>
  cases c:hi m t (refs m).length with
  | nil=>rw[a,c] at this;simp at this
  | cons j k=>rw[a,c] at this;exact this
theorem afV{m:Model}{f b:Int->Int->Int}(j:eD m.scalars f b)(i:(check m).bK=0){s t:C_ Int}(h:fB m f s t){x:jE}(c:x∈ek m s) :
  ∃a∈ek m t,a.eH=x.eH/\fB m f x.to a.to/\((x.cmd = -1/\a.cmd = -1)\/∃e d k l n p,x.cmd=((e:Nat):Int)/\a.cmd=((d:Nat):Int)/\pG m f e d k l n p):=by
 have g:=afU j i h;unfold ek at c ⊢;cases q:hi m s (refs m).length with
 | nil =>
  rw[q] at g c;rw[AF8 g];simp only[List.mem_cons,List.not_mem_nil,or_false] at c;subst c;exact⟨⟨-1,0,t⟩,AG3 ..,rfl,h,.inl ⟨rfl,rfl⟩⟩
 | cons I J =>
  rw[q] at g c;have w:x∈hi m s (refs m).length:=by rw[q];exact c
  unfold hi at w;obtain⟨e,y,z⟩:=List.mem_flatMap.1 w;obtain⟨d,k,l,n,p,r⟩:=OK j i (List.mem_range.1 y);obtain⟨a,A,G,H⟩:=(afZ j h r).2 x z;have u:=r.b.ab;rw[AG2] at u;have B:a∈hi m t (refs m).length:=List.mem_flatMap.2 ⟨d,List.mem_range.2 u,A⟩;have bg:x.cmd=e:=by obtain⟨_,_,_,_,_,v⟩:=H0 i (List.mem_range.1 y) z;exact v
  have bj:a.cmd=d:=by obtain⟨_,_,_,_,_,v⟩:=H0 i u A;exact v
  cases C:hi m t (refs m).length with
  | nil=>rw[C] at g;simp at g
  | cons K L =>
   rw[C] at B;exact⟨a,B,G,H,.inr ⟨e,d,k,l,n,p,bg,bj,r⟩⟩
theorem auh{m:Model}(h:(check m).bK=0){s:C_ Int}{x y:jE}(d:x∈ek m s)(e:y∈ek m s)(B:x.cmd=y.cmd)(p:x.eH=y.eH):x=y:=by
 have t:∀{b f:Nat},b<(refs m).length->f<(refs m).length->x∈kh m s b->y∈kh m s f->x=y:=λ{b f} i j a c=>by
  have bg:x.cmd=b:=by obtain⟨_,_,_,_,_,k⟩:=H0 h i a;exact k
  have bj:y.cmd=f:=by obtain⟨_,_,_,_,_,k⟩:=H0 h j c;exact k
  have:b=f:=AY
  subst this;obtain⟨u,q,r,l⟩:=F1 (m:=m) (ref:=b) ⟨h,AY,AY⟩;cases n:hs m s u (cT m q r) with
  | none=>rw[l.off n] at a;cases a
  | some C =>
   by_cases hw:ways (cT m q r) m.aA=2
   .rw[l.H7 n hw] at a c;simp only[List.mem_cons,List.not_mem_nil,or_false] at a c;rcases a with rfl | rfl<;>rcases c with rfl | rfl
    .rfl
    .simp at p
    .simp at p
    .rfl
   .rw[l.H6 n hw] at a c;simp only[List.mem_cons,List.not_mem_nil,or_false] at a c;rw[a,c]
 unfold ek at d e;cases g:hi m s (refs m).length with
 | nil =>
  rw[g] at d e;simp only[List.mem_cons,List.not_mem_nil,or_false] at d e;rw[d,e]
 | cons a G =>
  rw[g] at d e;have v:x∈hi m s (refs m).length:=by rw[g];exact d
  have w:y∈hi m s (refs m).length:=by rw[g];exact e
  obtain⟨b,i,z⟩:=List.mem_flatMap.1 v;obtain⟨f,j,A⟩:=List.mem_flatMap.1 w;exact t (List.mem_range.1 i) (List.mem_range.1 j) z A
def azf(c:ew)(l:C_ eb):ways c l<=2:=by
 unfold ways;split
 .split
  .split<;>omega
  .omega
 .omega
def aqt{c:ew}{a:Int}(h:head c a=0):0<=c.from_/\c.from_<a/\0<=c.to/\c.to<a:=by
 unfold head at h;by_cases b:isName c.name=false
 .rw[if_pos b] at h;exact absurd h Ae
 rw[if_neg b] at h;by_cases d:c.from_<0\/a<=c.from_\/c.to<0\/a<=c.to
 .rw[if_pos d] at h;exact absurd h Ae
 omega
def amc{m:Model}(h:(check m).bK=0){p k:Nat}(c:p<m.procs.length)(d:k<m.procs[p].cP.length):0<=m.procs[p].cP[k].from_/\m.procs[p].cP[k].from_<m.procs[p].cb/\0<=m.procs[p].cP[k].to/\m.procs[p].cP[k].to<m.procs[p].cb:=by
 obtain⟨e,_,_⟩:=Ox (QR h);obtain⟨_,f,_,_⟩:=Dm c (e p c);obtain⟨_,_,g⟩:=U9 f;have a:=(J0 _ _ g k d).1;unfold jJ at a;by_cases b:head m.procs[p].cP[k] m.procs[p].cb≠0
 .rw[if_pos b] at a;exact absurd a b
 .exact aqt (Classical.byContradiction b)
def gf.cb{m:Model}{ref:Int}{q p k:Nat}(h:gf m ref q p k):0<=(cT m p k).to/\(cT m p k).to<(m.procs[p]'(h.at_.aB)).cb:=by
 have:=amc h.ok h.at_.aB h.at_.J
 rw[Dh h.at_.aB h.at_.J];omega
theorem ama{m:Model}{ref:Int}{q p k:Nat}(a:gf m ref q p k){s t:C_ Int}(d:Fits m s)(h:hs m s q (cT m p k)=some t):Fits m t:=by
 have e:=gA a.ok;unfold hs at h;split at h
 .cases h
 split at h
 .cases h
 cases b:jj m q (cT m p k).b6 s with
 | none=>rw[b] at h;cases h
 | some c =>
  rw[b] at h;have f:c.set (b7 m q) (cT m p k).to=t:=by injection h
  subst f;have g:=ZG e a.inst _ s c (λn i=>by
   obtain⟨j,l,rfl⟩:=List.mem_iff_getElem.1 i;exact a.cin.act j l) d b
  refine abJ g (.inr (by have:=Un (m:=m) (q:=q) 0;omega)) λr=>?_;obtain⟨_,u,v⟩:=afs a.inst.ax a.inst.aB a.inst.C7
  have:=a.cb
  omega
def atV{m:Model}(e:gh m){s t:C_ Int}{c:ew}(d:Fits m s)(f:Fits m t)(g:ways c m.aA=2):Fits m (lost m s t c):=by
 obtain⟨b,h,a⟩:=Pn g;have k:=mj a;have l:=(e.chan _ (FA a)).cap;have i:=o0 a;unfold lost;rw[h,AG2];have j:(chanOf m s b).length=1+gq m b:=pJ (by rw[d.len];omega);refine RA f a AY j ?_
 have:=d.queue b a
 unfold lO at this;unfold chanOf;rw[i];exact this
end o