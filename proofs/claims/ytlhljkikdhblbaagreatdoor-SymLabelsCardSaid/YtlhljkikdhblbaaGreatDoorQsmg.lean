/- Parts. -/
import Derived.Test.YtlhljkikdhblbaaGreatDoorQsmd
import Derived.Test.YtlhljkikdhblbaaGreatDoorQsmf
set_option linter.all false
set_option maxRecDepth 100000
set_option maxHeartbeats 6400000
namespace o
open Go Go.RowKit ba
structure gn(w:World)(cs:List Value)(s:Scope):Prop where
 sF:s.vars.length<=1152921504606846976/\s.aA.length<=1152921504606846976/\s.procs.length<=1152921504606846976/\s.locals.length<=1152921504606846976/\ev s.self
 ex:∃v0 v1 v2 eC v4,cs=[v0,v1,v2,eC,v4,.int .i64 s.self]/\hI w v0 s.scalars/\j1 w v1 s.vars/\oc w v2 s.aA/\sP w eC s.procs/\j1 w v4 s.locals/\s.scalars.length<=4611686018427387904
theorem gn.ext{w w':A_}{cs:C_ B_}{s:Scope}(a:Ext w w')(h:gn w cs s):gn w' cs s :=
 let ⟨v0,v1,v2,b,v4,c,d,e,f,g,i,j⟩:=h.ex
 ⟨h.sF,v0,v1,v2,b,v4,c,d.ext a,e.ext a,f.ext a,g.ext a,i.ext a,j⟩
def gn.form{w:A_}{cs:C_ B_}{s:Scope}(h:gn w cs s):∃a b c bg d bj e f g i,cs=[.slice a s.scalars.length b,.slice c s.vars.length bg,.slice d s.aA.length bj,.slice e s.procs.length f,.slice g s.locals.length i,.I s.self] /\
  hI w (.slice a s.scalars.length b) s.scalars/\j1 w (.slice c s.vars.length bg) s.vars/\oc w (.slice d s.aA.length bj) s.aA/\sP w (.slice e s.procs.length f) s.procs/\j1 w (.slice g s.locals.length i) s.locals /\
  s.scalars.length<=4611686018427387904/\s.vars.length<=9223372036854775807/\s.aA.length<=9223372036854775807/\s.procs.length<=9223372036854775807/\s.locals.length<=9223372036854775807:=by
 obtain⟨v,x,y,z,A,rfl,j,k,l,m,n,p⟩:=h.ex;obtain⟨a,b,rfl,_⟩:=j.form;obtain⟨c,bg,rfl,q⟩:=k.form;obtain⟨d,bj,rfl,r⟩:=l.form;obtain⟨e,f,rfl,t⟩:=m.form;obtain⟨g,i,rfl,u⟩:=n.form;exact⟨a,b,c,bg,d,bj,e,f,g,i,rfl,j,k,l,m,n,p,q,r,t,u⟩
end o
namespace Go.Proofs.R
open Go Go.RowKit ba o
def VK(n:Int)(cs:C_ B_)(s:o.Scope)(w:A_)(h:gn w cs s) :
  EL F.K8 #[.I n,.agg cs.toArray] w λa b=>a = .tuple #[.I (h0 n s).1,.bool (h0 n s).2]/\Ext w b:=by
 obtain⟨c,d,e,bg,f,bj,g,i,j,k,rfl,l,m,p,q,r,t,u,v,x,y⟩:=h.form;refine bn E.K8 ?_;refine a4 ?_;refine O_ λz A B C G=>?_
 (repeat' (refine aO ?_;first | (refine I_ (λ_=>?_) (λ_=>?_)<;>try (exfalso;omega)) | refine N_ (λ_=>?_) (λ_=>?_)))<;>try refine aO ?_
 all_goals
  refine⟨?_,fT⟩;unfold h0
  (repeat' split)<;>first | rfl | (exfalso;omega)
def ay1(v:B_)(l:C_ o.Var)(n:Int)(cs:C_ B_)(s:o.Scope)(w:A_)(c:j1 w v l)(h:gn w cs s) :
  EL F.K1 #[v,.I n,.agg cs.toArray] w λv a=>v = .tuple #[.I (fQ l n s).1,.I (fQ l n s).2.1,.bool (fQ l n s).2.2]/\Ext w a:=by
 obtain⟨k,m,p,bg,q,bj,r,t,u,x,rfl,_⟩:=h.form;obtain⟨y,z,rfl,A⟩:=c.form;refine bn E.K1 ?_;refine a4 ?_;refine O_ λB C G d e=>?_;refine a4 ?_;apply I_<;>intro i
 .refine a4 ?_;rw[fQ,hv (.inl i)];exact cd
 refine a4 ?_;apply I_<;>intro H
 .refine a4 ?_;rw[fQ,hv (.inr AY)];exact cd
 refine a4 ?_;obtain⟨j,rfl⟩:=Uh (show 0<=n by omega);have I:j<l.length:=AY
 rw[fQ,ik AY AY];simp only[Int.toNat_natCast];obtain⟨J,rfl⟩:=c.addr;refine aO ?_;refine S_ (c:=[_,_,_,_,_,_]) e (Ext.refl _) rfl ?_;refine a4 ?_;refine P_ _ (λa b=>VK _ _ s a (h.ext (d.trans b))) ?_;refine a4 ?_;intro K f;refine aO ?_;refine S_ (c:=[_,_,_,_,_,_]) e f rfl ?_;refine a4 ?_;refine P_ _ (λa b=>VK _ _ s a (h.ext ((d.trans f).trans b))) ?_;refine a4 ?_;intro L M;refine aO ?_;refine N_ (λg=>?_) (λg=>?_)
 all_goals
  refine a4 ?_;refine⟨?_,fT⟩;simp[g]
def as6(x:o.Node)(cs:C_ B_)(s:o.Scope)(w:A_)(v:x.ok)(h:gn w cs s) :
  EL F.K0 #[.agg x.enc.toArray,.agg cs.toArray] w λy g=>y = .tuple #[.I (kP x s).1,.I (kP x s).2]/\Ext w g:=by
 obtain⟨N,O,P,bg,Q,bj,S,U,V,W,rfl,X,Y,z,n,Z,ab,ae,af,ag,ah⟩:=h.form;refine bn E.K0 ?_;refine a4 ?_;refine O_ λai A aj p q=>?_;refine a4 ?_;refine O_ λB ak al i C=>?_;have an:B.heap[A]? = some (.cells #[.I x.op,.I x.n] T.k):=i.obj q;clear q;refine aO ?_;apply I_<;>intro b
 ·(repeat' (refine aO ?_;first | (refine I_ (λ_=>?_) (λ_=>?_)<;>try (exfalso;omega)) | refine N_ (λ_=>?_) (λ_=>?_)))<;>try refine aO ?_
  all_goals
   refine⟨?_,fT⟩;rw[kP,if_pos b];split<;>first | rfl | (exfalso;omega)
 refine aO ?_;apply I_<;>intro e
 .have j:kP x s=kO x.n s:=by rw[kP,if_neg b,if_pos e]
  rw[j,kO];refine aO ?_;apply I_<;>intro f;rotate_left
  .refine aO ?_;rw[hv (.inl AY)];exact cd
  refine aO ?_;apply I_<;>intro G;rotate_left
  .refine aO ?_;rw[hv (.inr AY)];exact cd
  refine aO ?_;rw[ik AY AY];obtain⟨r,rfl⟩:=z.addr;have c:x.n.toNat<s.aA.length:=AY
  refine M_ x.n.toNat AY c ?_;refine aO ?_;refine S_ (c:=[_,_,_,_,_,_]) C (Ext.refl _) rfl ?_;refine a4 ?_;refine P_ _ (λg H=>VK _ _ s g (h.ext ((p.trans i).trans H))) ?_;refine a4 ?_;intro k l;refine N_ (λd=>?_) (λd=>?_)
  all_goals
   refine a4 ?_;refine⟨?_,fT⟩;simp[d]
 refine aO ?_;apply I_<;>intro m
 .have j:kP x s=zW x.n s:=by rw[kP,if_neg b,if_neg e,if_pos m]
  rw[j,zW];refine aO ?_;apply I_<;>intro f;rotate_left
  .refine aO ?_;intro k l;refine aO ?_;rw[if_neg f];exact cd
  rw[if_pos f];obtain⟨a,c⟩:=Uh f;obtain⟨_,I⟩:=v.n;rw[c] at I;have t:x.n.tdiv 16=((a / 16:Nat):Int):=by rw[c];rfl
  have J:x.n.tmod 16=((a % 16:Nat):Int):=by rw[c];rfl
  refine aO ?_;refine _P AY ?_;rw[t];refine aO ?_;apply I_<;>intro G;rotate_left
  .refine aO ?_;intro k l;refine aO ?_;rw[hv (.inr AY)];exact cd
  have K:a / 16<s.procs.length:=AY
  rw[ik AY AY];simp only[Int.toNat_natCast];refine aO ?_;refine _o AY ?_;refine aO ?_;refine _P AY ?_;rw[t];obtain⟨r,rfl⟩:=n.addr;obtain⟨_,ao,dN,L,_⟩:=n.at (a / 16) K;have M:w.cell? ((r.add (a / 16*5)).add 2)=some (.I s.procs[a / 16].cb):=L 2 _ rfl;refine aO ?_;refine L_ ((p.trans i).cell M) ?_;refine aO ?_;rw[J];intro k l;refine aO ?_;apply I_<;>intro d
  all_goals
   refine aO ?_;refine⟨?_,fT⟩
   first | rw[if_pos d] | rw[if_neg d]
 refine aO ?_;apply I_<;>intro u
 ·(repeat' (refine aO ?_;first | (refine I_ (λ_=>?_) (λ_=>?_)<;>try (exfalso;omega)) | refine N_ (λ_=>?_) (λ_=>?_)))<;>try refine aO ?_
  all_goals
   refine⟨?_,fT⟩;rw[kP,if_neg b,if_neg e,if_neg m,if_pos u];split<;>first | rfl | (exfalso;omega)
 refine aO ?_;refine⟨?_,fT⟩;rw[kP,if_neg b,if_neg e,if_neg m,if_neg u]
end Go.Proofs.R
namespace o
open Go ba
def eO(n b:Nat):Prop:=n*b<=140737488351232
structure Scalar.cB(x:Scalar):Prop where
 size:ev x.size
structure Var.cB(x:Var):Prop where
 scalar:ev x.scalar
 over:ev x.over
 aQ:ev x.aQ
 ab:ev x.ab
 init:ev x.init
structure eb.cB(x:eb):Prop where
 scalar:ev x.scalar
 cap:ev x.cap
 aQ:ev x.aQ
 ab:ev x.ab
structure Act.cB(x:Act):Prop where
 kind:ev x.kind
 to:ev x.to
 loc:ev x.loc
 index:eO x.index.length 16
 value:eO x.value.length 16
structure ew.cB(x:ew):Prop where
 from_:ev x.from_
 to:ev x.to
 guard:eO x.guard.length 16
 b6:eO x.b6.length 72
 act:∀a∈x.b6,a.cB
structure ed.cB(x:ed):Prop where
 over:ev x.over
 cb:ev x.cb
 vars:eO x.vars.length 56
 cP:eO x.cP.length 88
 var:∀a∈x.vars,a.cB
 cmd:∀a∈x.cP,a.cB
structure mL.cB(x:mL):Prop where
 expr:eO x.expr.length 16
structure Model.cB(m:Model):Prop where
 scalars:eO m.scalars.length 24
 vars:eO m.vars.length 56
 aA:eO m.aA.length 56
 procs:eO m.procs.length 80
 props:eO m.props.length 40
 scalar:∀a∈m.scalars,a.cB
 var:∀a∈m.vars,a.cB
 chan:∀a∈m.aA,a.cB
 proc:∀a∈m.procs,a.cB
 prop:∀a∈m.props,a.cB
end o
namespace o
open Go Go.RowKit ba
structure Scope.cB(s:Scope):Prop where
 scalars:eO s.scalars.length 24
 vars:eO s.vars.length 56
 aA:eO s.aA.length 56
 procs:eO s.procs.length 80
 locals:eO s.locals.length 56
 proc:∀a∈s.procs,a.cB
 self:ev s.self
def Model.cB.scope{m:Model}(h:m.cB):(fm m).cB:=⟨h.scalars,h.vars,h.aA,h.procs,by simp[fm,eO],h.proc,by simp[fm,ev]⟩
theorem Scope.cB.inner{s:Scope}{p:ed}(h:s.cB)(a:p.cB):(inner p s).cB:=⟨h.scalars,h.vars,h.aA,h.procs,a.vars,h.proc,a.over⟩
def Scope.cB.sF{s:Scope}(h:s.cB):(s.vars.length<=1152921504606846976/\s.aA.length<=1152921504606846976/\s.procs.length<=1152921504606846976/\s.locals.length<=1152921504606846976/\ev s.self)/\s.scalars.length<=4611686018427387904:=by
 have a:=h.scalars;have b:=h.vars;have c:=h.aA;have d:=h.procs;have e:=h.locals;unfold eO at a b c d e;exact⟨⟨AY,AY,AY,AY,h.self⟩,AY⟩
end o
namespace Go.Proofs.R
open Go Go.RowKit ba o
def UH(v:B_)(xs:C_ o.Node)(w:A_)(h:fJ w v xs)(c:eO xs.length 16) :
  EL F.av #[v] w λa b=>(∃d e,a = .slice d xs.length e)/\ec w (λw=>fJ w a xs) b/\Ext w b :=
 JZ kv E.av Cl (λh=>h) v xs w h (by unfold eO at c;omega)
def Wk(v:B_)(xs:C_ o.Var)(w:A_)(h:j1 w v xs)(c:eO xs.length 56) :
  EL F.au #[v] w λa b=>(∃d e,a = .slice d xs.length e)/\ec w (λw=>j1 w a xs) b/\Ext w b :=
 JZ kv E.au Cl (λh=>h) v xs w h (by unfold eO at c;omega)
def axR(v:B_)(xs:C_ o.Scalar)(w:A_)(h:hI w v xs)(c:eO xs.length 24) :
  EL F.ar #[v] w λa b=>(∃d e,a = .slice d xs.length e)/\ec w (λw=>hI w a xs) b/\Ext w b :=
 JZ kv E.ar Cl (λh=>h) v xs w h (by unfold eO at c;omega)
def alW(v:B_)(xs:C_ eb)(w:A_)(h:oc w v xs)(c:eO xs.length 56) :
  EL F.cc #[v] w λa b=>(∃d e,a = .slice d xs.length e)/\ec w (λw=>oc w a xs) b/\Ext w b :=
 JZ kv E.cc Cl (λh=>h) v xs w h (by unfold eO at c;omega)
abbrev ez:=H_ Addr×Nat×Nat
def amh(v:B_)(l:C_ ew)(w:A_)(h:sM w v l)(aC:eO l.length 88)(aD:∀y∈l,y.cB) :
  EL F.ge #[v] w λk b=>(∃X y,k = .slice X l.length y)/\ec w (λw=>sM w k l) b/\Ext w b:=by
 obtain⟨bz,bg,rfl,aE⟩:=h.form;refine bn E.ge ?_;refine ad ?_;refine K_ 11 l.length [9,10] (λv:ez=>[(3,.slice v.1 v.2.1 v.2.2)]) (none,0,0) (λa v b=>Ext w b/\ey CK T.q 6 w.heap.size b (.slice v.1 v.2.1 v.2.2) (l.take a)) aW aW ⟨Ext.refl _,by simpa using ey.nil _ _ _ _ _⟩ ?_;rintro a v aF aG bA ⟨g,z⟩;refine ad ?_;apply I_<;>intro bB
 .have m:a<l.length:=AY
  have A:=aD l[a] (FA _);obtain⟨bC,rfl⟩:=h.addr;obtain⟨aH,bD,bE,bG,Y,B⟩:=h.at a m;obtain⟨_,_,rfl,_⟩:=Y.form;obtain⟨X,bH,rfl,aI⟩:=B.form;refine ad ?_;intro Z bI ab C ae;have af:=cf ae;refine ad ?_;refine J_ (UH _ _ Z (Y.ext (g.trans C)) A.guard) ?_;rintro _ bJ ⟨⟨aJ,aK,rfl⟩,aL,G⟩;have bK:=G.obj ae;have aP:=C.trans G;refine ad ?_;intro n H ag;have I:=H.ext aP ab;have aQ:=g.trans I;have aR:=aL.wr H af;have aS:=cf ag;refine ad ?_;refine K_ 22 l[a].b6.length [3,5,9,10,11,20,21] (λv:ez=>[(6,.slice v.1 v.2.1 v.2.2)]) (none,0,0) (λc v b=>Ext n b/\ey E6 T.w 5 n.heap.size b (.slice v.1 v.2.1 v.2.2) (l[a].b6.take c)) aW aW ⟨Ext.refl _,by simpa using ey.nil _ _ _ _ _⟩ ?_;rintro c J aF aU bL ⟨e,K⟩;have bM:=e.obj ag;refine ad ?_;apply I_<;>intro bN
  .have p:c<l[a].b6.length:=AY
   have ah:=A.act l[a].b6[c] (FA _);obtain⟨bO,rfl⟩:=B.addr;obtain⟨bQ,bU,bV,ai,aj⟩:=B.at c p;obtain⟨_,_,rfl,_⟩:=ai.form;obtain⟨_,_,rfl,_⟩:=aj.form;have aX:=aQ.trans e;refine ad ?_;intro aY bW ak L M;have aZ:=aX.trans L;have bX:=cf M;refine ad ?_;intro al d;have q:=d.obj M;have an:=aZ.trans d;refine ad ?_;refine J_ (UH _ _ al (ai.ext an) ah.index) ?_;rintro _ a0 ⟨⟨a1,a3,rfl⟩,a5,f⟩;refine⟨f,?_⟩;have ao:=f.obj q;have a7:=an.trans f;refine ad ?_;refine J_ (UH _ _ a0 (aj.ext a7) ah.value) ?_;rintro _ bY ⟨⟨a8,a9,rfl⟩,bb,r⟩;have b0:=r.obj ao;have bf:=a5.ext r f.size;refine ad ?_;intro b1 s b3;refine ad ?_;intro b4 t b5;refine ad ?_;intro b6 b8 b9 N bk;have aq:=cf q;have ar:=cf ao;have ca:=f.size;have cb:=r.size;have cc:=s.size;have ch:=t.size;have bl:=((bf.wr s aq).wr t aq).ext N AY;have bo:=((bb.wr s ar).wr t ar).ext N AY;have bp:=((L.trans d).trans f).trans r;have au:=(t.ext (s.ext bp ak) ak).trans N;have bq:=(L.trans d).size;have av:=e.trans au;have aw:=K.ext au;have i:=VC p A.b6 aI;refine ad ?_;refine _A (x:=l[a].b6[c]) (cs:=l[a].b6[c].enc (.slice a1 l[a].b6[c].index.length a3) (.slice a8 l[a].b6[c].value.length a9)) aw (g5 bk)
    (ec.own (((bl.low bq).and (bo.low AY)).imp λw h=>⟨_,_,rfl,h.1,h.2⟩) K e.size) rfl (by simp[o.Act.enc,Value.oneCell']) i.1 i.2 av.size λk b j O=>?_
   obtain⟨P,Q,rfl,_⟩:=j.form;refine ad ?_;exact⟨p,aV,(P,_,Q),aW,aw.h9 av O (EM _),j.snoc p⟩
  .have S:=K.done AY;have U:ec n (λw=>ob w (.slice J.1 J.2.1 J.2.2) l[a].b6) aU:=S.new;obtain⟨V,W,u,_⟩:=U.here.form;rw[u] at U;refine ad ?_;intro aY x M;refine ad ?_;intro al cj cm d q;have bt:Z.heap.size<=n.heap.size:=by have:=G.size;have:=H.size;omega
   have cp:=e.size;have cq:=x.size;have bu:=((aR.ext e bt).wr x af).ext d AY;have bw:=(U.wr x aS).ext d AY;have ax:=(x.ext (I.trans e) ab).trans d;have ay:=g.trans ax;have az:=z.ext ax;have bx:=C.size;have i:=VC m aC aE;refine ad ?_;refine _A (x:=l[a]) (cs:=l[a].enc (.slice aJ l[a].guard.length aK) (.slice V l[a].b6.length W)) az (by have:=g5 q;rw[u] at this;exact this)
    (ec.own (((bu.low bx).and (bw.low I.size)).imp λw h=>⟨aH,_,_,rfl,h.1,h.2⟩) z g.size) rfl (by simp[ew.enc,Value.oneCell']) i.1 i.2 ay.size λk b j O=>?_
   obtain⟨P,Q,rfl,_⟩:=j.form;refine ad ?_;exact⟨m,aV,(P,_,Q),aW,az.h9 ay O (EM _),j.snoc m⟩
 .refine ad ?_;have S:=z.done AY;have aB:ec w (λw=>sM w (.slice v.1 v.2.1 v.2.2) l) aG:=S.new;obtain⟨V,W,u,_⟩:=aB.here.form;exact⟨⟨V,W,u⟩,aB,g⟩
def aeS(p:ed)(h i j k P l Q:H_ Addr)(n0 m q r S s U t bg bj u V v W:Nat)(n:Int)(w:A_) :
  EL F.KJ #[.agg (p.enc (.slice l s v) (.slice Q U W)).toArray,.agg #[.slice h n0 t,.slice i m bg,.slice j q bj,.slice k r u,.slice P S V,.I n]] w λX g =>
   X = .agg #[.slice h n0 t,.slice i m bg,.slice j q bj,.slice k r u,.slice l s v,.I p.over]/\Ext w g:=by
 refine bn E.KJ ?_;simp -dsimp only[cD];refine eA ?_;intro ag Y ah C x;refine eA ?_;intro ai d aj G H;refine eA ?_;intro B e ak I y;refine eA ?_;have Z:d≠Y:=by have:=cf x;omega
 have N:e≠d:=by have:=cf H;omega
 refine R_ [2,3,4] (λ_=>[]) (λ(_:Unit) g=>(Ext w g/\B.heap.size<=g.heap.size)/\g.heap[d]? = some (.cells #[.slice h n0 t,.slice i m bg,.slice j q bj,.slice k r u,.slice l s v,.I p.over] T.t)/\g.heap[e]? = B.heap[e]?) ?_ ?_
 .refine ad ?_;intro O f;have x:=((G.trans I).trans f).obj x;have H:=(I.trans f).obj H;have y:=f.obj y;have ab:=((C.trans G).trans I).trans f;have al:=C.size;have an:=f.size;have J:∀b a,dX d O b->dX d b a->a.heap[d]? = some (.cells #[.slice h n0 t,.slice i m bg,.slice j q bj,.slice k r u,.slice l s v,.I p.over] T.t) ->
    (Ext w a/\B.heap.size<=a.heap.size)/\a.heap[d]? = some (.cells #[.slice h n0 t,.slice i m bg,.slice j q bj,.slice k r u,.slice l s v,.I p.over] T.t)/\a.heap[e]? = B.heap[e]? := λb a K L ae=>by
   have:=K.size
   have:=L.size
   refine⟨⟨L.ext (K.ext ab AY) AY,AY⟩,ae,?_⟩;rw[L.block e N,K.block e N,y]
   symm
   assumption
  refine ad ?_;refine⟨?_,?_⟩
  .refine ad ?_;refine⟨?_,?_⟩
   .refine ad ?_;intro b c M;refine ad ?_;intro a z A;refine ad ?_;exact⟨(),trivial,J b a c z A⟩
   .refine ad ?_;intro b c M;have x:=c.obj x (Ne.symm Z);refine ad ?_;intro a z A;refine ad ?_;exact⟨(),trivial,J b a c z A⟩
  .refine ad ?_;intro b c M;refine ad ?_;intro a z A;refine ad ?_;exact⟨(),trivial,J b a c z A⟩
 rintro _ ao O ⟨⟨f,aq⟩,ar,af⟩;rw[y] at af;have au:=cf y;refine ad ?_;intro b c M;refine ad ?_;exact⟨aV,c.ext f (by have:=C.size;have:=G.size;omega)⟩
def aml(cs:C_ B_)(s:o.Scope)(w:A_)(h:gn w cs s)(g:s.cB) :
  EL F.fn #[.agg cs.toArray] w λb i=>(∃Q,b = .agg Q.toArray/\ec w (λw=>gn w Q s) i)/\Ext w i:=by
 have S:=g.sF;obtain⟨bL,bM,bN,bg,bO,bj,bQ,bU,bV,bW,rfl,ax,ay,az,U,aB,_,bX,bY,aC,b0⟩:=h.form;refine bn E.fn ?_;refine ad ?_;intro b1 aD l V j;refine ad ?_;intro b3 aE b4 W a;have m:aE≠aD:=by have:=cf j;omega
 refine ad ?_;intro B C;have n:=(V.trans W).trans C;have j:=(W.trans C).obj j;have a:=C.obj a;have p:=cf j;have X:=cf a;refine ad ?_;refine J_ (axR _ _ B (ax.ext n) g.scalars) ?_;rintro _ aF ⟨⟨aG,aH,rfl⟩,aI,c⟩;refine⟨c,?_⟩;refine ad ?_;refine J_ (Wk _ _ aF (ay.ext (n.trans c)) g.vars) ?_;rintro _ aJ ⟨⟨aK,aL,rfl⟩,aP,d⟩;refine⟨c.trans d,?_⟩;refine ad ?_;refine J_ (alW _ _ aJ (az.ext ((n.trans c).trans d)) g.aA) ?_;rintro _ aQ ⟨⟨aR,aS,rfl⟩,aU,k⟩;have j:=((c.trans d).trans k).obj j;have a:=((c.trans d).trans k).obj a;have aX:=((n.trans c).trans d).trans k;have aY:=(aI.ext (d.trans k) c.size).and (((aP.ext k d.size).low c.size).and (aU.low (c.trans d).size));refine ad ?_;intro b5 t b6;refine ad ?_;intro b8 u b9;refine ad ?_;intro Y v Z;have ab:=v.ext (u.ext (t.ext aX l) l) l;have aZ:=((aY.wr t p).wr u p).wr v p;have ca:=((c.trans d).trans k).size;have cb:Y.heap.size=aQ.heap.size:=by rw[v.size,u.size,t.size]
 have a:=v.obj (u.obj (t.obj a m) m) m;refine ad ?_;refine J_ (Wk _ _ Y (aB.ext ab) g.locals) ?_;rintro _ cc ⟨⟨a0,a1,rfl⟩,a3,q⟩;have ch:=q.obj Z;have a:=q.obj a;refine ad ?_;intro G r ae;have a:=r.obj a m;have af:=r.ext (ab.trans q) l;have cj:=q.size;have cm:=r.size;have a5:=((aZ.ext q AY).wr r p).and ((a3.wr r (cf Z)).low (w0:=B) AY);have a7:=cf ae;refine ad ?_;refine K_ 25 s.procs.length [1,2,23,24] (λb:ez=>[(3,.slice b.1 b.2.1 b.2.2)]) (none,0,0) (λe b i=>Ext G i/\ey yP T.af 5 G.heap.size i (.slice b.1 b.2.1 b.2.2) (s.procs.take e)) aW aW ⟨Ext.refl _,by simpa using ey.nil _ _ _ _ _⟩ ?_;rintro e b cp a8 cq ⟨f,H⟩;have cr:=f.obj ae;refine ad ?_;apply I_<;>intro ct
 .have x:e<s.procs.length:=AY
  have I:=g.proc s.procs[e] (FA _);obtain⟨cu,rfl⟩:=U.addr;obtain⟨a9,cv,dN,cw,ag,ah⟩:=U.at e x;obtain⟨_,_,rfl,_⟩:=ag.form;obtain⟨_,_,rfl,_⟩:=ah.form;have ai:=af.trans f;refine ad ?_;intro bb cx aj J ak;have bf:=ai.trans J;refine ad ?_;refine J_ (Wk _ _ bb (ag.ext bf) I.vars) ?_;rintro _ cy ⟨⟨bk,bl,rfl⟩,bo,K⟩;have cz:=K.obj ak;refine ad ?_;intro bp L al;have M:=L.ext (J.trans K) aj;have bq:=ai.trans M;refine ad ?_;refine J_ (amh _ _ bp (ah.ext bq) I.cP I.cmd) ?_;rintro _ cB ⟨⟨bt,bu,rfl⟩,bw,y⟩;have cE:=y.obj al;refine ad ?_;intro cF z cG;have bx:=z.ext (M.trans y) aj;refine ad ?_;intro cI cK cL N bz;have an:=bx.trans N;have ao:=cf ak;have cM:=K.size;have cN:=L.size;have cP:=y.size;have cQ:=z.size;have bA:=(((bo.wr L ao).ext y AY).wr z ao).ext N AY;have bB:=(bw.wr z (cf al)).ext N AY;have aq:=H.ext an;have ar:=VC x g.procs aC;have au:=f.trans an;refine ad ?_;refine _A (x:=s.procs[e]) (cs:=s.procs[e].enc (.slice bk s.procs[e].vars.length bl) (.slice bt s.procs[e].cP.length bu)) aq (g5 bz)
   (ec.own (((bA.low J.size).and (bB.low M.size)).imp λw h=>⟨a9,_,_,rfl,h.1,h.2⟩) H f.size) rfl (by simp[ed.enc,Value.oneCell']) ar.1 ar.2 au.size λcS i av bC=>?_
  obtain⟨bD,bE,rfl,_⟩:=av.form;refine ad ?_;exact⟨x,aV,(bD,_,bE),aW,aq.h9 au bC (EM _),av.snoc x⟩
 .have bG:=H.done AY;have O:ec G (λw=>sP w (.slice b.1 b.2.1 b.2.2) s.procs) a8:=bG.new;obtain⟨bH,bI,aw,_⟩:=O.here.form;rw[aw] at O;have a:=f.obj a;refine ad ?_;intro cU A cV;have a:=A.obj a m;refine ad ?_;intro cW P cX;have cY:=f.size;have bJ:=(((a5.ext f AY).wr A p).wr P X).and (((O.wr A a7).wr P (AI3 X AY)).low (w0:=B) AY);have c0:=V.size;have bK:=P.ext (A.ext (af.trans f) l) AY;refine ad ?_;refine⟨⟨[.slice aG s.scalars.length aH,.slice aK s.vars.length aL,.slice aR s.aA.length aS,.slice bH s.procs.length bI,.slice a0 s.locals.length a1,.I s.self],?_,
   (bJ.low n.size).imp λw h=>⟨S.1,_,_,_,_,_,rfl,h.1.1.1,h.1.1.2.1,h.1.1.2.2,h.2,h.1.2,S.2⟩⟩,bK⟩
  rw[aw]
  first | trivial | rfl
end Go.Proofs.R
namespace o
open Go Go.RowKit ba
def dU.form{w:A_}{cs:C_ B_}{m:Model}(h:dU w cs m):∃a b c bg d bj e f g i,cs=[.slice a m.scalars.length b,.slice c m.vars.length bg,.slice d m.aA.length bj,.slice e m.procs.length f,.slice g m.props.length i] /\
  hI w (.slice a m.scalars.length b) m.scalars/\j1 w (.slice c m.vars.length bg) m.vars/\oc w (.slice d m.aA.length bj) m.aA/\sP w (.slice e m.procs.length f) m.procs/\CT w (.slice g m.props.length i) m.props /\
  m.scalars.length<=9223372036854775807/\m.vars.length<=9223372036854775807/\m.aA.length<=9223372036854775807/\m.procs.length<=9223372036854775807/\m.props.length<=9223372036854775807:=by
 obtain⟨v,x,y,z,A,rfl,j,k,l,n,p⟩:=h.ex;obtain⟨a,b,rfl,q⟩:=j.form;obtain⟨c,bg,rfl,r⟩:=k.form;obtain⟨d,bj,rfl,s⟩:=l.form;obtain⟨e,f,rfl,t⟩:=n.form;obtain⟨g,i,rfl,u⟩:=p.form;exact⟨a,b,c,bg,d,bj,e,f,g,i,rfl,j,k,l,n,p,q,r,s,t,u⟩
def agP{m:Model}{k:Nat}(h:k<m.procs.length):hS m (k:Int)=inner m.procs[k] (fm m):=by
 unfold hS;rw[ik AY AY];simp
def Oz{m:Model}{i:Int}(h:i<0\/(m.procs.length:Int)<=i):hS m i=fm m:=by
 unfold hS;rw[hv h]
theorem Model.cB.hS{m:Model}(h:m.cB)(i:Int):(hS m i).cB:=by
 unfold o.hS;cases a:nth m.procs i with
 | none=>exact h.scope
 | some c =>
  refine h.scope.inner (h.proc c ?_);unfold nth at a;by_cases b:0<=i
  .rw[if_pos b] at a;exact List.mem_of_getElem? a
  .rw[if_neg b] at a;cases a
end o
namespace Go.Proofs.R
open Go Go.RowKit ba
def ah0(cs:C_ B_)(m:o.Model)(i:Int)(w:A_)(h:o.dU w cs m)(g:m.cB) :
  EL F.es #[.agg cs.toArray,.I i] w λM a=>(∃n,M = .agg n.toArray/\ec w (λw=>o.gn w n (o.hS m i)) a)/\Ext w a:=by
 obtain⟨N,O,P,bg,Q,bj,S,U,ah,ai,rfl,z,A,B,j,aj,ak,al,an,ao,aq⟩:=h.form;have p:=g.scope.sF;refine bn E.es ?_;simp -dsimp only[cD];refine eA ?_;intro ar au av q aw;refine eA ?_;intro V ax ay C k;simp -dsimp only[cD];refine eA ?_;intro W X Y l r;refine eA ?_;have e:∀{a:A_},Ext W a->Ext w a:=λb=>((q.trans C).trans l).trans b;have G:∀a,Ext w a->o.gn a [.slice N m.scalars.length O,.slice P m.vars.length bg,.slice Q m.aA.length bj,.slice S m.procs.length U,.slice none 0 0,.I 0] (o.fm m):=λa b =>
  ⟨p.1,_,_,_,_,_,rfl,z.ext b,A.ext b,B.ext b,j.ext b,a6.nil,p.2⟩
 refine R_ [2,4,5] (λ_=>[]) (λ(s:C_ B_) a=>Ext w a/\Ext V a/\a.heap[X]? = some (.cells s.toArray T.t)/\o.gn a s (o.hS m i)) ?_ ?_
 .refine ad ?_;apply I_<;>intro az;rotate_left
  .refine ad ?_;exact⟨_,trivial,e (Ext.refl _),l,r,by rw[o.Oz (.inl AY)];exact G _ (e (Ext.refl _))⟩
  refine ad ?_;apply I_<;>intro aB;rotate_left
  .refine ad ?_;exact⟨_,trivial,e (Ext.refl _),l,r,by rw[o.Oz (.inr AY)];exact G _ (e (Ext.refl _))⟩
  obtain⟨t,rfl⟩:=Uh (show 0<=i by omega);have u:t<m.procs.length:=AY
  obtain⟨aC,rfl⟩:=j.addr;obtain⟨aD,aE,dN,aF,H,Z⟩:=j.at t u;obtain⟨aG,aH,rfl,_⟩:=H.form;obtain⟨_,_,rfl,_⟩:=Z.form;refine ad ?_;intro v x;have y:=x.obj r;refine ad ?_;refine J_ (aeS m.procs[t] _ _ _ _ _ _ _ _ _ _ _ _ _ _ _ _ _ _ _ _ _ _ v) ?_;rintro _ ab ⟨rfl,c⟩;have ae:=c.obj y;refine ad ?_;intro af f I;refine ad ?_;have d:=f.ext (e (x.trans c)) (by have:=q.size;have:=C.size;omega);exact⟨_,trivial,d,f.ext ((l.trans x).trans c) Y,I,by
   rw[o.agP u];exact⟨(g.scope.inner (g.proc _ (FA u))).sF.1,_,_,_,_,_,rfl,z.ext d,A.ext d,B.ext d,j.ext d,H.ext d,p.2⟩⟩
 rintro s aI v ⟨J,ag,y,K⟩;have k:=ag.obj k;refine ad ?_;refine Y_ (g5 y) ?_ ?_
 .obtain⟨_,_,_,_,_,rfl,_⟩:=K.ex;rfl
 refine ad ?_;refine J_ (aml _ _ v K (g.hS i)) ?_;rintro _ ab ⟨⟨n,rfl,L⟩,c⟩;have ae:=c.obj k;obtain⟨aJ,aK,aL,aP,aQ,aR,aS,aU,aX,aY,rfl,_⟩:=L.here.form;refine ad ?_;intro af f I;refine ad ?_
 have:=cf k
 exact⟨⟨_,rfl,(L.wr f this).low J.size⟩,f.ext (J.trans c) (by have:=q.size;omega)⟩
def awZ{w0:A_}(cs:C_ B_)(m:o.Model)(i:Int)(w:A_)(h:o.dU w0 cs m)(V:Ext w0 w)(f:m.cB) :
  EL F.No #[.agg cs.toArray,.I i] w λB b=>(∃p,B = .agg p.toArray/\∀c,Ext w0 c->o.gn c p (o.hS m i))/\Ext w b:=by
 obtain⟨C,G,H,bg,I,bj,J,K,W,X,rfl,q,r,s,d,Y,Z,ab,ae,af,ag⟩:=h.form;have g:=f.scope.sF;refine bn E.No ?_;refine ad ?_;intro ah ai aj e ak;refine ad ?_;intro L al an M t;have j:∀{b:A_},Ext L b->Ext w b:=λa=>(e.trans M).trans a;have u:∀{b:A_},i<0\/(m.procs.length:Int)<=i->Ext w0 b->o.gn b [.slice C m.scalars.length G,.slice H m.vars.length bg,.slice I m.aA.length bj,.slice J m.procs.length K,.slice none 0 0,.I 0] (o.hS m i):=λ{b} N a=>by
  rw[o.Oz N];exact⟨g.1,_,_,_,_,_,rfl,q.ext a,r.ext a,s.ext a,d.ext a,a6.nil,g.2⟩
 refine ad ?_;apply I_<;>intro O
 .refine ad ?_;intro v k x;have l:=k.ext (j (Ext.refl _)) (by have:=e.size;omega);refine ad ?_;exact⟨⟨_,rfl,λc a=>u (.inl O) a⟩,l⟩
 refine ad ?_;apply I_<;>intro P
 .refine ad ?_;intro v k x;have l:=k.ext (j (Ext.refl _)) (by have:=e.size;omega);refine ad ?_;exact⟨⟨_,rfl,λc a=>u (.inr P) a⟩,l⟩
 obtain⟨y,rfl⟩:=Uh (show 0<=i by omega);have n:y<m.procs.length:=AY
 obtain⟨ao,rfl⟩:=d.addr;obtain⟨aq,ar,dN,au,z,Q⟩:=d.at y n;obtain⟨av,aw,rfl,_⟩:=z.form;obtain⟨_,_,rfl,_⟩:=Q.form;refine ad ?_;intro v ax ay A x;have t:=A.obj t;refine ad ?_;intro az S aB;have U:=S.ext (j A) (by have:=e.size;omega);refine ad ?_;exact⟨⟨_,rfl,λc a=>by
  rw[o.agP n];exact⟨(f.scope.inner (f.proc _ (FA n))).sF.1,_,_,_,_,_,rfl,q.ext a,r.ext a,s.ext a,d.ext a,z.ext a,g.2⟩⟩,U⟩
abbrev mN:=H_ Addr×Nat×Nat
def OV(x:mN):B_:=.slice x.1 x.2.1 x.2.2
def F7(x:ByteArray):C_ B_:=[.string x]
def am2(y:ByteArray):∀a∈F7 y,a.oneCell'=true:=by
 intro a b;simp only[F7,List.mem_cons,List.not_mem_nil,or_false] at b;subst b;rfl
abbrev CS(base:Nat)(w:A_)(v:mN)(a:C_ ByteArray):Prop:=aT F7 T.l 1 base w (OV v) a
structure ajF(m:o.Model):Prop where
 s:m.scalars.length<=20
 v:m.vars.length<=20
 c:m.aA.length<=20
 p:m.procs.length<=20
 q:m.props.length<=20
 i:∀(j:Nat) (h:j<m.procs.length),m.procs[j].vars.length<=20/\m.procs[j].cP.length<=20
structure kV(w w':World)(bk:Nat)(cs:List Value)(v:mN)(cq:List ByteArray):Prop where
 ext:Ext w w'
 I:w'.heap[bk]? = some (.cells cs.toArray T.e)
 own:CS w.heap.size w' v cq
theorem kV.then{w w' b:A_}{c:Nat}{cs:C_ B_}{v:mN}{d:C_ ByteArray}(h:kV w w' c cs v d)(a:Ext w' b):kV w b c cs v d:=⟨h.ext.trans a,a.obj h.I,h.own.ext a⟩
def kV.grown{w w' b:A_}{c:Nat}{cs:C_ B_}{v e:mN}{i f:C_ ByteArray}(h:kV w w' c cs v i)(g:w'.grownBy b (OV v).ownBlock)(j:CS w.heap.size b e f):kV w b c cs e f:=by
 refine⟨Ext.grown h.ext g λk l=>(h.own.lt k l).1,?_,j⟩;rw[g.block c (cf h.I) λa=>?_]
 .exact h.I
 rcases h.own.2 with ⟨d,_⟩ | ⟨n,cap,bj,d,_,m,_⟩
 .rw[d] at a;cases a
 .rw[d] at a;simp only[Value.ownBlock,Option.some.injEq] at a;subst a
  have:=h.I.symm.trans m
  injection this with this
  injection this with _ this
  revert this;decide
def kV.jW{w w':A_}{a:Nat}{cs:C_ B_}{v:mN}{b c:C_ ByteArray}(h:kV w w' a cs v b)(e:b=c):kV w w' a cs v c:=e ▸ h
theorem wH{α β:Type}(f:α->β)(pre:C_ β)(l:C_ α)(k:Nat)(h:k<l.length):pre++(l.take k).map f++[f l[k]]=pre++(l.take (k+1)).map f:=by
 rw[Oi h,AF9,<-Vh];rfl
abbrev avR(p:o.ed):C_ ByteArray:=p.name :: (p.vars.map (·.name)++p.cP.map (·.name))
theorem Ow{m:o.Model}(b:ajF m)(k:Nat)(h:k<=m.procs.length):((m.procs.take k).flatMap avR).length<=41*k:=by
 induction k with
 | zero=>simp
 | succ k c =>
  have a:k<m.procs.length:=AY
  rw[Oi a,AJ6,JM]
  have:=c AY
  have d:=(b.i k a).1;have e:=(b.i k a).2;simp only[List.flatMap_cons,List.flatMap_nil,List.append_nil,List.length_cons,List.length_append,List.length_map];omega
end Go.Proofs.R
namespace o
def cZ(q p i:Int)(len:Nat):Nat:=if q<p then (if q+1<p then len else min len i.toNat) else 0
def iE(p i:Int)(len:Nat):Nat:=if 4<p then min len i.toNat else 0
def wZ(m:Model)(p i:Int):C_ ByteArray :=
 m.scalars.map (·.name)++(m.vars.take (cZ 1 p i m.vars.length)).map (·.name)++(m.aA.take (cZ 2 p i m.aA.length)).map (·.name)++(m.procs.take (cZ 3 p i m.procs.length)).map (·.name)++(m.props.take (iE p i m.props.length)).map (·.name)
end o
namespace Go.Proofs.R
open Go Go.RowKit ba
def FB{P:D_}{v:mN}{a:C_ ByteArray}{x:ByteArray}{b c base:Nat}{w:A_}{f:B_->A_->Prop}{i:F_}{t}(h:CS base w v a)(j:w.heap[b]? = some (.cells #[.string x] T.l))(s:a.length+1<=8796093022208)(k:base<=w.heap.size)
  (l:∀(d:mN) e,CS base e d (a++[x])->w.grownBy e (OV v).ownBlock->f (.slice d.1 d.2.1 d.2.2) e):lJ P i T.l 1 16 (.slice v.1 v.2.1 v.2.2) (.slice (some ⟨b,0,none⟩) 1 c) w f t:=by
 have m:(a.length+1)*16<=140737488355328:=AY
 have n:a.length+1<=maxLen:=by unfold maxLen;omega
 refine _l (b:=16) (s:=OV v) (ys:=[x]) h (λ_=>rfl) (g5 j) rfl am2 m n k λd e g p=>?_;obtain⟨q,r,rfl,_⟩:=g.form;exact l (q,_,r) e g p
def Fy(cs:C_ B_)(m:o.Model)(p i:Int)(w:A_)(h:o.dU w cs m)(aQ:2<=p)(aR:0<=i)(aS:m.scalars.length+o.cZ 1 p i m.vars.length+o.cZ 2 p i m.aA.length+o.cZ 3 p i m.procs.length+o.iE p i m.props.length<=8000000000000) :
  EL F.Nu #[.agg cs.toArray,.I p,.I i] w λaq d=>(∃a:mN,aq = .slice a.1 a.2.1 a.2.2/\CS w.heap.size d a (o.wZ m p i))/\Ext w d:=by
 obtain⟨ar,au,av,bg,aw,bj,ax,ay,az,aB,rfl,ag,ah,ai,aj,ak,aU,aX,aY,aZ,a0⟩:=h.form;refine bn E.Nu ?_;simp -dsimp only[cD];refine eA ?_;intro aC k a1 aD al;have P:kV w aC k _ (none,0,0) []:=⟨aD,al,aT.nil _ _ _ _ _⟩;obtain⟨q,l⟩:∃t:C_ B_,t=[.slice ar m.scalars.length au,.slice av m.vars.length bg,.slice aw m.aA.length bj,.slice ax m.procs.length ay,.slice az m.props.length aB]:=⟨_,rfl⟩;rw[<-l] at P;clear al;refine eA ?_;simp -dsimp only[cD];refine eA ?_;refine R_ [1,2,3] (λa:mN=>[(7,.slice a.1 a.2.1 a.2.2)]) (λa d=>kV w d k q a (([]:C_ ByteArray)++(m.scalars.map (·.name)))) ?_ ?_
 .have f:m.scalars.length<=m.scalars.length:=by exact EM _
  have u:=P.ext;have v:=l ▸ P.I;refine ad ?_;refine K_ 8 (m.scalars.length) [1,2,3] (λa:mN=>[(7,.slice a.1 a.2.1 a.2.2)]) ((none,0,0):mN) (λc a d=>kV w d k q a (([]:C_ ByteArray)++(m.scalars.take c).map (·.name))) aW aW (P.jW Ah) ?_;clear u v;rintro c g S r b e;have x:=e.ext;have U:=l ▸ e.I;have n:c=m.scalars.length->kV w r k q g (([]:C_ ByteArray)++(m.scalars.map (·.name))):=λy=>e.jW (by rw[y];simp);refine R_ [1,2,3,7,8] (λ_:Unit=>[]) (λ_ d=>d=r/\c<m.scalars.length) ?_ ?_
  .refine ad ?_;apply I_<;>intro V
   .refine ad ?_;exact⟨(),trivial,aV,AY⟩
   .refine ad ?_;exact⟨g,aW,n AY⟩
  rintro _ Q _ ⟨rfl,z⟩;have s:c<m.scalars.length:=AY
  obtain⟨W,rfl⟩:=ag.addr;have K:=((ag.at c s).cells).ext x;refine ad ?_;intro X Y Z A B;have j:=e.then A;have C:=j.ext.size;refine ad ?_;refine FB j.own B (by simp only[List.length_append,List.length_map,List.length_nil,List.length_cons,List.length_take];omega) C λG ab H I=>?_;have J:=(j.grown I H).jW (wH (λt:o.Scalar=>t.name) _ _ _ s);refine ad ?_;exact⟨z,aV,G,aW,J⟩
 clear P;rintro aE a3 a5 L;have a7:=L.ext;have a8:=l ▸ L.I;refine R_ [1,2,3] (λa:mN=>[(7,.slice a.1 a.2.1 a.2.2)]) (λa d=>kV w d k q a (([]++(m.scalars.map (·.name)))++((m.vars.take (o.cZ 1 p i m.vars.length)).map (·.name)))) ?_ ?_
 .have f:o.cZ 1 p i m.vars.length<=m.vars.length:=by unfold o.cZ; (repeat' split)<;>omega
  have u:=L.ext;have v:=l ▸ L.I;refine ad ?_;refine K_ 9 (o.cZ 1 p i m.vars.length) [1,2,3] (λa:mN=>[(7,.slice a.1 a.2.1 a.2.2)]) aE (λc a d=>kV w d k q a (([]++(m.scalars.map (·.name)))++(m.vars.take c).map (·.name))) aW aW (L.jW Ah) ?_;clear u v;rintro c g S r b e;have x:=e.ext;have U:=l ▸ e.I;have n:c=o.cZ 1 p i m.vars.length->kV w r k q g (([]++(m.scalars.map (·.name)))++((m.vars.take (o.cZ 1 p i m.vars.length)).map (·.name))):=λy=>e.jW (by rw[y]);refine R_ [1,2,3,7,9] (λ_:Unit=>[]) (λ_ d=>d=r/\c<o.cZ 1 p i m.vars.length) ?_ ?_
  .refine ad ?_;apply I_<;>intro V
   .refine ad ?_;apply I_<;>intro an
    .refine ad ?_;exact⟨(),trivial,aV,by unfold o.cZ at f b ⊢; (repeat' split at b) <;> (repeat' split)<;>omega⟩
    .refine ad ?_;apply I_<;>intro ae
     .refine ad ?_;exact⟨(),trivial,aV,by unfold o.cZ at f b ⊢; (repeat' split at b) <;> (repeat' split)<;>omega⟩
     .refine ad ?_;exact⟨g,aW,n (by unfold o.cZ at f b ⊢; (repeat' split at b) <;> (repeat' split)<;>omega)⟩
   .refine ad ?_;exact⟨g,aW,n (by unfold o.cZ at f b ⊢; (repeat' split at b) <;> (repeat' split)<;>omega)⟩
  rintro _ Q _ ⟨rfl,z⟩;have s:c<m.vars.length:=AY
  obtain⟨W,rfl⟩:=ah.addr;have K:=((ah.at c s).cells).ext x;refine ad ?_;intro X Y Z A B;have j:=e.then A;have C:=j.ext.size;refine ad ?_;refine FB j.own B (by simp only[List.length_append,List.length_map,List.length_nil,List.length_cons,List.length_take];omega) C λG ab H I=>?_;have J:=(j.grown I H).jW (wH (λt:o.Var=>t.name) _ _ _ s);refine ad ?_;exact⟨z,aV,G,aW,J⟩
 clear L;rintro aF Q a9 M;have bb:=M.ext;have bf:=l ▸ M.I;refine R_ [1,2,3] (λa:mN=>[(7,.slice a.1 a.2.1 a.2.2)]) (λa d=>kV w d k q a ((([]++(m.scalars.map (·.name)))++((m.vars.take (o.cZ 1 p i m.vars.length)).map (·.name)))++((m.aA.take (o.cZ 2 p i m.aA.length)).map (·.name)))) ?_ ?_
 .have f:o.cZ 2 p i m.aA.length<=m.aA.length:=by unfold o.cZ; (repeat' split)<;>omega
  have u:=M.ext;have v:=l ▸ M.I;refine ad ?_;refine K_ 10 (o.cZ 2 p i m.aA.length) [1,2,3] (λa:mN=>[(7,.slice a.1 a.2.1 a.2.2)]) aF (λc a d=>kV w d k q a ((([]++(m.scalars.map (·.name)))++((m.vars.take (o.cZ 1 p i m.vars.length)).map (·.name)))++(m.aA.take c).map (·.name))) aW aW (M.jW Ah) ?_;clear u v;rintro c g S r b e;have x:=e.ext;have U:=l ▸ e.I;have n:c=o.cZ 2 p i m.aA.length->kV w r k q g ((([]++(m.scalars.map (·.name)))++((m.vars.take (o.cZ 1 p i m.vars.length)).map (·.name)))++((m.aA.take (o.cZ 2 p i m.aA.length)).map (·.name))):=λy=>e.jW (by rw[y]);refine R_ [1,2,3,7,10] (λ_:Unit=>[]) (λ_ d=>d=r/\c<o.cZ 2 p i m.aA.length) ?_ ?_
  .refine ad ?_;apply I_<;>intro V
   .refine ad ?_;apply I_<;>intro ao
    .refine ad ?_;apply I_<;>intro an
     .refine ad ?_;exact⟨(),trivial,aV,by unfold o.cZ at f b ⊢; (repeat' split at b) <;> (repeat' split)<;>omega⟩
     .refine ad ?_;apply I_<;>intro ae
      .refine ad ?_;exact⟨(),trivial,aV,by unfold o.cZ at f b ⊢; (repeat' split at b) <;> (repeat' split)<;>omega⟩
      .refine ad ?_;exact⟨g,aW,n (by unfold o.cZ at f b ⊢; (repeat' split at b) <;> (repeat' split)<;>omega)⟩
    .refine ad ?_;exact⟨g,aW,n (by unfold o.cZ at f b ⊢; (repeat' split at b) <;> (repeat' split)<;>omega)⟩
   .refine ad ?_;exact⟨g,aW,n (by unfold o.cZ at f b ⊢; (repeat' split at b) <;> (repeat' split)<;>omega)⟩
  rintro _ Q _ ⟨rfl,z⟩;have s:c<m.aA.length:=AY
  obtain⟨W,rfl⟩:=ai.addr;have K:=((ai.at c s).cells).ext x;refine ad ?_;intro X Y Z A B;have j:=e.then A;have C:=j.ext.size;refine ad ?_;refine FB j.own B (by simp only[List.length_append,List.length_map,List.length_nil,List.length_cons,List.length_take];omega) C λG ab H I=>?_;have J:=(j.grown I H).jW (wH (λt:o.eb=>t.name) _ _ _ s);refine ad ?_;exact⟨z,aV,G,aW,J⟩
 clear M;rintro aG bk bl N;have bo:=N.ext;have bp:=l ▸ N.I;refine R_ [1,2,3] (λa:mN=>[(7,.slice a.1 a.2.1 a.2.2)]) (λa d=>kV w d k q a (((([]++(m.scalars.map (·.name)))++((m.vars.take (o.cZ 1 p i m.vars.length)).map (·.name)))++((m.aA.take (o.cZ 2 p i m.aA.length)).map (·.name)))++((m.procs.take (o.cZ 3 p i m.procs.length)).map (·.name)))) ?_ ?_
 .have f:o.cZ 3 p i m.procs.length<=m.procs.length:=by unfold o.cZ; (repeat' split)<;>omega
  have u:=N.ext;have v:=l ▸ N.I;refine ad ?_;refine K_ 11 (o.cZ 3 p i m.procs.length) [1,2,3] (λa:mN=>[(7,.slice a.1 a.2.1 a.2.2)]) aG (λc a d=>kV w d k q a (((([]++(m.scalars.map (·.name)))++((m.vars.take (o.cZ 1 p i m.vars.length)).map (·.name)))++((m.aA.take (o.cZ 2 p i m.aA.length)).map (·.name)))++(m.procs.take c).map (·.name))) aW aW (N.jW Ah) ?_;clear u v;rintro c g S r b e;have x:=e.ext;have U:=l ▸ e.I;have n:c=o.cZ 3 p i m.procs.length->kV w r k q g (((([]++(m.scalars.map (·.name)))++((m.vars.take (o.cZ 1 p i m.vars.length)).map (·.name)))++((m.aA.take (o.cZ 2 p i m.aA.length)).map (·.name)))++((m.procs.take (o.cZ 3 p i m.procs.length)).map (·.name))):=λy=>e.jW (by rw[y]);refine R_ [1,2,3,7,11] (λ_:Unit=>[]) (λ_ d=>d=r/\c<o.cZ 3 p i m.procs.length) ?_ ?_
  .refine ad ?_;apply I_<;>intro V
   .refine ad ?_;apply I_<;>intro ao
    .refine ad ?_;apply I_<;>intro an
     .refine ad ?_;exact⟨(),trivial,aV,by unfold o.cZ at f b ⊢; (repeat' split at b) <;> (repeat' split)<;>omega⟩
     .refine ad ?_;apply I_<;>intro ae
      .refine ad ?_;exact⟨(),trivial,aV,by unfold o.cZ at f b ⊢; (repeat' split at b) <;> (repeat' split)<;>omega⟩
      .refine ad ?_;exact⟨g,aW,n (by unfold o.cZ at f b ⊢; (repeat' split at b) <;> (repeat' split)<;>omega)⟩
    .refine ad ?_;exact⟨g,aW,n (by unfold o.cZ at f b ⊢; (repeat' split at b) <;> (repeat' split)<;>omega)⟩
   .refine ad ?_;exact⟨g,aW,n (by unfold o.cZ at f b ⊢; (repeat' split at b) <;> (repeat' split)<;>omega)⟩
  rintro _ Q _ ⟨rfl,z⟩;have s:c<m.procs.length:=AY
  obtain⟨W,rfl⟩:=aj.addr;obtain⟨_,bq,dN,K,aH,aI⟩:=aj.at c s;obtain⟨bt,bu,rfl,bw⟩:=aH.form;obtain⟨bx,bz,rfl,bA⟩:=aI.form;replace K:=K.ext x;refine ad ?_;intro X Y Z A B;have j:=e.then A;have C:=j.ext.size;refine ad ?_;refine FB j.own B (by simp only[List.length_append,List.length_map,List.length_nil,List.length_cons,List.length_take];omega) C λG ab H I=>?_;have J:=(j.grown I H).jW (wH (λt:o.ed=>t.name) _ _ _ s);refine ad ?_;exact⟨z,aV,G,aW,J⟩
 clear N;rintro aJ bB bC O;have bD:=O.ext;have bE:=l ▸ O.I;refine R_ [1,2,3] (λa:mN=>[(7,.slice a.1 a.2.1 a.2.2)]) (λa d=>kV w d k q a ((((([]++(m.scalars.map (·.name)))++((m.vars.take (o.cZ 1 p i m.vars.length)).map (·.name)))++((m.aA.take (o.cZ 2 p i m.aA.length)).map (·.name)))++((m.procs.take (o.cZ 3 p i m.procs.length)).map (·.name)))++((m.props.take (o.iE p i m.props.length)).map (·.name)))) ?_ ?_
 .have f:o.iE p i m.props.length<=m.props.length:=by unfold o.iE; (repeat' split)<;>omega
  have u:=O.ext;have v:=l ▸ O.I;refine ad ?_;refine K_ 12 (o.iE p i m.props.length) [1,2,3] (λa:mN=>[(7,.slice a.1 a.2.1 a.2.2)]) aJ (λc a d=>kV w d k q a ((((([]++(m.scalars.map (·.name)))++((m.vars.take (o.cZ 1 p i m.vars.length)).map (·.name)))++((m.aA.take (o.cZ 2 p i m.aA.length)).map (·.name)))++((m.procs.take (o.cZ 3 p i m.procs.length)).map (·.name)))++(m.props.take c).map (·.name))) aW aW (O.jW Ah) ?_;clear u v;rintro c g S r b e;have x:=e.ext;have U:=l ▸ e.I;have n:c=o.iE p i m.props.length->kV w r k q g ((((([]++(m.scalars.map (·.name)))++((m.vars.take (o.cZ 1 p i m.vars.length)).map (·.name)))++((m.aA.take (o.cZ 2 p i m.aA.length)).map (·.name)))++((m.procs.take (o.cZ 3 p i m.procs.length)).map (·.name)))++((m.props.take (o.iE p i m.props.length)).map (·.name))):=λy=>e.jW (by rw[y]);refine R_ [1,2,3,7,12] (λ_:Unit=>[]) (λ_ d=>d=r/\c<o.iE p i m.props.length) ?_ ?_
  .refine ad ?_;apply I_<;>intro V
   .refine ad ?_;apply I_<;>intro ao
    .refine ad ?_;apply I_<;>intro ae
     .refine ad ?_;exact⟨(),trivial,aV,by unfold o.iE at f b ⊢; (repeat' split at b) <;> (repeat' split)<;>omega⟩
     .refine ad ?_;exact⟨g,aW,n (by unfold o.iE at f b ⊢; (repeat' split at b) <;> (repeat' split)<;>omega)⟩
    .refine ad ?_;exact⟨g,aW,n (by unfold o.iE at f b ⊢; (repeat' split at b) <;> (repeat' split)<;>omega)⟩
   .refine ad ?_;exact⟨g,aW,n (by unfold o.iE at f b ⊢; (repeat' split at b) <;> (repeat' split)<;>omega)⟩
  rintro _ Q _ ⟨rfl,z⟩;have s:c<m.props.length:=AY
  obtain⟨W,rfl⟩:=ak.addr;obtain⟨_,bG,K,aK⟩:=ak.at c s;obtain⟨bH,bI,rfl,bJ⟩:=aK.form;replace K:=K.ext x;refine ad ?_;intro X Y Z A B;have j:=e.then A;have C:=j.ext.size;refine ad ?_;refine FB j.own B (by simp only[List.length_append,List.length_map,List.length_nil,List.length_cons,List.length_take];omega) C λG ab H I=>?_;have J:=(j.grown I H).jW (wH (λt:o.mL=>t.name) _ _ _ s);refine ad ?_;exact⟨z,aV,G,aW,J⟩
 clear O;rintro aL bK bL af;have aP:=af.ext;have bM:=l ▸ af.I;refine ad ?_;refine⟨⟨aL,aV,?_⟩,aP⟩
 have:=af.own
 simp only[List.nil_append] at this;exact this
def GF(v:mN)(l:C_ ByteArray)(x:ByteArray)(base:Nat)(w:A_)(h:CS base w v l) :
  EL F.Nw #[.slice v.1 v.2.1 v.2.2,.string x] w λm d=>m = .bool (decide (x∈l))/\d=w:=by
 have e:a6 1 (Flat F7) w (.slice v.1 v.2.1 v.2.2) l:=aT.im (enc:=F7) (λ_=>rfl) h;obtain⟨s,t,u⟩:=v;obtain⟨g,n,p⟩:=a6.len e;have i:=p;unfold maxLen at i;dsimp only at g n i e;subst g;refine bn E.Nw ?_;refine ad ?_;refine K_ 5 l.length [0,1] (λ_:Unit=>[]) () (λb _ d=>d=w/\∀a (c:a<l.length),a<b->¬l[a]=x) aW aW ⟨rfl,λa _ h=>absurd h (Od _)⟩ ?_;rintro b _ y _ z ⟨rfl,j⟩;refine ad ?_;apply I_<;>intro A
 .have q:b<l.length:=AY
  obtain⟨B,rfl⟩:=e.addr;refine ad ?_;apply I_<;>intro k
  .have hm:x∈l:=by rw[<-k];exact FA _
   refine ad ?_;exact⟨by rw[decide_eq_true hm],aV⟩
  .refine ad ?_;exact⟨q,aV,(),trivial,aV,λa c C=>by
    by_cases f:a=b
    .subst f;exact k
    .exact j a c AY⟩
 .have hm:¬x∈l:=λr=>by
   obtain⟨a,c,f⟩:=List.mem_iff_getElem.1 r;exact j a c AY f
  refine ad ?_;exact⟨by rw[decide_eq_false hm],aV⟩
def afC(n:Int)(w:A_):EL F.be #[.int .i32 n] w λa b=>a = .bool (o.letter n)/\b=w:=by
 refine bn E.be ?_
 (repeat' first
  | (refine I_ (λ_=>?_) (λ_=>?_)<;>try (exfalso;omega))
  | (refine N_ (λ_=>?_) (λ_=>?_))
  | (refine Q_ AY ?_)
  | (refine L_ Aq ?_)
  | (refine _b AY ?_)
  | simp -dsimp only[c7,cD,Nat.reduceAdd,Nat.reduceEqDiff,reduceIte,reduceCtorEq,dt])
 all_goals (refine⟨?_,by first | rfl | trivial⟩;congr 1;rw[AH3];simp[o.letter];omega)
def amx(n:Int)(w:A_):EL F.hJ #[.int .i32 n] w λa b=>a = .bool (o.digit n)/\b=w:=by
 refine bn E.hJ ?_
 (repeat' first
  | (refine I_ (λ_=>?_) (λ_=>?_)<;>try (exfalso;omega))
  | (refine N_ (λ_=>?_) (λ_=>?_))
  | (refine Q_ AY ?_)
  | (refine L_ Aq ?_)
  | (refine _b AY ?_)
  | simp -dsimp only[c7,cD,Nat.reduceAdd,Nat.reduceEqDiff,reduceIte,reduceCtorEq,dt])
 all_goals (refine⟨?_,by first | rfl | trivial⟩;congr 1;rw[AH3];simp[o.digit];omega)
def avz(n:Int)(w:A_):EL F.x #[.int .i32 n] w λc d=>c = .bool (o.part n)/\d=w:=by
 refine bn E.x ?_;refine a4 ?_;refine J_ (afC n w) ?_;rintro _ _ ⟨rfl,rfl⟩;refine a4 ?_;refine N_ (λa=>?_) (λa=>?_)
 .refine a4 ?_;refine⟨?_,by first | rfl | trivial⟩;congr 1;simp[o.part,a]
 .refine a4 ?_;refine J_ (amx n _) ?_;rintro _ _ ⟨rfl,rfl⟩;refine a4 ?_;refine N_ (λb=>?_) (λb=>?_)
  .refine a4 ?_;refine⟨?_,by first | rfl | trivial⟩;congr 1;simp[o.part,b]
  .refine a4 ?_;refine⟨?_,by first | rfl | trivial⟩;congr 1;simp[o.part,a,b]
def ae7(w:A_)(b:Nat):Nat:=match w.heap[b]? with | some (.stringIter a pos)=>a.size - pos | _=>0
def atX(s:ByteArray)(p:Int->Bool)(A:∀h,128<=h->p h=false)(f:E_)(B:okF Tryz.prog f=true)(w:A_)
  (C:∀(h:Int) (b:A_),Ext w b->a2 Tryz.prog f #[.int .i32 h] b λr G=>r = .bool (p h)/\Ext b G) :
  EL F.FI #[.string s,.func (.func f) #[] #[]] w λr b=>r = .I (o.run p s)/\Ext w b:=by
 refine bn E.FI ?_;refine a4 ?_;refine AB6 λL e d H I=>?_;refine a4 ?_;refine Z_ (λJ b => ∃a,a<=s.size/\(∀c (g:c<s.size),c<a->p s[c].toNat=true)/\b.heap[e]? = some (.stringIter s a)/\Ext w b)
  (λ_ b=>ae7 b e) ⟨0,AG6 _,λ_ _ t=>absurd t (Od _),I,H⟩ ?_
 rintro J b l ⟨a,M,u,v,y⟩;have i:=l 0 rfl;have j:=l 1 rfl;have k:=l 8 rfl;simp only[bR,Nat.reduceAdd,Nat.reduceEqDiff,reduceIte,kF,ox] at i j k;clear l;refine cg (i_ i (i_ j k)) ?_;refine AB4 v (λz=>?_) (λN=>?_)
 .have x:=o.amt A s a z;have m:(fZ b e (.stringIter s (a+(Utf8.decode s a).2))).heap[e]? = some (.stringIter s (a+(Utf8.decode s a).2)):=Iy (cf v);have n:Ext w (fZ b e (.stringIter s (a+(Utf8.decode s a).2))):=y.fZ d _;generalize fZ b e (.stringIter s (a+(Utf8.decode s a).2))=O at m n;refine cg (i_ i (i_ j k)) ?_;refine W_ (first:=[]) (cap:=[]) B (C _ _ n) ?_;rintro _ P ⟨rfl,q⟩;refine cg (i_ i (i_ j k)) ?_;refine N_ (λd=>?_) (λd=>?_)
  .refine a4 ?_;rw[x.1] at d;have K:=x.2 d;rw[K] at m;refine⟨⟨a+1,AY,λc g Q=>?_,q.obj m,n.trans q⟩,?_⟩
   .by_cases t:c<a
    .exact u c g t
    .have:c=a:=AY
     subst this;exact d
   .simp only[ae7,q.obj m,v];omega
  .refine a4 ?_;rw[x.1] at d;refine⟨?_,n.trans q⟩;rw[o.ahQ p s a z (λc g=>u c AY g) d]
 .refine cg (i_ i (i_ j k)) ?_;refine⟨?_,y⟩;rw[o.ahH p s (λc g=>u c g AY)]
def gi(w:A_):Prop:=fy w ⟨G.atI,0,none⟩ (o.sy.map Value.string)
theorem gi.ext{w w':A_}(a:Ext w w')(h:gi w):gi w':=fy.ext a h
def Oh(s:ByteArray)(w:A_)(y:gi w)(K:s.size<=9223372036854775807) :
  EL F.Kx #[.string s] w λu e=>u = .bool (o.isName s)/\Ext w e:=by
 refine bn E.Kx ?_;refine a4 ?_;refine I_ (λa=>?_) (λa=>?_)
 .refine a4 ?_;refine⟨?_,Ext.refl w⟩;subst a;rfl
 have z:s.size≠0:=λh=>a (by
  cases s with | mk A =>
  have:A=#[]:=by simpa[ByteArray.size] using h
  rw[this])
 refine a4 ?_;refine I_ (λB=>?_) (λB=>?_)
 .refine a4 ?_;refine⟨?_,Ext.refl w⟩
  have:¬s.size<=16:=AY
  simp[o.isName,this]
 have C:s.size<=16:=AY
 refine a4 ?_;refine _c (s.get! 0) Ae (o.get?_eq s 0 AY) ?_;refine a4 ?_;have L:(s.get! 0).toNat<256:=UInt8.toNat_lt _;refine _6 (IntWalk.i32_in _ AY) ?_;refine a4 ?_;refine J_ (afC _ w) ?_;rintro _ _ ⟨rfl,rfl⟩;refine a4 ?_;refine N_ (λk=>?_) (λk=>?_);rotate_left
 .refine a4 ?_;refine⟨?_,Ext.refl _⟩;have l:o.letter (o.tZ s 0:Nat)=false:=k;simp[o.isName,l]
 refine a4 ?_;refine J_ (atX s o.part o.avy F.x Cl _ λG e _=>(avz G e).mono λu M ⟨m,n⟩=>⟨m,n ▸ Ext.refl _⟩) ?_;rintro _ H ⟨rfl,f⟩;refine a4 ?_;refine I_ (λm=>?_) (λm=>?_)
 .refine a4 ?_;refine⟨?_,f⟩;have p:¬o.run o.part s=s.size:=AY
  simp[o.isName,p]
 have p:o.run o.part s=s.size:=by have:=o.axC o.part s;omega
 have l:o.letter (o.tZ s 0:Nat)=true:=k;have v:o.isName s = !decide (s∈o.sy):=by simp[o.isName,p,l,C,z]
 refine a4 ?_;refine Y_ (y.ext f) rfl ?_;refine a4 ?_;refine Z_ (λi e => ∃b:Nat,b<=4/\i 27 = .I b/\(∀c (j:c<o.sy.length),c<b->o.sy[c]≠s)/\Ext H e)
  (λi _=>(4 - intOf (i 27)).toNat) ⟨0,AY,by refine a4 ?_;rfl,λ_ _ h=>absurd h (Od _),Ext.refl _⟩ ?_
 rintro i e q ⟨b,N,g,x,r⟩;have a:=q 0 rfl;have d:=q 26 rfl;simp only[bR,Nat.reduceAdd,Nat.reduceEqDiff,reduceIte,kF,ox] at a d;clear q;refine cg (i_ a (i_ d g)) ?_;refine I_ (λn=>?_) (λn=>?_)
 .refine cg (i_ a (i_ d g)) ?_;have I:b<o.sy.length:=by simp[o.sy];omega
  refine AB1 (.string o.sy[b]) AY (by simp[List.getElem?_map,I]) ?_;refine cg (i_ a (i_ d g)) ?_;refine I_ (λt=>?_) (λt=>?_)
  .refine a4 ?_;refine⟨?_,f.trans r⟩;rw[v]
   have:s∈o.sy:=t ▸ FA _
   simp[this]
  .refine cg (i_ a (i_ d g)) ?_;refine Q_ AY ?_;refine cg (i_ a (i_ d g)) ?_;refine⟨⟨b+1,AY,rfl,λc j O=>?_,r⟩,by simp[intOf];omega⟩;by_cases h:c<b
   .exact x c j h
   .have:c=b:=AY
    subst this;exact t
 .refine cg (i_ a (i_ d g)) ?_;refine⟨?_,f.trans r⟩;rw[v]
  have:s∉o.sy:=λJ=>by
   obtain⟨c,j,f⟩:=List.mem_iff_getElem.1 J;exact x c j (by have:o.sy.length=4:=rfl;omega) f
  simp[this]
def af2(a b:Int)(w:A_):EL F.KB #[.I a,.I b] w λc d=>c = .bool (o.narrow a b)/\d=w:=by
 refine bn E.KB ?_
 (repeat' first
  | (refine I_ (λ_=>?_) (λ_=>?_)<;>try (exfalso;omega))
  | (refine N_ (λ_=>?_) (λ_=>?_))
  | (refine Q_ AY ?_)
  | (refine L_ Aq ?_)
  | (refine _b AY ?_)
  | simp -dsimp only[c7,cD,Nat.reduceAdd,Nat.reduceEqDiff,reduceIte,reduceCtorEq,dt])
 all_goals (refine⟨?_,by first | rfl | trivial⟩;congr 1;rw[AH3];simp[o.narrow];omega)
def ah6{k:Int}{l:C_ o.Scalar}(a:1<=k)(d:k<=l.length):o.size k l=if 1<=(l[k.toNat - 1]' AY).size/\(l[k.toNat - 1]' AY).size<=4 then (l[k.toNat - 1]' AY).size else 0:=by
 have b:(k - 1).toNat=k.toNat - 1:=AY
 have c:k.toNat - 1<l.length:=AY
 simp only[o.size,b,List.getElem?_eq_getElem c,a,true_and]
def OT{k:Int}{l:C_ o.Scalar}(h:k<1\/l.length<k):o.size k l=0:=by
 unfold o.size;split
 .rename_i b a;rw[if_neg];rintro⟨c,_⟩
  have:=(List.getElem?_eq_some_iff.1 a).1
  omega
 .rfl
def VP(k:Int)(v:B_)(l:C_ o.Scalar)(w:A_)(b:o.hI w v l) :
  EL F.Kj #[.I k,v] w λv e=>v = .tuple #[.I (o.size k l),.bool (decide (o.size k l≠0))]/\e=w:=by
 obtain⟨i,j,rfl,m⟩:=b.form;refine bn E.Kj ?_;refine a4 ?_;refine I_ (λc=>?_) (λc=>?_)
 .refine a4 ?_;rw[OT (.inl c)];exact⟨rfl,trivial⟩
 refine a4 ?_;refine I_ (λd=>?_) (λd=>?_)
 .refine a4 ?_;rw[OT (.inr d)];exact⟨rfl,trivial⟩
 refine a4 ?_;refine Q_ AY ?_;refine a4 ?_;obtain⟨n,rfl⟩:=b.addr;have a:=(b.at (k.toNat - 1) AY).cells 1 _ rfl;refine M_ (k.toNat - 1) AY AY ?_;refine a4 ?_;refine L_ a ?_;rw[ah6 AY AY];generalize l[k.toNat - 1].size=f at a;refine a4 ?_;refine I_ (λg=>?_) (λg=>?_)
 .refine a4 ?_;rw[if_neg AY];exact⟨rfl,trivial⟩
 refine a4 ?_;refine Q_ AY ?_;refine a4 ?_;refine M_ (k.toNat - 1) AY AY ?_;refine a4 ?_;refine L_ a ?_;refine a4 ?_;refine I_ (λh=>?_) (λh=>?_)
 .refine a4 ?_;rw[if_neg AY];exact⟨rfl,trivial⟩
 refine a4 ?_;refine Q_ AY ?_;refine a4 ?_;refine M_ (k.toNat - 1) AY AY ?_;refine a4 ?_;refine L_ a ?_;refine a4 ?_;rw[if_pos AY];refine⟨?_,by trivial⟩
 have:f≠0:=AY
 simp[this]
def Wa(k:Int)(v:B_)(l:C_ o.Scalar)(w:A_)(b:o.hI w v l) :
  EL F.KA #[.I k,v] w λv c=>v = .bool (o.there k l)/\c=w:=by
 refine bn E.KA ?_;refine a4 ?_;refine J_ (VP k v l w b) ?_;rintro _ _ ⟨rfl,rfl⟩;refine a4 ?_;refine I_ (λa=>?_) (λa=>?_)
 .refine a4 ?_;refine⟨?_,by trivial⟩;simp[o.there,a]
 .refine a4 ?_;refine⟨?_,by trivial⟩;simp[o.there,a]
def seen(l:C_ ByteArray):C_ (ByteArray×B_):=l.map λa=>(a,.bool true)
theorem axT(l:C_ ByteArray)(x:ByteArray):((seen l).find? (λb=>decide (x=b.1))).map (·.2)=if x∈l then some (.bool true) else none:=by
 induction l with
 | nil=>rfl
 | cons c l d =>
  simp only[seen,List.map_cons,List.find?_cons,List.mem_cons];by_cases a:x=c
  .simp[a]
  .simp only[a,decide_false,false_or];exact d
set_option maxHeartbeats 2000000 in
def UE(n fR:Int)(ay:0<=n/\n<=9223372036854775807)(b:Nat->ByteArray)(mo:Nat->Int)(H I:E_)(bg bj:C_ B_)(ae:okF Tryz.prog H=true)(af:okF Tryz.prog I=true)(w:A_)(ag:gi w)
  (ah:∀a:Nat,a<n->o.kl (b a))
  (ai:∀(a:Nat) (l:A_),a<n->Ext w l->a2 Tryz.prog H (.I a :: bg).toArray l λv J=>v = .string (b a)/\Ext l J)
  (aj:∀(a:Nat) (l:A_),a<n->Ext w l->a2 Tryz.prog I (.I a :: bj).toArray l λv J=>v = .I (mo a)/\Ext l J) :
  EL F.sT #[.I n,.I fR,.func (.func H) #[] bg.toArray,.func (.func I) #[] bj.toArray] w
   λv l=>v = .tuple #[.I (o.first n.toNat (o.err fR b mo)).1,.I (o.first n.toNat (o.err fR b mo)).2]/\Ext w l:=by
 refine bn E.sT ?_;refine a4 ?_;refine _w λaz s ak al an=>?_;refine a4 ?_;refine Z_ (λz l => ∃a:Nat,a<=n/\z 16 = .I a/\(∀j,j<a->o.err fR b mo j=0)/\Ext w l /\
   ∃m p,l.heap[s]? = some (.map m p)/\mK Value.string m.toList (seen ((List.range a).map b)))
  (λz _=>(n - intOf (z 16)).toNat) ⟨0,AY,by refine a4 ?_;rfl,λ_ c=>absurd c (Od _),al,_,_,an,rfl⟩ ?_
 rintro z ao t ⟨a,aB,k,K,q,m,p,aq,Q⟩;have d:=t 0 rfl;have e:=t 1 rfl;have f:=t 2 rfl;have g:=t 3 rfl;have h:=t 10 rfl;have i:=t 15 rfl;simp only[bR,Nat.reduceAdd,Nat.reduceEqDiff,reduceIte,kF,ox] at d e f g h i;clear t;refine cg (i_ d (i_ e (i_ f (i_ g (i_ h (i_ i k)))))) ?_;refine I_ (λL=>?_) (λaC=>?_);rotate_left
 .refine a4 ?_;refine⟨?_,q⟩;rw[o.qt λj ar=>K j AY]
 have A:∀B:Int,o.err fR b mo a=B->B≠0->o.first n.toNat (o.err fR b mo)=((a:Int),B):=λB c au=>by
  rw[o.j9 AY K (by rw[c];exact au),c]
 refine cg (i_ d (i_ e (i_ f (i_ g (i_ h (i_ i k)))))) ?_;refine W_ (first:=[]) ae (ai a ao L q) ?_;rintro _ av ⟨rfl,r⟩;refine cg (i_ d (i_ e (i_ f (i_ g (i_ h (i_ i k)))))) ?_;refine I_ (λx=>?_) (λx=>?_)
 .refine cg (i_ d (i_ e (i_ f (i_ g (i_ h (i_ i k)))))) ?_;refine I_ (λc=>absurd c Ae) (λ_=>?_);refine a4 ?_;rw[A 11 (by simp[o.err,x]) Ae];exact⟨rfl,q.trans r⟩
 refine cg (i_ d (i_ e (i_ f (i_ g (i_ h (i_ i k)))))) ?_;refine J_ (Oh (b a) av (ag.ext (q.trans r)) (ah a L)) ?_;rintro _ S ⟨rfl,u⟩;refine cg (i_ d (i_ e (i_ f (i_ g (i_ h (i_ i k)))))) ?_;refine N_ (λC=>?_) (λC=>?_);rotate_left
 .refine cg (i_ d (i_ e (i_ f (i_ g (i_ h (i_ i k)))))) ?_;refine I_ (λc=>absurd c Ae) (λ_=>?_);refine a4 ?_;rw[A 6 (by simp[o.err,x,C]) Ae];exact⟨rfl,(q.trans r).trans u⟩
 refine cg (i_ d (i_ e (i_ f (i_ g (i_ h (i_ i k)))))) ?_;have U:S.heap[s]? = some (.map m p):=u.obj (r.obj aq);obtain⟨M,V,y⟩:=Gb OQ (b a) m.toList _ 0 Q;rw[axT] at y;refine _t (.inr ⟨s,p,rfl,U⟩) V ?_;have W:b a∈(List.range a).map b↔∃j,j<a/\b j=b a:=Ah
 by_cases G:∃j,j<a/\b j=b a
 .rw[if_pos (W.2 G)] at y;have N:pt (.bool false) false M = .bool true:=by simp[pt,y]
  rw[N];refine cg (i_ d (i_ e (i_ f (i_ g (i_ h (i_ i k)))))) ?_;refine I_ (λc=>absurd c Ae) (λ_=>?_);refine a4 ?_;rw[A 7 (by simp[o.err,x,C,G]) Ae];exact⟨rfl,(q.trans r).trans u⟩
 rw[if_neg (λc=>G (W.1 c))] at y;have aw:M=none:=by cases M<;>simp at y ⊢
 subst aw;have N:pt (.bool false) false none = .bool false:=rfl;rw[N];refine cg (i_ d (i_ e (i_ f (i_ g (i_ h (i_ i k)))))) ?_;refine W_ (first:=[]) af (aj a S L ((q.trans r).trans u)) ?_;rintro _ O ⟨rfl,P⟩;have X:o.err fR b mo a=mo a:=by simp[o.err,x,C,G]
 refine cg (i_ d (i_ e (i_ f (i_ g (i_ h (i_ i k)))))) ?_;refine I_ (λc=>?_) (λc=>?_);rotate_left
 .refine a4 ?_;rw[A (mo a) X c];exact⟨rfl,((q.trans r).trans u).trans P⟩
 refine cg (i_ d (i_ e (i_ f (i_ g (i_ h (i_ i k)))))) ?_;have Y:=P.obj U;refine _1 Y V ?_;have Z:(fZ O s (uW m p (.string (b a)) (.bool true) none)).heap[s]? = some (uW m p (.string (b a)) (.bool true) none):=Iy (cf Y);have ab:Ext w (fZ O s (uW m p (.string (b a)) (.bool true) none)):=(((q.trans r).trans u).trans P).fZ ak _;generalize fZ O s (uW m p (.string (b a)) (.bool true) none)=aD at Z ab;refine cg (i_ d (i_ e (i_ f (i_ g (i_ h (i_ i k)))))) ?_;refine Q_ AY ?_;refine cg (i_ d (i_ e (i_ f (i_ g (i_ h (i_ i k)))))) ?_;refine⟨⟨a+1,AY,rfl,λj ar=>?_,ab,_,_,Z,?_⟩,by simp[intOf];omega⟩
 .by_cases ax:j<a
  .exact K j ax
  .have:j=a:=AY
   subst this;rw[X,c]
 .have:=mK.push Q (b a) (.bool true) p
  simpa[seen,List.range_succ] using this
def tA{α:Type}(f:α->ByteArray)(l:C_ α)(i:Nat)(h:i<l.length):o.nameAt f l i=f l[i]:=by simp[o.nameAt,h]
def axO(i:Nat)(b:Nat)(v:B_)(l:C_ o.Scalar)(w:A_)(a:o.hI w v l)(d:w.cell? ⟨b,0,none⟩=some v)(c:i<l.length) :
  EL F.sU #[.I i,.pointer (some ⟨b,0,none⟩)] w λv e=>v = .string (o.nameAt (·.name) l i)/\Ext w e:=by
 obtain⟨g,h,rfl,j⟩:=a.form;refine bn E.sU ?_;refine a4 ?_;refine L_ d ?_;refine a4 ?_;obtain⟨k,rfl⟩:=a.addr;have f:=(a.at i c).cells 0 _ rfl;refine M_ i rfl c ?_;refine a4 ?_;refine L_ f ?_;refine a4 ?_;rw[tA _ _ _ c];exact⟨rfl,Ext.refl w⟩
def axP(i:Nat)(b:Nat)(v:B_)(l:C_ o.Scalar)(w:A_)(c:o.hI w v l)(f:w.cell? ⟨b,0,none⟩=some v)(a:i<l.length) :
  EL F.g4 #[.I i,.pointer (some ⟨b,0,none⟩)] w λv g=>v = .I (o.u6 l i)/\Ext w g:=by
 obtain⟨j,k,rfl,m⟩:=c.form;refine bn E.g4 ?_;refine a4 ?_;refine L_ f ?_;refine a4 ?_;obtain⟨n,rfl⟩:=c.addr;have d:=(c.at i a).cells 1 _ rfl;have h:o.u6 l i=if 1<=l[i].size/\l[i].size<=4 then 0 else 10:=by simp[o.u6,a]
 rw[h];generalize l[i].size=p at d;refine M_ i rfl a ?_;refine a4 ?_;refine L_ d ?_;refine a4 ?_;refine I_ (λe=>?_) (λe=>?_)
 .refine a4 ?_;rw[if_neg AY];exact⟨rfl,Ext.refl w⟩
 refine a4 ?_;refine L_ f ?_;refine a4 ?_;refine M_ i rfl a ?_;refine a4 ?_;refine L_ d ?_;refine a4 ?_;refine I_ (λe=>?_) (λe=>?_)
 .refine a4 ?_;rw[if_neg AY];exact⟨rfl,Ext.refl w⟩
 .refine a4 ?_;rw[if_pos AY];exact⟨rfl,Ext.refl w⟩
def axQ(v:B_)(l:C_ o.Scalar)(w:A_)(k:gi w)(d:o.hI w v l) :
  EL F.Kr #[v] w λv a=>v = .tuple #[.I (o.scalars l).1,.I (o.scalars l).2]/\Ext w a:=by
 obtain⟨m,n,rfl,r⟩:=d.form;refine bn E.Kr ?_;refine a4 ?_;refine O_ λh e s f p=>?_;have i:=a6.ext o.jG.ext f d;have g:h.cell? ⟨e,0,none⟩=some (.slice m l.length n):=Dd p rfl;refine a4 ?_;refine L_ g ?_;refine a4 ?_;refine J_ (UE l.length 2 AY (o.nameAt (·.name) l) (o.u6 l) F.sU F.g4 [_] [_] Cl Cl h (k.ext f)
  (λb j=>by rw[tA _ _ _ AY];obtain⟨t,rfl⟩:=d.addr;exact(d.at b AY).ok)
  (λb a j c=>axO b e _ l a (a6.ext o.jG.ext c i) (c.cell g) AY)
  (λb a j c=>axP b e _ l a (a6.ext o.jG.ext c i) (c.cell g) AY)) ?_
 rintro _ u ⟨rfl,q⟩;refine a4 ?_;exact⟨rfl,f.trans q⟩
def JI(x:o.Var)(v:B_)(l:C_ o.Scalar)(w:A_)(f:o.hI w v l) :
  EL F.ex #[.agg x.enc.toArray,v] w λv g=>v = .tuple #[.I (o.bounds x l).1,.I (o.bounds x l).2]/\Ext w g:=by
 obtain⟨k,m,rfl,n⟩:=f.form;refine bn E.ex ?_;refine a4 ?_;refine O_ λa b p c d=>?_;have bg:a.cell? (Addr.add ⟨b,0,none⟩ 1)=some (.I x.scalar):=gH d rfl;have h:a.cell? (Addr.add ⟨b,0,none⟩ 3)=some (.I x.aQ):=gH d rfl;have i:a.cell? (Addr.add ⟨b,0,none⟩ 4)=some (.I x.ab):=gH d rfl;refine a4 ?_;refine L_ bg ?_;refine a4 ?_;refine I_ (λe=>?_) (λe=>?_)
 .refine a4 ?_;refine L_ h ?_;refine a4 ?_;refine L_ i ?_;refine a4 ?_;intro q j;simp only[o.bounds,e,if_true];exact⟨trivial,c.trans j⟩
 .refine a4 ?_;refine L_ bg ?_;refine a4 ?_;refine J_ (VP x.scalar _ l a (a6.ext o.jG.ext c f)) ?_;rintro _ _ ⟨rfl,rfl⟩;refine a4 ?_;simp only[o.bounds,e,if_false];exact⟨trivial,c⟩
def Df(x:o.Var)(v:B_)(l:C_ o.Scalar)(w:A_)(c:o.hI w v l) :
  EL F.AZ #[.agg x.enc.toArray,v] w λv e=>v = .I (o.cells x l)/\Ext w e:=by
 obtain⟨h,i,rfl,j⟩:=c.form;refine bn E.AZ ?_;refine a4 ?_;refine O_ λd f k a g=>?_;have bj:d.cell? (Addr.add ⟨f,0,none⟩ 2)=some (.I x.over):=gH g rfl;refine a4 ?_;refine L_ bj ?_;refine a4 ?_;refine I_ (λb=>?_) (λb=>?_)
 .refine a4 ?_;simp only[o.cells,b,if_true];exact⟨trivial,a⟩
 .refine a4 ?_;refine L_ bj ?_;refine a4 ?_;refine J_ (VP x.over _ l d (a6.ext o.jG.ext a c)) ?_;rintro _ _ ⟨rfl,rfl⟩;refine a4 ?_;simp only[o.cells,b,if_false];exact⟨trivial,a⟩
def ay2(i:Nat)(b:Nat)(v:B_)(l:C_ o.Var)(w:A_)(a:o.j1 w v l)(d:w.cell? ⟨b,0,none⟩=some v)(c:i<l.length) :
  EL F.v #[.I i,.pointer (some ⟨b,0,none⟩)] w λv e=>v = .string (o.nameAt (·.name) l i)/\Ext w e:=by
 obtain⟨g,h,rfl,j⟩:=a.form;refine bn E.v ?_;refine a4 ?_;refine L_ d ?_;refine a4 ?_;obtain⟨k,rfl⟩:=a.addr;have f:=(a.at i c).cells 0 _ rfl;refine M_ i rfl c ?_;refine a4 ?_;refine L_ f ?_;refine a4 ?_;rw[tA _ _ _ c];exact⟨rfl,Ext.refl w⟩
def ay3(i:Nat)(b A:Nat)(v B:B_)(l:C_ o.Var)(s:C_ o.Scalar)(w:A_)(n:o.j1 w v l)(C:o.hI w B s)(L:w.cell? ⟨b,0,none⟩=some v)(M:w.cell? ⟨A,0,none⟩=some B)
  (p:i<l.length):EL F.w #[.I i,.pointer (some ⟨b,0,none⟩),.pointer (some ⟨A,0,none⟩)] w λv N=>v = .I (o.qX l s i)/\Ext w N:=by
 obtain⟨W,X,rfl,Y⟩:=n.form;obtain⟨Z,ab,rfl,ae⟩:=C.form;refine bn E.w ?_;refine a4 ?_;refine L_ L ?_;refine a4 ?_;obtain⟨af,rfl⟩:=n.addr;have G:=(n.at i p).cells;have H:o.qX l s i=if o.there l[i].scalar s=false\/o.there l[i].over s=false then 8
  else if (l[i].scalar=0/\o.narrow l[i].aQ l[i].ab=false)\/l[i].init<(o.bounds l[i] s).1\/l[i].init > (o.bounds l[i] s).2 then 10 else 0:=by simp[o.qX,p]
 rw[H];clear H;generalize l[i]=a at G;refine M_ i rfl p ?_;refine a4 ?_;refine Y_ G rfl ?_;refine a4 ?_;refine O_ λO q P I J=>?_;refine a4 ?_;refine X_ J rfl rfl (by simp[o.Var.enc,Value.oneCell']) λe K j=>?_;have f:Ext w e:=K.ext I P;clear K J I O;have bg:e.cell? (Addr.add ⟨q,0,none⟩ 1)=some (.I a.scalar):=gH j rfl;have bj:e.cell? (Addr.add ⟨q,0,none⟩ 2)=some (.I a.over):=gH j rfl;have Q:e.cell? (Addr.add ⟨q,0,none⟩ 5)=some (.I a.init):=gH j rfl;have r:=f.cell M;have t:=a6.ext o.jG.ext f C;refine a4 ?_;refine L_ bg ?_;refine a4 ?_;refine L_ r ?_;refine a4 ?_;refine J_ (Wa a.scalar _ s e t) ?_;rintro _ _ ⟨rfl,rfl⟩;refine a4 ?_;refine N_ (λu=>?_) (λu=>?_);rotate_left
 .refine a4 ?_;simp only[u,true_or,if_true];exact⟨trivial,f⟩
 refine a4 ?_;refine L_ bj ?_;refine a4 ?_;refine L_ r ?_;refine a4 ?_;refine J_ (Wa a.over _ s _ t) ?_;rintro _ _ ⟨rfl,rfl⟩;refine a4 ?_;refine N_ (λx=>?_) (λx=>?_);rotate_left
 .refine a4 ?_;simp only[x,or_true,if_true];exact⟨trivial,f⟩
 refine a4 ?_;refine Y_ (g5 j) rfl ?_;refine a4 ?_;refine L_ r ?_;refine a4 ?_;refine J_ (JI a _ s _ t) ?_;rintro _ S ⟨rfl,y⟩;rename_i ag;have U:=y.cell bg;have k:=y.cell Q;have c:=f.trans y;refine a4 ?_;refine L_ U ?_;have d:¬(o.there a.scalar s=false\/o.there a.over s=false):=by simp[u,x]
 refine a4 ?_;refine I_ (λm=>?_) (λm=>?_)
 .refine a4 ?_;have V:o.bounds a s=(a.aQ,a.ab):=by simp[o.bounds,m]
  rw[V];refine J_ (af2 a.aQ a.ab S) ?_;rintro _ _ ⟨rfl,rfl⟩;refine a4 ?_;refine N_ (λz=>?_) (λz=>?_);rotate_left
  .refine a4 ?_;rw[if_neg d,if_pos (.inl ⟨m,z⟩)];exact⟨rfl,c⟩
  refine a4 ?_;refine L_ k ?_;refine a4 ?_;refine I_ (λg=>?_) (λg=>?_)
  .refine a4 ?_;rw[if_neg d,if_pos (.inr (.inl g))];exact⟨rfl,c⟩
  refine a4 ?_;refine L_ k ?_;refine a4 ?_;refine I_ (λh=>?_) (λh=>?_)
  .refine a4 ?_;rw[if_neg d,if_pos (.inr (.inr h))];exact⟨rfl,c⟩
  .refine a4 ?_;rw[if_neg d,if_neg (by rw[z];simp;omega)];exact⟨rfl,c⟩
 .refine a4 ?_;refine L_ k ?_;refine a4 ?_;refine I_ (λg=>?_) (λg=>?_)
  .refine a4 ?_;rw[if_neg d,if_pos (.inr (.inl g))];exact⟨rfl,c⟩
  refine a4 ?_;refine L_ k ?_;refine a4 ?_;refine I_ (λh=>?_) (λh=>?_)
  .refine a4 ?_;rw[if_neg d,if_pos (.inr (.inr h))];exact⟨rfl,c⟩
  .refine a4 ?_;rw[if_neg d,if_neg (by simp[m];omega)];exact⟨rfl,c⟩
def ai3(v h:B_)(l:C_ o.Var)(s:C_ o.Scalar)(fR:Int)(w:A_)(p:gi w)(d:o.j1 w v l)(i:o.hI w h s) :
  EL F.Ks #[v,h,.I fR] w λv b=>v = .tuple #[.I (o.vars l s fR).1,.I (o.vars l s fR).2]/\Ext w b:=by
 obtain⟨q,r,rfl,G⟩:=d.form;obtain⟨t,u,rfl,H⟩:=i.form;refine bn E.Ks ?_;refine a4 ?_;refine O_ λI e J x y=>?_;refine a4 ?_;refine O_ λf j K k z=>?_;have a:=x.trans k;have m:=a6.ext o.q4.ext a d;have A:=a6.ext o.jG.ext a i;have g:f.cell? ⟨e,0,none⟩=some (.slice q l.length r):=Dd (k.obj y) rfl;have B:f.cell? ⟨j,0,none⟩=some (.slice t s.length u):=Dd z rfl;refine a4 ?_;refine L_ g ?_;refine a4 ?_;refine J_ (UE l.length (max fR 0) AY (o.nameAt (·.name) l) (o.qX l s) F.v F.w [_] [_,_] Cl Cl f (p.ext a)
  (λc n=>by rw[tA _ _ _ AY];obtain⟨L,rfl⟩:=d.addr;exact(d.at c AY).ok)
  (λc b n a=>ay2 c e _ l b (a6.ext o.q4.ext a m) (a.cell g) AY)
  (λc b n a=>ay3 c e j _ _ l s b (a6.ext o.q4.ext a m) (a6.ext o.jG.ext a A) (a.cell g) (a.cell B) AY)) ?_
 rintro _ M ⟨rfl,C⟩;refine a4 ?_;exact⟨rfl,a.trans C⟩
def alR(i:Nat)(b:Nat)(v:B_)(l:C_ o.eb)(w:A_)(a:o.oc w v l)(d:w.cell? ⟨b,0,none⟩=some v)(c:i<l.length) :
  EL F.fF #[.I i,.pointer (some ⟨b,0,none⟩)] w λv e=>v = .string (o.nameAt (·.name) l i)/\Ext w e:=by
 obtain⟨g,h,rfl,j⟩:=a.form;refine bn E.fF ?_;refine a4 ?_;refine L_ d ?_;refine a4 ?_;obtain⟨k,rfl⟩:=a.addr;have f:=(a.at i c).cells 0 _ rfl;refine M_ i rfl c ?_;refine a4 ?_;refine L_ f ?_;refine a4 ?_;rw[tA _ _ _ c];exact⟨rfl,Ext.refl w⟩
def alS(i:Nat)(b p:Nat)(v q:B_)(l:C_ o.eb)(s:C_ o.Scalar)(w:A_)(h:o.oc w v l)(r:o.hI w q s)(C:w.cell? ⟨b,0,none⟩=some v)(G:w.cell? ⟨p,0,none⟩=some q)
  (j:i<l.length):EL F.vv #[.I i,.pointer (some ⟨b,0,none⟩),.pointer (some ⟨p,0,none⟩)] w λv H=>v = .I (o.qo l s i)/\Ext w H:=by
 obtain⟨O,P,rfl,Q⟩:=h.form;obtain⟨S,U,rfl,V⟩:=r.form;refine bn E.vv ?_;refine a4 ?_;refine L_ C ?_;refine a4 ?_;obtain⟨W,rfl⟩:=h.addr;have t:=(h.at i j).cells;have u:o.qo l s i=if o.there l[i].scalar s=false then 8
  else if l[i].cap<1\/l[i].cap > 4\/(l[i].scalar=0/\o.narrow l[i].aQ l[i].ab=false) then 10 else 0:=by simp[o.qo,j]
 rw[u];clear u;generalize l[i]=a at t;refine M_ i rfl j ?_;refine a4 ?_;refine Y_ t rfl ?_;refine a4 ?_;refine O_ λI f J x y=>?_;refine a4 ?_;refine X_ y rfl rfl (by simp[o.eb.enc,Value.oneCell']) λd z g=>?_;have c:Ext w d:=z.ext x J;clear z y x I;have bg:d.cell? (Addr.add ⟨f,0,none⟩ 1)=some (.I a.scalar):=gH g rfl;have bj:d.cell? (Addr.add ⟨f,0,none⟩ 2)=some (.I a.cap):=gH g rfl;have K:d.cell? (Addr.add ⟨f,0,none⟩ 3)=some (.I a.aQ):=gH g rfl;have L:d.cell? (Addr.add ⟨f,0,none⟩ 4)=some (.I a.ab):=gH g rfl;have M:=c.cell G;have N:=a6.ext o.jG.ext c r;refine a4 ?_;refine L_ bg ?_;refine a4 ?_;refine L_ M ?_;refine a4 ?_;refine J_ (Wa a.scalar _ s d N) ?_;rintro _ _ ⟨rfl,rfl⟩;refine a4 ?_;refine N_ (λk=>?_) (λk=>?_);rotate_left
 .refine a4 ?_;simp only[k,if_true];exact⟨trivial,c⟩
 have e:¬(o.there a.scalar s=false):=by simp[k]
 refine a4 ?_;refine L_ bj ?_;refine a4 ?_;refine I_ (λA=>?_) (λA=>?_)
 .refine a4 ?_;rw[if_neg e,if_pos (.inl A)];exact⟨rfl,c⟩
 refine a4 ?_;refine L_ bj ?_;refine a4 ?_;refine I_ (λB=>?_) (λB=>?_)
 .refine a4 ?_;rw[if_neg e,if_pos (.inr (.inl B))];exact⟨rfl,c⟩
 refine a4 ?_;refine L_ bg ?_;refine a4 ?_;refine I_ (λm=>?_) (λm=>?_)
 .refine a4 ?_;refine L_ K ?_;refine a4 ?_;refine L_ L ?_;refine a4 ?_;refine J_ (af2 a.aQ a.ab _) ?_;rintro _ _ ⟨rfl,rfl⟩;refine a4 ?_;refine N_ (λn=>?_) (λn=>?_)
  .refine a4 ?_;rw[if_neg e,if_neg (by rw[n];simp;omega)];exact⟨rfl,c⟩
  .refine a4 ?_;rw[if_neg e,if_pos (.inr (.inr ⟨m,n⟩))];exact⟨rfl,c⟩
 .refine a4 ?_;rw[if_neg e,if_neg (by simp[m];omega)];exact⟨rfl,c⟩
def alU(v h:B_)(l:C_ o.eb)(s:C_ o.Scalar)(w:A_)(p:gi w)(d:o.oc w v l)(i:o.hI w h s) :
  EL F.eq #[v,h] w λv b=>v = .tuple #[.I (o.aA l s).1,.I (o.aA l s).2]/\Ext w b:=by
 obtain⟨q,r,rfl,G⟩:=d.form;obtain⟨t,u,rfl,H⟩:=i.form;refine bn E.eq ?_;refine a4 ?_;refine O_ λI e J x y=>?_;refine a4 ?_;refine O_ λf j K k z=>?_;have a:=x.trans k;have m:=a6.ext o.rW.ext a d;have A:=a6.ext o.jG.ext a i;have g:f.cell? ⟨e,0,none⟩=some (.slice q l.length r):=Dd (k.obj y) rfl;have B:f.cell? ⟨j,0,none⟩=some (.slice t s.length u):=Dd z rfl;refine a4 ?_;refine L_ g ?_;refine a4 ?_;refine J_ (UE l.length 4 AY (o.nameAt (·.name) l) (o.qo l s) F.fF F.vv [_] [_,_] Cl Cl f (p.ext a)
  (λc n=>by rw[tA _ _ _ AY];obtain⟨L,rfl⟩:=d.addr;exact(d.at c AY).ok)
  (λc b n a=>alR c e _ l b (a6.ext o.rW.ext a m) (a.cell g) AY)
  (λc b n a=>alS c e j _ _ l s b (a6.ext o.rW.ext a m) (a6.ext o.jG.ext a A) (a.cell g) (a.cell B) AY)) ?_
 rintro _ M ⟨rfl,C⟩;refine a4 ?_;exact⟨rfl,a.trans C⟩
def EB(k:Int)(v:B_)(l:C_ o.Scalar)(w:A_)(a:o.hI w v l) :
  EL F.HP #[v,.I k] w λv e=>v = .I (o.size k l)/\e=w:=by
 obtain⟨g,h,rfl,i⟩:=a.form;refine bn E.HP ?_;refine a4 ?_;refine I_ (λb=>?_) (λb=>?_)
 .refine a4 ?_;rw[OT (.inl b)];exact⟨rfl,trivial⟩
 refine a4 ?_;refine I_ (λc=>?_) (λc=>?_)
 .refine a4 ?_;rw[OT (.inr c)];exact⟨rfl,trivial⟩
 obtain⟨j,rfl⟩:=a.addr;have d:=(a.at (k.toNat - 1) AY).cells 1 _ rfl;have f:(k - 1).toNat*2=(k.toNat - 1)*2:=AY
 rw[ah6 AY AY];rw[<-f] at d;generalize l[k.toNat - 1].size=m at d
 (repeat' first
  | (refine I_ (λ_=>?_) (λ_=>?_)<;>try (exfalso;omega))
  | (refine N_ (λ_=>?_) (λ_=>?_))
  | (refine Q_ AY ?_)
  | (refine L_ Aq ?_)
  | (refine _b AY ?_)
  | simp -dsimp only[c7,cD,Nat.reduceAdd,Nat.reduceEqDiff,reduceIte,reduceCtorEq,dt])
 .rw[if_neg AY];exact⟨rfl,trivial⟩
 .rw[if_neg AY];exact⟨rfl,trivial⟩
 .rw[if_pos AY];exact⟨rfl,trivial⟩
def Vq(x:o.Var)(v:B_)(l:C_ o.Scalar)(w:A_)(f:o.hI w v l) :
  EL F.M8 #[.agg x.enc.toArray,v] w λv g=>v = .tuple #[.I (o.bounds x l).1,.I (o.bounds x l).2]/\Ext w g:=by
 obtain⟨k,m,rfl,n⟩:=f.form;refine bn E.M8 ?_;refine a4 ?_;refine O_ λa b p c d=>?_;have bg:a.cell? (Addr.add ⟨b,0,none⟩ 1)=some (.I x.scalar):=gH d rfl;have h:a.cell? (Addr.add ⟨b,0,none⟩ 3)=some (.I x.aQ):=gH d rfl;have i:a.cell? (Addr.add ⟨b,0,none⟩ 4)=some (.I x.ab):=gH d rfl;refine a4 ?_;refine L_ bg ?_;refine a4 ?_;refine I_ (λe=>?_) (λe=>?_)
 .refine a4 ?_;refine L_ h ?_;refine a4 ?_;refine L_ i ?_;refine a4 ?_;intro q j;simp only[o.bounds,e,if_true];exact⟨trivial,c.trans j⟩
 .refine a4 ?_;refine L_ bg ?_;refine a4 ?_;refine J_ (EB x.scalar _ l a (a6.ext o.jG.ext c f)) ?_;rintro _ _ ⟨rfl,rfl⟩;refine a4 ?_;simp only[o.bounds,e,if_false];exact⟨trivial,c⟩
def OI(x:o.Var)(v:B_)(l:C_ o.Scalar)(w:A_)(c:o.hI w v l) :
  EL F.M9 #[.agg x.enc.toArray,v] w λv e=>v = .I (o.cells x l)/\Ext w e:=by
 obtain⟨h,i,rfl,j⟩:=c.form;refine bn E.M9 ?_;refine a4 ?_;refine O_ λd f k a g=>?_;have bj:d.cell? (Addr.add ⟨f,0,none⟩ 2)=some (.I x.over):=gH g rfl;refine a4 ?_;refine L_ bj ?_;refine a4 ?_;refine I_ (λb=>?_) (λb=>?_)
 .refine a4 ?_;simp only[o.cells,b,if_true];exact⟨trivial,a⟩
 .refine a4 ?_;refine L_ bj ?_;refine a4 ?_;refine J_ (EB x.over _ l d (a6.ext o.jG.ext a c)) ?_;rintro _ _ ⟨rfl,rfl⟩;refine a4 ?_;simp only[o.cells,b,if_false];exact⟨trivial,a⟩
def ahv(n:Int)(w:A_):EL F.Eh #[.int .u8 n] w λa b=>a = .bool (o.letter n)/\b=w:=by
 refine bn E.Eh ?_
 (repeat' first
  | (refine I_ (λ_=>?_) (λ_=>?_)<;>try (exfalso;omega))
  | (refine N_ (λ_=>?_) (λ_=>?_))
  | (refine Q_ AY ?_)
  | (refine L_ Aq ?_)
  | (refine _b AY ?_)
  | simp -dsimp only[c7,cD,Nat.reduceAdd,Nat.reduceEqDiff,reduceIte,reduceCtorEq,dt])
 all_goals (refine⟨?_,by first | rfl | trivial⟩;congr 1;rw[AH3];simp[o.letter];omega)
def Vo(n:Int)(w:A_):EL F.BZ #[.int .u8 n] w λa b=>a = .bool (o.digit n)/\b=w:=by
 refine bn E.BZ ?_
 (repeat' first
  | (refine I_ (λ_=>?_) (λ_=>?_)<;>try (exfalso;omega))
  | (refine N_ (λ_=>?_) (λ_=>?_))
  | (refine Q_ AY ?_)
  | (refine L_ Aq ?_)
  | (refine _b AY ?_)
  | simp -dsimp only[c7,cD,Nat.reduceAdd,Nat.reduceEqDiff,reduceIte,reduceCtorEq,dt])
 all_goals (refine⟨?_,by first | rfl | trivial⟩;congr 1;rw[AH3];simp[o.digit];omega)
def yn:C_ ByteArray:=[⟨#[58,61]⟩,⟨#[61,61]⟩,⟨#[33,61]⟩,⟨#[60,61]⟩,⟨#[45,62]⟩,⟨#[38,38]⟩,⟨#[124,124]⟩,⟨#[61,62]⟩,⟨#[40]⟩,⟨#[41]⟩,⟨#[91]⟩,⟨#[93]⟩,⟨#[123]⟩,⟨#[125]⟩,⟨#[59]⟩,⟨#[44]⟩,⟨#[58]⟩,⟨#[46]⟩,⟨#[60]⟩,⟨#[43]⟩,⟨#[45]⟩,⟨#[42]⟩,⟨#[33]⟩,⟨#[63]⟩,⟨#[64]⟩]
def axX(w:A_):EL F.MS #[] w λc a=>(∃b,c = .slice (some ⟨b,0,none⟩) 25 25/\fy a ⟨b,0,none⟩ (yn.map Value.string))/\Ext w a:=by
 refine bn E.MS ?_;refine a4 ?_;refine _D (cs:=yn.map Value.string) (by simp[List.range,List.range.loop,gv,lay,dE,o6,bR,Value.cells,yn]) λg d h e f=>?_;refine a4 ?_;exact⟨⟨d,rfl,g5 f⟩,e⟩
def akK(s:ByteArray)(w:A_)(h:0<s.size)(Q:s.size<=16) :
  EL F.MR #[.string s,.I 0] w λJ m=>(∃C A:Int,J = .tuple #[.I C,.I A]/\if o.letter (o.tZ s 0:Nat)=true then C=o.run o.part s/\A=1 else A≠1)/\Ext w m:=by
 refine bn E.MR ?_;refine a4 ?_;refine _c (s.get! 0) Ae (o.get?_eq s 0 h) ?_;refine a4 ?_;refine J_ (ahv _ w) ?_;rintro _ w ⟨rfl,rfl⟩;refine a4 ?_;refine N_ (λa=>?_) (λa=>?_)
 .have y:o.letter (o.tZ s 0:Nat)=true:=a;refine a4 ?_;refine Z_ (λi m => ∃c:Nat,c<=s.size/\i 6 = .I c/\(∀g (l:g<s.size),g<c->o.part s[g].toNat=true)/\m=w)
   (λi _=>(s.size - intOf (i 6)).toNat) ⟨0,AY,by refine a4 ?_;rfl,λ_ _ h=>absurd h (Od _),rfl⟩ ?_
  rintro i w j ⟨c,G,d,q,rfl⟩;have b:=j 0 rfl;have a:=j 1 rfl;simp only[bR,Nat.reduceAdd,Nat.reduceEqDiff,reduceIte,kF,ox] at b a;clear j;refine cg (i_ b (i_ a d)) ?_;refine I_ (λn=>?_) (λn=>?_)
  .have k:c<s.size:=AY
   refine cg (i_ b (i_ a d)) ?_;refine _c (s.get! c) AY (o.get?_eq s c k) ?_;rw[o.get_eq s c k];refine cg (i_ b (i_ a d)) ?_;refine J_ (ahv _ _) ?_;rintro _ w ⟨rfl,rfl⟩;refine cg (i_ b (i_ a d)) ?_;refine N_ (λr=>?_) (λr=>?_)
   .refine cg (i_ b (i_ a d)) ?_;refine Q_ AY ?_;refine cg (i_ b (i_ a d)) ?_;refine⟨⟨c+1,AY,rfl,λg l H=>?_,trivial⟩,by simp[intOf];omega⟩;by_cases t:g<c
    .exact q g l t
    .have:g=c:=AY
     subst this;simp[o.part,r]
   refine cg (i_ b (i_ a d)) ?_;refine _c (s.get! c) AY (o.get?_eq s c k) ?_;rw[o.get_eq s c k];refine cg (i_ b (i_ a d)) ?_;refine J_ (Vo _ _) ?_;rintro _ w ⟨rfl,rfl⟩;refine cg (i_ b (i_ a d)) ?_;refine N_ (λp=>?_) (λp=>?_)
   .refine cg (i_ b (i_ a d)) ?_;refine Q_ AY ?_;refine cg (i_ b (i_ a d)) ?_;refine⟨⟨c+1,AY,rfl,λg l H=>?_,trivial⟩,by simp[intOf];omega⟩;by_cases t:g<c
    .exact q g l t
    .have:g=c:=AY
     subst this;simp[o.part,p]
   refine cg (i_ b (i_ a d)) ?_;refine _c (s.get! c) AY (o.get?_eq s c k) ?_;rw[o.get_eq s c k];refine cg (i_ b (i_ a d)) ?_;refine I_ (λK=>?_) (λK=>?_)
   .refine cg (i_ b (i_ a d)) ?_;refine Q_ AY ?_;refine cg (i_ b (i_ a d)) ?_;refine⟨⟨c+1,AY,rfl,λg l H=>?_,trivial⟩,by simp[intOf];omega⟩;by_cases t:g<c
    .exact q g l t
    .have:g=c:=AY
     subst this;simp[o.part];omega
   .refine cg (i_ b (i_ a d)) ?_;refine Q_ AY ?_;refine cg (i_ b (i_ a d)) ?_;refine⟨⟨_,_,rfl,?_⟩,Ext.refl _⟩;rw[if_pos y];rw[o.ahQ o.part s c k (λg l=>q g AY l) (by simp only[o.part,r,p,Bool.false_or,decide_eq_false_iff_not];omega)];exact⟨AY,rfl⟩
  .refine cg (i_ b (i_ a d)) ?_;refine Q_ AY ?_;refine cg (i_ b (i_ a d)) ?_;refine⟨⟨_,_,rfl,?_⟩,Ext.refl _⟩;rw[if_pos y];rw[o.ahH o.part s (λg l=>q g l AY)];exact⟨AY,rfl⟩
 have y:o.letter (o.tZ s 0:Nat)=false:=a;have z:¬o.letter (o.tZ s 0:Nat)=true:=by simp[y]
 refine a4 ?_;refine _c (s.get! 0) Ae (o.get?_eq s 0 h) ?_;refine a4 ?_;refine J_ (Vo _ w) ?_;rintro _ w ⟨rfl,rfl⟩;refine a4 ?_;refine N_ (λn=>?_) (λn=>?_)
 .refine a4 ?_;refine Z_ (λi m => ∃c:Nat,c<=s.size/\i 6 = .I c/\m=w)
   (λi _=>(s.size - intOf (i 6)).toNat) ⟨0,AY,by refine a4 ?_;rfl,rfl⟩ ?_
  rintro i w j ⟨c,G,d,rfl⟩;have b:=j 0 rfl;have a:=j 1 rfl;simp only[bR,Nat.reduceAdd,Nat.reduceEqDiff,reduceIte,kF,ox] at b a;clear j;refine cg (i_ b (i_ a d)) ?_;refine I_ (λn=>?_) (λn=>?_)
  .have k:c<s.size:=AY
   refine cg (i_ b (i_ a d)) ?_;refine _c (s.get! c) AY (o.get?_eq s c k) ?_;refine cg (i_ b (i_ a d)) ?_;refine J_ (Vo _ _) ?_;rintro _ w ⟨rfl,rfl⟩;refine cg (i_ b (i_ a d)) ?_;refine N_ (λp=>?_) (λp=>?_)
   .refine cg (i_ b (i_ a d)) ?_;refine Q_ AY ?_;refine cg (i_ b (i_ a d)) ?_;exact⟨⟨c+1,AY,rfl,trivial⟩,by simp[intOf];omega⟩
   .refine cg (i_ b (i_ a d)) ?_;refine Q_ AY ?_;refine cg (i_ b (i_ a d)) ?_;exact⟨⟨_,_,rfl,by rw[if_neg z];decide⟩,Ext.refl _⟩
  .refine cg (i_ b (i_ a d)) ?_;refine Q_ AY ?_;refine cg (i_ b (i_ a d)) ?_;exact⟨⟨_,_,rfl,by rw[if_neg z];decide⟩,Ext.refl _⟩
 refine a4 ?_;refine J_ (axX w) ?_;rintro _ L ⟨⟨M,rfl,N⟩,I⟩;refine a4 ?_;refine Z_ (λi m => ∃c:Nat,c<=25/\i 8 = .I c/\Ext L m)
  (λi _=>(25 - intOf (i 8)).toNat) ⟨0,AY,by refine a4 ?_;rfl,Ext.refl _⟩ ?_
 rintro i m j ⟨c,G,f,u⟩;have b:=j 0 rfl;have a:=j 1 rfl;have e:=j 7 rfl;simp only[bR,Nat.reduceAdd,Nat.reduceEqDiff,reduceIte,kF,ox] at b a e;clear j;refine cg (i_ b (i_ a (i_ e f))) ?_;refine I_ (λn=>?_) (λn=>?_)
 .have k:c<yn.length:=by simp[yn];omega
  have v:m.cell? (Addr.add ⟨M,0,none⟩ (c*1))=some (.string yn[c]):=by
   rw[AH2];exact N.ext u c _ (by rw[List.getElem?_map,List.getElem?_eq_getElem k];rfl)
  have O:yn[c].size<=2:=by
   have:∀B∈yn,B.size<=2:=Ae
   exact this _ (FA _)
  generalize yn[c]=B at v O;refine cg (i_ b (i_ a (i_ e f))) ?_;refine Q_ AY ?_;refine cg (i_ b (i_ a (i_ e f))) ?_;refine M_ c rfl AY ?_;refine cg (i_ b (i_ a (i_ e f))) ?_;refine L_ v ?_;refine cg (i_ b (i_ a (i_ e f))) ?_;refine I_ (λr=>?_) (λr=>?_)
  .refine cg (i_ b (i_ a (i_ e f))) ?_;refine M_ c rfl AY ?_;refine cg (i_ b (i_ a (i_ e f))) ?_;refine L_ v ?_;refine cg (i_ b (i_ a (i_ e f))) ?_;refine Q_ AY ?_;refine cg (i_ b (i_ a (i_ e f))) ?_;refine AB2 0 B.size (by simp[e6,dE,bR,a]) (by simp[e6,dE,bR,a]) AY ?_;refine cg (i_ b (i_ a (i_ e f))) ?_;refine M_ c rfl AY ?_;refine cg (i_ b (i_ a (i_ e f))) ?_;refine L_ v ?_;refine cg (i_ b (i_ a (i_ e f))) ?_;intro P x;refine I_ (λp=>?_) (λp=>?_)
   .refine cg (i_ b (i_ a (i_ e f))) ?_;refine M_ c rfl AY ?_;refine cg (i_ b (i_ a (i_ e f))) ?_;refine L_ (x.cell v) ?_;refine cg (i_ b (i_ a (i_ e f))) ?_;exact⟨⟨_,_,rfl,by rw[if_neg z];decide⟩,I.trans (u.trans x)⟩
   .refine cg (i_ b (i_ a (i_ e f))) ?_;refine Q_ AY ?_;refine cg (i_ b (i_ a (i_ e f))) ?_;exact⟨⟨c+1,AY,rfl,u.trans x⟩,by simp[intOf];omega⟩
  .refine cg (i_ b (i_ a (i_ e f))) ?_;intro P x;refine Q_ AY ?_;refine cg (i_ b (i_ a (i_ e f))) ?_;exact⟨⟨c+1,AY,rfl,u.trans x⟩,by simp[intOf];omega⟩
 .refine cg (i_ b (i_ a (i_ e f))) ?_;exact⟨⟨_,_,rfl,by rw[if_neg z];decide⟩,I.trans u⟩
def EE(s:ByteArray)(w:A_)(u:s.size<=9223372036854775807):EL F.MQ #[.string s] w λl m=>l = .bool (o.isName s)/\Ext w m:=by
 refine bn E.MQ ?_;refine a4 ?_;refine I_ (λd=>?_) (λd=>?_)
 .refine a4 ?_;refine⟨?_,Ext.refl w⟩;subst d;rfl
 have n:s.size≠0:=λp=>d (by
  cases s with | mk q =>
  have:q=#[]:=by simpa[ByteArray.size] using p
  rw[this])
 refine a4 ?_;refine I_ (λr=>?_) (λr=>?_)
 .refine a4 ?_;refine⟨?_,Ext.refl w⟩
  have:¬s.size<=16:=AY
  simp[o.isName,this]
 have j:s.size<=16:=AY
 refine a4 ?_;refine I_ (λe=>?_) (λe=>?_)
 .refine a4 ?_;exact⟨by subst e;exact congrArg Value.bool (by decide +kernel),Ext.refl w⟩
 refine a4 ?_;refine I_ (λf=>?_) (λf=>?_)
 .refine a4 ?_;exact⟨by subst f;exact congrArg Value.bool (by decide +kernel),Ext.refl w⟩
 refine a4 ?_;refine I_ (λg=>?_) (λg=>?_)
 .refine a4 ?_;exact⟨by subst g;exact congrArg Value.bool (by decide +kernel),Ext.refl w⟩
 refine a4 ?_;refine I_ (λh=>?_) (λh=>?_)
 .refine a4 ?_;exact⟨by subst h;exact congrArg Value.bool (by decide +kernel),Ext.refl w⟩
 have t:s∉o.sy:=by simp[o.sy,e,f,g,h]
 refine a4 ?_;refine J_ (akK s w AY j) ?_;rintro _ v ⟨⟨x,y,rfl,a⟩,k⟩;refine a4 ?_;refine I_ (λi=>?_) (λi=>?_)
 .refine a4 ?_;refine⟨?_,k⟩;have c:o.letter (o.tZ s 0:Nat)=true:=by
   by_cases b:o.letter (o.tZ s 0:Nat)=true
   .exact b
   .rw[if_neg b] at a;exact absurd i a
  rw[if_pos c] at a;congr 1;simp[o.isName,c,n,j,t,a.1];omega
 .refine a4 ?_;refine⟨?_,k⟩;have c:o.letter (o.tZ s 0:Nat)=false:=by
   by_cases b:o.letter (o.tZ s 0:Nat)=true
   .rw[if_pos b] at a;exact absurd a.2 i
   .simpa using b
  simp[o.isName,c]
end Go.Proofs.R