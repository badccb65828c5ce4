/- Parts. -/
import Derived.Test.YtlhljkikdhblbaaGreatDoorQsgd
import Derived.Test.YtlhljkikdhblbaaGreatDoorQsgf
set_option linter.all false
set_option maxRecDepth 100000
set_option maxHeartbeats 6400000
namespace o
open Go Go.RowKit a8
structure Scope.cS(s:Scope):Prop where
 scalars:eO s.scalars.length 24
 vars:eO s.vars.length 56
 ay:eO s.ay.length 56
 procs:eO s.procs.length 80
 locals:eO s.locals.length 56
 proc:∀a∈s.procs,a.cS
 self:eA s.self
def Model.cS.scope{m:Model}(h:m.cS):(fw m).cS:=⟨h.scalars,h.vars,h.ay,h.procs,by simp[fw,eO],h.proc,by simp[fw,eA]⟩
theorem Scope.cS.inner{s:Scope}{p:ee}(h:s.cS)(a:p.cS):(inner p s).cS:=⟨h.scalars,h.vars,h.ay,h.procs,a.vars,h.proc,a.over⟩
def Scope.cS.sQ{s:Scope}(h:s.cS):(s.vars.length<=1152921504606846976/\s.ay.length<=1152921504606846976/\s.procs.length<=1152921504606846976/\s.locals.length<=1152921504606846976/\eA s.self)/\s.scalars.length<=4611686018427387904:=by
 have a:=h.scalars;have b:=h.vars;have c:=h.ay;have d:=h.procs;have e:=h.locals;unfold eO at a b c d e;exact⟨⟨AW,AW,AW,AW,h.self⟩,AW⟩
end o
namespace Go.Proofs.R
open Go Go.RowKit a8 o
def Uw(v:B_)(xs:C_ o.Node)(w:A_)(h:fH w v xs)(c:eO xs.length 16) :
  EG F.aq #[v] w λa b=>(∃d e,a = .slice d xs.length e)/\ei w (λw=>fH w a xs) b/\Ext w b :=
 JH kB E.aq Cg (λh=>h) v xs w h (by unfold eO at c;omega)
def V3(v:B_)(xs:C_ o.Var)(w:A_)(h:jO w v xs)(c:eO xs.length 56) :
  EG F.ag #[v] w λa b=>(∃d e,a = .slice d xs.length e)/\ei w (λw=>jO w a xs) b/\Ext w b :=
 JH kB E.ag Cg (λh=>h) v xs w h (by unfold eO at c;omega)
def axp(v:B_)(xs:C_ o.Scalar)(w:A_)(h:hC w v xs)(c:eO xs.length 24) :
  EG F.ak #[v] w λa b=>(∃d e,a = .slice d xs.length e)/\ei w (λw=>hC w a xs) b/\Ext w b :=
 JH kB E.ak Cg (λh=>h) v xs w h (by unfold eO at c;omega)
def aln(v:B_)(xs:C_ ed)(w:A_)(h:ot w v xs)(c:eO xs.length 56) :
  EG F.aG #[v] w λa b=>(∃d e,a = .slice d xs.length e)/\ei w (λw=>ot w a xs) b/\Ext w b :=
 JH kB E.aG Cg (λh=>h) v xs w h (by unfold eO at c;omega)
abbrev ef:=H_ Addr×Nat×Nat
def alI(v:B_)(l:C_ et)(w:A_)(h:sX w v l)(aC:eO l.length 88)(aD:∀y∈l,y.cS) :
  EG F.zj #[v] w λk b=>(∃X y,k = .slice X l.length y)/\ei w (λw=>sX w k l) b/\Ext w b:=by
 obtain⟨bz,bg,rfl,aE⟩:=h.form;refine bm E.zj ?_;refine ad ?_;refine K_ 11 l.length [9,10] (λv:ef=>[(3,.slice v.1 v.2.1 v.2.2)]) (none,0,0) (λa v b=>Ext w b/\eo CC T.q 6 w.heap.size b (.slice v.1 v.2.1 v.2.2) (l.take a)) aV aV ⟨Ext.refl _,by simpa using eo.nil _ _ _ _ _⟩ ?_;rintro a v aF aG bA ⟨g,z⟩;refine ad ?_;apply I_<;>intro bB
 .have m:a<l.length:=AW
  have A:=aD l[a] (ID _);obtain⟨bC,rfl⟩:=h.addr;obtain⟨aH,bE,bF,bG,Y,B⟩:=h.at a m;obtain⟨_,_,rfl,_⟩:=Y.form;obtain⟨X,bH,rfl,aI⟩:=B.form;refine ad ?_;intro Z bI ab C ae;have af:=ca ae;refine ad ?_;refine J_ (Uw _ _ Z (Y.ext (g.trans C)) A.guard) ?_;rintro _ bJ ⟨⟨aJ,aK,rfl⟩,aM,G⟩;have bK:=G.obj ae;have aP:=C.trans G;refine ad ?_;intro n H ag;have I:=H.ext aP ab;have aQ:=g.trans I;have aS:=aM.wr H af;have aT:=ca ag;refine ad ?_;refine K_ 22 l[a].b6.length [3,5,9,10,11,20,21] (λv:ef=>[(6,.slice v.1 v.2.1 v.2.2)]) (none,0,0) (λc v b=>Ext n b/\eo E1 T.w 5 n.heap.size b (.slice v.1 v.2.1 v.2.2) (l[a].b6.take c)) aV aV ⟨Ext.refl _,by simpa using eo.nil _ _ _ _ _⟩ ?_;rintro c J aF aU bL ⟨e,K⟩;have bM:=e.obj ag;refine ad ?_;apply I_<;>intro bN
  .have p:c<l[a].b6.length:=AW
   have ah:=A.act l[a].b6[c] (ID _);obtain⟨bO,rfl⟩:=B.addr;obtain⟨bP,bR,bV,ai,aj⟩:=B.at c p;obtain⟨_,_,rfl,_⟩:=ai.form;obtain⟨_,_,rfl,_⟩:=aj.form;have aW:=aQ.trans e;refine ad ?_;intro aX bW ak L M;have aY:=aW.trans L;have bX:=ca M;refine ad ?_;intro al d;have q:=d.obj M;have an:=aY.trans d;refine ad ?_;refine J_ (Uw _ _ al (ai.ext an) ah.index) ?_;rintro _ a0 ⟨⟨a2,a5,rfl⟩,a6,f⟩;refine⟨f,?_⟩;have ao:=f.obj q;have a7:=an.trans f;refine ad ?_;refine J_ (Uw _ _ a0 (aj.ext a7) ah.value) ?_;rintro _ bY ⟨⟨a9,ba,rfl⟩,bb,r⟩;have bZ:=r.obj ao;have bf:=a6.ext r f.size;refine ad ?_;intro b0 s b1;refine ad ?_;intro b3 t b4;refine ad ?_;intro b5 b6 b8 N bk;have aq:=ca q;have ar:=ca ao;have b9:=f.size;have cb:=r.size;have cc:=s.size;have ch:=t.size;have bn:=((bf.wr s aq).wr t aq).ext N AW;have bo:=((bb.wr s ar).wr t ar).ext N AW;have bp:=((L.trans d).trans f).trans r;have au:=(t.ext (s.ext bp ak) ak).trans N;have br:=(L.trans d).size;have av:=e.trans au;have aw:=K.ext au;have i:=Vn p A.b6 aI;refine ad ?_;refine _A (x:=l[a].b6[c]) (cs:=l[a].b6[c].enc (.slice a2 l[a].b6[c].index.length a5) (.slice a9 l[a].b6[c].value.length ba)) aw (gP bk)
    (ei.own (((bn.low br).and (bo.low AW)).imp λw h=>⟨_,_,rfl,h.1,h.2⟩) K e.size) rfl (by simp[o.Act.enc,Value.oneCell']) i.1 i.2 av.size λk b j O=>?_
   obtain⟨P,Q,rfl,_⟩:=j.form;refine ad ?_;exact⟨p,aZ,(P,_,Q),aV,aw.hN av O (Fy _),j.snoc p⟩
  .have S:=K.done AW;have U:ei n (λw=>oq w (.slice J.1 J.2.1 J.2.2) l[a].b6) aU:=S.new;obtain⟨V,W,u,_⟩:=U.here.form;rw[u] at U;refine ad ?_;intro aX x M;refine ad ?_;intro al cj ck d q;have bt:Z.heap.size<=n.heap.size:=by have:=G.size;have:=H.size;omega
   have cm:=e.size;have cp:=x.size;have bu:=((aS.ext e bt).wr x af).ext d AW;have bw:=(U.wr x aT).ext d AW;have ax:=(x.ext (I.trans e) ab).trans d;have az:=g.trans ax;have aA:=z.ext ax;have bx:=C.size;have i:=Vn m aC aE;refine ad ?_;refine _A (x:=l[a]) (cs:=l[a].enc (.slice aJ l[a].guard.length aK) (.slice V l[a].b6.length W)) aA (by have:=gP q;rw[u] at this;exact this)
    (ei.own (((bu.low bx).and (bw.low I.size)).imp λw h=>⟨aH,_,_,rfl,h.1,h.2⟩) z g.size) rfl (by simp[et.enc,Value.oneCell']) i.1 i.2 az.size λk b j O=>?_
   obtain⟨P,Q,rfl,_⟩:=j.form;refine ad ?_;exact⟨m,aZ,(P,_,Q),aV,aA.hN az O (Fy _),j.snoc m⟩
 .refine ad ?_;have S:=z.done AW;have aB:ei w (λw=>sX w (.slice v.1 v.2.1 v.2.2) l) aG:=S.new;obtain⟨V,W,u,_⟩:=aB.here.form;exact⟨⟨V,W,u⟩,aB,g⟩
def aet(p:ee)(h i j k P l Q:H_ Addr)(n0 m q r S s U t bg bj u V v W:Nat)(n:Int)(w:A_) :
  EG F.Kd #[.agg (p.enc (.slice l s v) (.slice Q U W)).toArray,.agg #[.slice h n0 t,.slice i m bg,.slice j q bj,.slice k r u,.slice P S V,.I n]] w λX g =>
   X = .agg #[.slice h n0 t,.slice i m bg,.slice j q bj,.slice k r u,.slice l s v,.I p.over]/\Ext w g:=by
 refine bm E.Kd ?_;simp -dsimp only[cA];refine eC ?_;intro ag Y ah C x;refine eC ?_;intro ai d aj G H;refine eC ?_;intro B e ak I y;refine eC ?_;have Z:d≠Y:=by have:=ca x;omega
 have N:e≠d:=by have:=ca H;omega
 refine S_ [2,3,4] (λ_=>[]) (λ(_:Unit) g=>(Ext w g/\B.heap.size<=g.heap.size)/\g.heap[d]? = some (.cells #[.slice h n0 t,.slice i m bg,.slice j q bj,.slice k r u,.slice l s v,.I p.over] T.t)/\g.heap[e]? = B.heap[e]?) ?_ ?_
 .refine ad ?_;intro O f;have x:=((G.trans I).trans f).obj x;have H:=(I.trans f).obj H;have y:=f.obj y;have ab:=((C.trans G).trans I).trans f;have al:=C.size;have an:=f.size;have J:∀b a,dY d O b->dY d b a->a.heap[d]? = some (.cells #[.slice h n0 t,.slice i m bg,.slice j q bj,.slice k r u,.slice l s v,.I p.over] T.t) ->
    (Ext w a/\B.heap.size<=a.heap.size)/\a.heap[d]? = some (.cells #[.slice h n0 t,.slice i m bg,.slice j q bj,.slice k r u,.slice l s v,.I p.over] T.t)/\a.heap[e]? = B.heap[e]? := λb a K L ae=>by
   have:=K.size
   have:=L.size
   refine⟨⟨L.ext (K.ext ab AW) AW,AW⟩,ae,?_⟩;rw[L.block e N,K.block e N,y]
   symm
   assumption
  refine ad ?_;refine⟨?_,?_⟩
  .refine ad ?_;refine⟨?_,?_⟩
   .refine ad ?_;intro b c M;refine ad ?_;intro a z A;refine ad ?_;exact⟨(),trivial,J b a c z A⟩
   .refine ad ?_;intro b c M;have x:=c.obj x (Ne.symm Z);refine ad ?_;intro a z A;refine ad ?_;exact⟨(),trivial,J b a c z A⟩
  .refine ad ?_;intro b c M;refine ad ?_;intro a z A;refine ad ?_;exact⟨(),trivial,J b a c z A⟩
 rintro _ ao O ⟨⟨f,aq⟩,ar,af⟩;rw[y] at af;have au:=ca y;refine ad ?_;intro b c M;refine ad ?_;exact⟨aZ,c.ext f (by have:=C.size;have:=G.size;omega)⟩
def alM(cs:C_ B_)(s:o.Scope)(w:A_)(h:gn w cs s)(g:s.cS) :
  EG F.Kf #[.agg cs.toArray] w λb i=>(∃Q,b = .agg Q.toArray/\ei w (λw=>gn w Q s) i)/\Ext w i:=by
 have S:=g.sQ;obtain⟨bL,bM,bN,bg,bO,bj,bP,bR,bV,bW,rfl,ax,az,aA,U,aB,_,bX,bY,aC,bZ⟩:=h.form;refine bm E.Kf ?_;refine ad ?_;intro b0 aD l V j;refine ad ?_;intro b1 aE b3 W a;have m:aE≠aD:=by have:=ca j;omega
 refine ad ?_;intro B C;have n:=(V.trans W).trans C;have j:=(W.trans C).obj j;have a:=C.obj a;have p:=ca j;have X:=ca a;refine ad ?_;refine J_ (axp _ _ B (ax.ext n) g.scalars) ?_;rintro _ aF ⟨⟨aG,aH,rfl⟩,aI,c⟩;refine⟨c,?_⟩;refine ad ?_;refine J_ (V3 _ _ aF (az.ext (n.trans c)) g.vars) ?_;rintro _ aJ ⟨⟨aK,aM,rfl⟩,aP,d⟩;refine⟨c.trans d,?_⟩;refine ad ?_;refine J_ (aln _ _ aJ (aA.ext ((n.trans c).trans d)) g.ay) ?_;rintro _ aQ ⟨⟨aS,aT,rfl⟩,aU,k⟩;have j:=((c.trans d).trans k).obj j;have a:=((c.trans d).trans k).obj a;have aW:=((n.trans c).trans d).trans k;have aX:=(aI.ext (d.trans k) c.size).and (((aP.ext k d.size).low c.size).and (aU.low (c.trans d).size));refine ad ?_;intro b4 t b5;refine ad ?_;intro b6 u b8;refine ad ?_;intro Y v Z;have ab:=v.ext (u.ext (t.ext aW l) l) l;have aY:=((aX.wr t p).wr u p).wr v p;have b9:=((c.trans d).trans k).size;have cb:Y.heap.size=aQ.heap.size:=by rw[v.size,u.size,t.size]
 have a:=v.obj (u.obj (t.obj a m) m) m;refine ad ?_;refine J_ (V3 _ _ Y (aB.ext ab) g.locals) ?_;rintro _ cc ⟨⟨a0,a2,rfl⟩,a5,q⟩;have ch:=q.obj Z;have a:=q.obj a;refine ad ?_;intro G r ae;have a:=r.obj a m;have af:=r.ext (ab.trans q) l;have cj:=q.size;have ck:=r.size;have a6:=((aY.ext q AW).wr r p).and ((a5.wr r (ca Z)).low (w0:=B) AW);have a7:=ca ae;refine ad ?_;refine K_ 25 s.procs.length [1,2,23,24] (λb:ef=>[(3,.slice b.1 b.2.1 b.2.2)]) (none,0,0) (λe b i=>Ext G i/\eo yN T.af 5 G.heap.size i (.slice b.1 b.2.1 b.2.2) (s.procs.take e)) aV aV ⟨Ext.refl _,by simpa using eo.nil _ _ _ _ _⟩ ?_;rintro e b cm a9 cp ⟨f,H⟩;have cq:=f.obj ae;refine ad ?_;apply I_<;>intro cr
 .have x:e<s.procs.length:=AW
  have I:=g.proc s.procs[e] (ID _);obtain⟨ct,rfl⟩:=U.addr;obtain⟨ba,cu,dI,cv,ag,ah⟩:=U.at e x;obtain⟨_,_,rfl,_⟩:=ag.form;obtain⟨_,_,rfl,_⟩:=ah.form;have ai:=af.trans f;refine ad ?_;intro bb cw aj J ak;have bf:=ai.trans J;refine ad ?_;refine J_ (V3 _ _ bb (ag.ext bf) I.vars) ?_;rintro _ cx ⟨⟨bk,bn,rfl⟩,bo,K⟩;have cB:=K.obj ak;refine ad ?_;intro bp L al;have M:=L.ext (J.trans K) aj;have br:=ai.trans M;refine ad ?_;refine J_ (alI _ _ bp (ah.ext br) I.cL I.cmd) ?_;rintro _ cC ⟨⟨bt,bu,rfl⟩,bw,y⟩;have cD:=y.obj al;refine ad ?_;intro cF z cI;have bx:=z.ext (M.trans y) aj;refine ad ?_;intro cJ cL cM N bz;have an:=bx.trans N;have ao:=ca ak;have cN:=K.size;have cO:=L.size;have cP:=y.size;have cQ:=z.size;have bA:=(((bo.wr L ao).ext y AW).wr z ao).ext N AW;have bB:=(bw.wr z (ca al)).ext N AW;have aq:=H.ext an;have ar:=Vn x g.procs aC;have au:=f.trans an;refine ad ?_;refine _A (x:=s.procs[e]) (cs:=s.procs[e].enc (.slice bk s.procs[e].vars.length bn) (.slice bt s.procs[e].cL.length bu)) aq (gP bz)
   (ei.own (((bA.low J.size).and (bB.low M.size)).imp λw h=>⟨ba,_,_,rfl,h.1,h.2⟩) H f.size) rfl (by simp[ee.enc,Value.oneCell']) ar.1 ar.2 au.size λcS i av bC=>?_
  obtain⟨bE,bF,rfl,_⟩:=av.form;refine ad ?_;exact⟨x,aZ,(bE,_,bF),aV,aq.hN au bC (Fy _),av.snoc x⟩
 .have bG:=H.done AW;have O:ei G (λw=>r4 w (.slice b.1 b.2.1 b.2.2) s.procs) a9:=bG.new;obtain⟨bH,bI,aw,_⟩:=O.here.form;rw[aw] at O;have a:=f.obj a;refine ad ?_;intro cT A cU;have a:=A.obj a m;refine ad ?_;intro cW P cX;have cY:=f.size;have bJ:=(((a6.ext f AW).wr A p).wr P X).and (((O.wr A a7).wr P (AI8 X AW)).low (w0:=B) AW);have cZ:=V.size;have bK:=P.ext (A.ext (af.trans f) l) AW;refine ad ?_;refine⟨⟨[.slice aG s.scalars.length aH,.slice aK s.vars.length aM,.slice aS s.ay.length aT,.slice bH s.procs.length bI,.slice a0 s.locals.length a2,.I s.self],?_,
   (bJ.low n.size).imp λw h=>⟨S.1,_,_,_,_,_,rfl,h.1.1.1,h.1.1.2.1,h.1.1.2.2,h.2,h.1.2,S.2⟩⟩,bK⟩
  rw[aw]
  first | trivial | rfl
end Go.Proofs.R
namespace o
open Go Go.RowKit a8
def eu.form{w:A_}{cs:C_ B_}{m:Model}(h:eu w cs m):∃a b c bg d bj e f g i,cs=[.slice a m.scalars.length b,.slice c m.vars.length bg,.slice d m.ay.length bj,.slice e m.procs.length f,.slice g m.props.length i] /\
  hC w (.slice a m.scalars.length b) m.scalars/\jO w (.slice c m.vars.length bg) m.vars/\ot w (.slice d m.ay.length bj) m.ay/\r4 w (.slice e m.procs.length f) m.procs/\CM w (.slice g m.props.length i) m.props /\
  m.scalars.length<=9223372036854775807/\m.vars.length<=9223372036854775807/\m.ay.length<=9223372036854775807/\m.procs.length<=9223372036854775807/\m.props.length<=9223372036854775807:=by
 obtain⟨v,x,y,z,A,rfl,j,k,l,n,p⟩:=h.ex;obtain⟨a,b,rfl,q⟩:=j.form;obtain⟨c,bg,rfl,r⟩:=k.form;obtain⟨d,bj,rfl,s⟩:=l.form;obtain⟨e,f,rfl,t⟩:=n.form;obtain⟨g,i,rfl,u⟩:=p.form;exact⟨a,b,c,bg,d,bj,e,f,g,i,rfl,j,k,l,n,p,q,r,s,t,u⟩
def agh{m:Model}{k:Nat}(h:k<m.procs.length):h0 m (k:Int)=inner m.procs[k] (fw m):=by
 unfold h0;rw[ir AW AW];simp
def Ob{m:Model}{i:Int}(h:i<0\/(m.procs.length:Int)<=i):h0 m i=fw m:=by
 unfold h0;rw[hz h]
theorem Model.cS.h0{m:Model}(h:m.cS)(i:Int):(h0 m i).cS:=by
 unfold o.h0;cases a:nth m.procs i with
 | none=>exact h.scope
 | some c =>
  refine h.scope.inner (h.proc c ?_);unfold nth at a;by_cases b:0<=i
  .rw[if_pos b] at a;exact List.mem_of_getElem? a
  .rw[if_neg b] at a;cases a
end o
namespace Go.Proofs.R
open Go Go.RowKit a8
def ahw(cs:C_ B_)(m:o.Model)(i:Int)(w:A_)(h:o.eu w cs m)(g:m.cS) :
  EG F.em #[.agg cs.toArray,.I i] w λM a=>(∃n,M = .agg n.toArray/\ei w (λw=>o.gn w n (o.h0 m i)) a)/\Ext w a:=by
 obtain⟨N,O,P,bg,Q,bj,S,U,ah,ai,rfl,z,A,B,j,aj,ak,al,an,ao,aq⟩:=h.form;have p:=g.scope.sQ;refine bm E.em ?_;simp -dsimp only[cA];refine eC ?_;intro ar au av q aw;refine eC ?_;intro V ax az C k;simp -dsimp only[cA];refine eC ?_;intro W X Y l r;refine eC ?_;have e:∀{a:A_},Ext W a->Ext w a:=λb=>((q.trans C).trans l).trans b;have G:∀a,Ext w a->o.gn a [.slice N m.scalars.length O,.slice P m.vars.length bg,.slice Q m.ay.length bj,.slice S m.procs.length U,.slice none 0 0,.I 0] (o.fw m):=λa b =>
  ⟨p.1,_,_,_,_,_,rfl,z.ext b,A.ext b,B.ext b,j.ext b,a4.nil,p.2⟩
 refine S_ [2,4,5] (λ_=>[]) (λ(s:C_ B_) a=>Ext w a/\Ext V a/\a.heap[X]? = some (.cells s.toArray T.t)/\o.gn a s (o.h0 m i)) ?_ ?_
 .refine ad ?_;apply I_<;>intro aA;rotate_left
  .refine ad ?_;exact⟨_,trivial,e (Ext.refl _),l,r,by rw[o.Ob (.inl AW)];exact G _ (e (Ext.refl _))⟩
  refine ad ?_;apply I_<;>intro aB;rotate_left
  .refine ad ?_;exact⟨_,trivial,e (Ext.refl _),l,r,by rw[o.Ob (.inr AW)];exact G _ (e (Ext.refl _))⟩
  obtain⟨t,rfl⟩:=T7 (show 0<=i by omega);have u:t<m.procs.length:=AW
  obtain⟨aC,rfl⟩:=j.addr;obtain⟨aD,aE,dI,aF,H,Z⟩:=j.at t u;obtain⟨aG,aH,rfl,_⟩:=H.form;obtain⟨_,_,rfl,_⟩:=Z.form;refine ad ?_;intro v x;have y:=x.obj r;refine ad ?_;refine J_ (aet m.procs[t] _ _ _ _ _ _ _ _ _ _ _ _ _ _ _ _ _ _ _ _ _ _ v) ?_;rintro _ ab ⟨rfl,c⟩;have ae:=c.obj y;refine ad ?_;intro af f I;refine ad ?_;have d:=f.ext (e (x.trans c)) (by have:=q.size;have:=C.size;omega);exact⟨_,trivial,d,f.ext ((l.trans x).trans c) Y,I,by
   rw[o.agh u];exact⟨(g.scope.inner (g.proc _ (ID u))).sQ.1,_,_,_,_,_,rfl,z.ext d,A.ext d,B.ext d,j.ext d,H.ext d,p.2⟩⟩
 rintro s aI v ⟨J,ag,y,K⟩;have k:=ag.obj k;refine ad ?_;refine Y_ (gP y) ?_ ?_
 .obtain⟨_,_,_,_,_,rfl,_⟩:=K.ex;rfl
 refine ad ?_;refine J_ (alM _ _ v K (g.h0 i)) ?_;rintro _ ab ⟨⟨n,rfl,L⟩,c⟩;have ae:=c.obj k;obtain⟨aJ,aK,aM,aP,aQ,aS,aT,aU,aW,aX,rfl,_⟩:=L.here.form;refine ad ?_;intro af f I;refine ad ?_
 have:=ca k
 exact⟨⟨_,rfl,(L.wr f this).low J.size⟩,f.ext (J.trans c) (by have:=q.size;omega)⟩
def aww{w0:A_}(cs:C_ B_)(m:o.Model)(i:Int)(w:A_)(h:o.eu w0 cs m)(V:Ext w0 w)(f:m.cS) :
  EG F.M8 #[.agg cs.toArray,.I i] w λB b=>(∃p,B = .agg p.toArray/\∀c,Ext w0 c->o.gn c p (o.h0 m i))/\Ext w b:=by
 obtain⟨C,G,H,bg,I,bj,J,K,W,X,rfl,q,r,s,d,Y,Z,ab,ae,af,ag⟩:=h.form;have g:=f.scope.sQ;refine bm E.M8 ?_;refine ad ?_;intro ah ai aj e ak;refine ad ?_;intro L al an M t;have j:∀{b:A_},Ext L b->Ext w b:=λa=>(e.trans M).trans a;have u:∀{b:A_},i<0\/(m.procs.length:Int)<=i->Ext w0 b->o.gn b [.slice C m.scalars.length G,.slice H m.vars.length bg,.slice I m.ay.length bj,.slice J m.procs.length K,.slice none 0 0,.I 0] (o.h0 m i):=λ{b} N a=>by
  rw[o.Ob N];exact⟨g.1,_,_,_,_,_,rfl,q.ext a,r.ext a,s.ext a,d.ext a,a4.nil,g.2⟩
 refine ad ?_;apply I_<;>intro O
 .refine ad ?_;intro v k x;have l:=k.ext (j (Ext.refl _)) (by have:=e.size;omega);refine ad ?_;exact⟨⟨_,rfl,λc a=>u (.inl O) a⟩,l⟩
 refine ad ?_;apply I_<;>intro P
 .refine ad ?_;intro v k x;have l:=k.ext (j (Ext.refl _)) (by have:=e.size;omega);refine ad ?_;exact⟨⟨_,rfl,λc a=>u (.inr P) a⟩,l⟩
 obtain⟨y,rfl⟩:=T7 (show 0<=i by omega);have n:y<m.procs.length:=AW
 obtain⟨ao,rfl⟩:=d.addr;obtain⟨aq,ar,dI,au,z,Q⟩:=d.at y n;obtain⟨av,aw,rfl,_⟩:=z.form;obtain⟨_,_,rfl,_⟩:=Q.form;refine ad ?_;intro v ax az A x;have t:=A.obj t;refine ad ?_;intro aA S aB;have U:=S.ext (j A) (by have:=e.size;omega);refine ad ?_;exact⟨⟨_,rfl,λc a=>by
  rw[o.agh n];exact⟨(f.scope.inner (f.proc _ (ID n))).sQ.1,_,_,_,_,_,rfl,q.ext a,r.ext a,s.ext a,d.ext a,z.ext a,g.2⟩⟩,U⟩
abbrev mQ:=H_ Addr×Nat×Nat
def OA(x:mQ):B_:=.slice x.1 x.2.1 x.2.2
def F4(x:ByteArray):C_ B_:=[.string x]
def ams(y:ByteArray):∀a∈F4 y,a.oneCell'=true:=by
 intro a b;simp only[F4,List.mem_cons,List.not_mem_nil,or_false] at b;subst b;rfl
abbrev CL(base:Nat)(w:A_)(v:mQ)(a:C_ ByteArray):Prop:=aR F4 T.m 1 base w (OA v) a
structure ai7(m:o.Model):Prop where
 s:m.scalars.length<=20
 v:m.vars.length<=20
 c:m.ay.length<=20
 p:m.procs.length<=20
 q:m.props.length<=20
 i:∀(j:Nat) (h:j<m.procs.length),m.procs[j].vars.length<=20/\m.procs[j].cL.length<=20
structure k2(w w':World)(bf:Nat)(cs:List Value)(v:mQ)(cq:List ByteArray):Prop where
 ext:Ext w w'
 I:w'.heap[bf]? = some (.cells cs.toArray T.h)
 own:CL w.heap.size w' v cq
theorem k2.then{w w' b:A_}{c:Nat}{cs:C_ B_}{v:mQ}{d:C_ ByteArray}(h:k2 w w' c cs v d)(a:Ext w' b):k2 w b c cs v d:=⟨h.ext.trans a,a.obj h.I,h.own.ext a⟩
def k2.grown{w w' b:A_}{c:Nat}{cs:C_ B_}{v e:mQ}{i f:C_ ByteArray}(h:k2 w w' c cs v i)(g:w'.grownBy b (OA v).ownBlock)(j:CL w.heap.size b e f):k2 w b c cs e f:=by
 refine⟨Ext.grown h.ext g λk l=>(h.own.lt k l).1,?_,j⟩;rw[g.block c (ca h.I) λa=>?_]
 .exact h.I
 rcases h.own.2 with ⟨d,_⟩ | ⟨n,cap,bj,d,_,m,_⟩
 .rw[d] at a;cases a
 .rw[d] at a;simp only[Value.ownBlock,Option.some.injEq] at a;subst a
  have:=h.I.symm.trans m
  injection this with this
  injection this with _ this
  revert this;decide
def k2.j2{w w':A_}{a:Nat}{cs:C_ B_}{v:mQ}{b c:C_ ByteArray}(h:k2 w w' a cs v b)(e:b=c):k2 w w' a cs v c:=e ▸ h
theorem wE{α β:Type}(f:α->β)(pre:C_ β)(l:C_ α)(k:Nat)(h:k<l.length):pre++(l.take k).map f++[f l[k]]=pre++(l.take (k+1)).map f:=by
 rw[NZ h,AF8,<-VA];rfl
abbrev avo(p:o.ee):C_ ByteArray:=p.name :: (p.vars.map (·.name)++p.cL.map (·.name))
theorem N8{m:o.Model}(b:ai7 m)(k:Nat)(h:k<=m.procs.length):((m.procs.take k).flatMap avo).length<=41*k:=by
 induction k with
 | zero=>simp
 | succ k c =>
  have a:k<m.procs.length:=AW
  rw[NZ a,AJ6,Jv]
  have:=c AW
  have d:=(b.i k a).1;have e:=(b.i k a).2;simp only[List.flatMap_cons,List.flatMap_nil,List.append_nil,List.length_cons,List.length_append,List.length_map];omega
end Go.Proofs.R
namespace o
def c0(q p i:Int)(len:Nat):Nat:=if q<p then (if q+1<p then len else min len i.toNat) else 0
def iJ(p i:Int)(len:Nat):Nat:=if 4<p then min len i.toNat else 0
def wV(m:Model)(p i:Int):C_ ByteArray :=
 m.scalars.map (·.name)++(m.vars.take (c0 1 p i m.vars.length)).map (·.name)++(m.ay.take (c0 2 p i m.ay.length)).map (·.name)++(m.procs.take (c0 3 p i m.procs.length)).map (·.name)++(m.props.take (iJ p i m.props.length)).map (·.name)
end o
namespace Go.Proofs.R
open Go Go.RowKit a8
def Fz{P:D_}{v:mQ}{a:C_ ByteArray}{x:ByteArray}{b c base:Nat}{w:A_}{f:B_->A_->Prop}{i:F_}{t}(h:CL base w v a)(j:w.heap[b]? = some (.cells #[.string x] T.m))(s:a.length+1<=8796093022208)(k:base<=w.heap.size)
  (l:∀(d:mQ) e,CL base e d (a++[x])->w.grownBy e (OA v).ownBlock->f (.slice d.1 d.2.1 d.2.2) e):lQ P i T.m 1 16 (.slice v.1 v.2.1 v.2.2) (.slice (some ⟨b,0,none⟩) 1 c) w f t:=by
 have m:(a.length+1)*16<=140737488355328:=AW
 have n:a.length+1<=maxLen:=by unfold maxLen;omega
 refine _m (b:=16) (s:=OA v) (ys:=[x]) h (λ_=>rfl) (gP j) rfl ams m n k λd e g p=>?_;obtain⟨q,r,rfl,_⟩:=g.form;exact l (q,_,r) e g p
def Fw(cs:C_ B_)(m:o.Model)(p i:Int)(w:A_)(h:o.eu w cs m)(aQ:2<=p)(aS:0<=i)(aT:m.scalars.length+o.c0 1 p i m.vars.length+o.c0 2 p i m.ay.length+o.c0 3 p i m.procs.length+o.iJ p i m.props.length<=8000000000000) :
  EG F.Nf #[.agg cs.toArray,.I p,.I i] w λaq d=>(∃a:mQ,aq = .slice a.1 a.2.1 a.2.2/\CL w.heap.size d a (o.wV m p i))/\Ext w d:=by
 obtain⟨ar,au,av,bg,aw,bj,ax,az,aA,aB,rfl,ag,ah,ai,aj,ak,aU,aW,aX,aY,a0⟩:=h.form;refine bm E.Nf ?_;simp -dsimp only[cA];refine eC ?_;intro aC k a2 aD al;have P:k2 w aC k _ (none,0,0) []:=⟨aD,al,aR.nil _ _ _ _ _⟩;obtain⟨q,l⟩:∃t:C_ B_,t=[.slice ar m.scalars.length au,.slice av m.vars.length bg,.slice aw m.ay.length bj,.slice ax m.procs.length az,.slice aA m.props.length aB]:=⟨_,rfl⟩;rw[<-l] at P;clear al;refine eC ?_;simp -dsimp only[cA];refine eC ?_;refine S_ [1,2,3] (λa:mQ=>[(7,.slice a.1 a.2.1 a.2.2)]) (λa d=>k2 w d k q a (([]:C_ ByteArray)++(m.scalars.map (·.name)))) ?_ ?_
 .have f:m.scalars.length<=m.scalars.length:=by exact Fy _
  have u:=P.ext;have v:=l ▸ P.I;refine ad ?_;refine K_ 8 (m.scalars.length) [1,2,3] (λa:mQ=>[(7,.slice a.1 a.2.1 a.2.2)]) ((none,0,0):mQ) (λc a d=>k2 w d k q a (([]:C_ ByteArray)++(m.scalars.take c).map (·.name))) aV aV (P.j2 Ah) ?_;clear u v;rintro c g S r b e;have x:=e.ext;have U:=l ▸ e.I;have n:c=m.scalars.length->k2 w r k q g (([]:C_ ByteArray)++(m.scalars.map (·.name))):=λy=>e.j2 (by rw[y];simp);refine S_ [1,2,3,7,8] (λ_:Unit=>[]) (λ_ d=>d=r/\c<m.scalars.length) ?_ ?_
  .refine ad ?_;apply I_<;>intro V
   .refine ad ?_;exact⟨(),trivial,aZ,AW⟩
   .refine ad ?_;exact⟨g,aV,n AW⟩
  rintro _ Q _ ⟨rfl,z⟩;have s:c<m.scalars.length:=AW
  obtain⟨W,rfl⟩:=ag.addr;have K:=((ag.at c s).cells).ext x;refine ad ?_;intro X Y Z A B;have j:=e.then A;have C:=j.ext.size;refine ad ?_;refine Fz j.own B (by simp only[List.length_append,List.length_map,List.length_nil,List.length_cons,List.length_take];omega) C λG ab H I=>?_;have J:=(j.grown I H).j2 (wE (λt:o.Scalar=>t.name) _ _ _ s);refine ad ?_;exact⟨z,aZ,G,aV,J⟩
 clear P;rintro aE a5 a6 L;have a7:=L.ext;have a9:=l ▸ L.I;refine S_ [1,2,3] (λa:mQ=>[(7,.slice a.1 a.2.1 a.2.2)]) (λa d=>k2 w d k q a (([]++(m.scalars.map (·.name)))++((m.vars.take (o.c0 1 p i m.vars.length)).map (·.name)))) ?_ ?_
 .have f:o.c0 1 p i m.vars.length<=m.vars.length:=by unfold o.c0; (repeat' split)<;>omega
  have u:=L.ext;have v:=l ▸ L.I;refine ad ?_;refine K_ 9 (o.c0 1 p i m.vars.length) [1,2,3] (λa:mQ=>[(7,.slice a.1 a.2.1 a.2.2)]) aE (λc a d=>k2 w d k q a (([]++(m.scalars.map (·.name)))++(m.vars.take c).map (·.name))) aV aV (L.j2 Ah) ?_;clear u v;rintro c g S r b e;have x:=e.ext;have U:=l ▸ e.I;have n:c=o.c0 1 p i m.vars.length->k2 w r k q g (([]++(m.scalars.map (·.name)))++((m.vars.take (o.c0 1 p i m.vars.length)).map (·.name))):=λy=>e.j2 (by rw[y]);refine S_ [1,2,3,7,9] (λ_:Unit=>[]) (λ_ d=>d=r/\c<o.c0 1 p i m.vars.length) ?_ ?_
  .refine ad ?_;apply I_<;>intro V
   .refine ad ?_;apply I_<;>intro an
    .refine ad ?_;exact⟨(),trivial,aZ,by unfold o.c0 at f b ⊢; (repeat' split at b) <;> (repeat' split)<;>omega⟩
    .refine ad ?_;apply I_<;>intro ae
     .refine ad ?_;exact⟨(),trivial,aZ,by unfold o.c0 at f b ⊢; (repeat' split at b) <;> (repeat' split)<;>omega⟩
     .refine ad ?_;exact⟨g,aV,n (by unfold o.c0 at f b ⊢; (repeat' split at b) <;> (repeat' split)<;>omega)⟩
   .refine ad ?_;exact⟨g,aV,n (by unfold o.c0 at f b ⊢; (repeat' split at b) <;> (repeat' split)<;>omega)⟩
  rintro _ Q _ ⟨rfl,z⟩;have s:c<m.vars.length:=AW
  obtain⟨W,rfl⟩:=ah.addr;have K:=((ah.at c s).cells).ext x;refine ad ?_;intro X Y Z A B;have j:=e.then A;have C:=j.ext.size;refine ad ?_;refine Fz j.own B (by simp only[List.length_append,List.length_map,List.length_nil,List.length_cons,List.length_take];omega) C λG ab H I=>?_;have J:=(j.grown I H).j2 (wE (λt:o.Var=>t.name) _ _ _ s);refine ad ?_;exact⟨z,aZ,G,aV,J⟩
 clear L;rintro aF Q ba M;have bb:=M.ext;have bf:=l ▸ M.I;refine S_ [1,2,3] (λa:mQ=>[(7,.slice a.1 a.2.1 a.2.2)]) (λa d=>k2 w d k q a ((([]++(m.scalars.map (·.name)))++((m.vars.take (o.c0 1 p i m.vars.length)).map (·.name)))++((m.ay.take (o.c0 2 p i m.ay.length)).map (·.name)))) ?_ ?_
 .have f:o.c0 2 p i m.ay.length<=m.ay.length:=by unfold o.c0; (repeat' split)<;>omega
  have u:=M.ext;have v:=l ▸ M.I;refine ad ?_;refine K_ 10 (o.c0 2 p i m.ay.length) [1,2,3] (λa:mQ=>[(7,.slice a.1 a.2.1 a.2.2)]) aF (λc a d=>k2 w d k q a ((([]++(m.scalars.map (·.name)))++((m.vars.take (o.c0 1 p i m.vars.length)).map (·.name)))++(m.ay.take c).map (·.name))) aV aV (M.j2 Ah) ?_;clear u v;rintro c g S r b e;have x:=e.ext;have U:=l ▸ e.I;have n:c=o.c0 2 p i m.ay.length->k2 w r k q g ((([]++(m.scalars.map (·.name)))++((m.vars.take (o.c0 1 p i m.vars.length)).map (·.name)))++((m.ay.take (o.c0 2 p i m.ay.length)).map (·.name))):=λy=>e.j2 (by rw[y]);refine S_ [1,2,3,7,10] (λ_:Unit=>[]) (λ_ d=>d=r/\c<o.c0 2 p i m.ay.length) ?_ ?_
  .refine ad ?_;apply I_<;>intro V
   .refine ad ?_;apply I_<;>intro ao
    .refine ad ?_;apply I_<;>intro an
     .refine ad ?_;exact⟨(),trivial,aZ,by unfold o.c0 at f b ⊢; (repeat' split at b) <;> (repeat' split)<;>omega⟩
     .refine ad ?_;apply I_<;>intro ae
      .refine ad ?_;exact⟨(),trivial,aZ,by unfold o.c0 at f b ⊢; (repeat' split at b) <;> (repeat' split)<;>omega⟩
      .refine ad ?_;exact⟨g,aV,n (by unfold o.c0 at f b ⊢; (repeat' split at b) <;> (repeat' split)<;>omega)⟩
    .refine ad ?_;exact⟨g,aV,n (by unfold o.c0 at f b ⊢; (repeat' split at b) <;> (repeat' split)<;>omega)⟩
   .refine ad ?_;exact⟨g,aV,n (by unfold o.c0 at f b ⊢; (repeat' split at b) <;> (repeat' split)<;>omega)⟩
  rintro _ Q _ ⟨rfl,z⟩;have s:c<m.ay.length:=AW
  obtain⟨W,rfl⟩:=ai.addr;have K:=((ai.at c s).cells).ext x;refine ad ?_;intro X Y Z A B;have j:=e.then A;have C:=j.ext.size;refine ad ?_;refine Fz j.own B (by simp only[List.length_append,List.length_map,List.length_nil,List.length_cons,List.length_take];omega) C λG ab H I=>?_;have J:=(j.grown I H).j2 (wE (λt:o.ed=>t.name) _ _ _ s);refine ad ?_;exact⟨z,aZ,G,aV,J⟩
 clear M;rintro aG bk bn N;have bo:=N.ext;have bp:=l ▸ N.I;refine S_ [1,2,3] (λa:mQ=>[(7,.slice a.1 a.2.1 a.2.2)]) (λa d=>k2 w d k q a (((([]++(m.scalars.map (·.name)))++((m.vars.take (o.c0 1 p i m.vars.length)).map (·.name)))++((m.ay.take (o.c0 2 p i m.ay.length)).map (·.name)))++((m.procs.take (o.c0 3 p i m.procs.length)).map (·.name)))) ?_ ?_
 .have f:o.c0 3 p i m.procs.length<=m.procs.length:=by unfold o.c0; (repeat' split)<;>omega
  have u:=N.ext;have v:=l ▸ N.I;refine ad ?_;refine K_ 11 (o.c0 3 p i m.procs.length) [1,2,3] (λa:mQ=>[(7,.slice a.1 a.2.1 a.2.2)]) aG (λc a d=>k2 w d k q a (((([]++(m.scalars.map (·.name)))++((m.vars.take (o.c0 1 p i m.vars.length)).map (·.name)))++((m.ay.take (o.c0 2 p i m.ay.length)).map (·.name)))++(m.procs.take c).map (·.name))) aV aV (N.j2 Ah) ?_;clear u v;rintro c g S r b e;have x:=e.ext;have U:=l ▸ e.I;have n:c=o.c0 3 p i m.procs.length->k2 w r k q g (((([]++(m.scalars.map (·.name)))++((m.vars.take (o.c0 1 p i m.vars.length)).map (·.name)))++((m.ay.take (o.c0 2 p i m.ay.length)).map (·.name)))++((m.procs.take (o.c0 3 p i m.procs.length)).map (·.name))):=λy=>e.j2 (by rw[y]);refine S_ [1,2,3,7,11] (λ_:Unit=>[]) (λ_ d=>d=r/\c<o.c0 3 p i m.procs.length) ?_ ?_
  .refine ad ?_;apply I_<;>intro V
   .refine ad ?_;apply I_<;>intro ao
    .refine ad ?_;apply I_<;>intro an
     .refine ad ?_;exact⟨(),trivial,aZ,by unfold o.c0 at f b ⊢; (repeat' split at b) <;> (repeat' split)<;>omega⟩
     .refine ad ?_;apply I_<;>intro ae
      .refine ad ?_;exact⟨(),trivial,aZ,by unfold o.c0 at f b ⊢; (repeat' split at b) <;> (repeat' split)<;>omega⟩
      .refine ad ?_;exact⟨g,aV,n (by unfold o.c0 at f b ⊢; (repeat' split at b) <;> (repeat' split)<;>omega)⟩
    .refine ad ?_;exact⟨g,aV,n (by unfold o.c0 at f b ⊢; (repeat' split at b) <;> (repeat' split)<;>omega)⟩
   .refine ad ?_;exact⟨g,aV,n (by unfold o.c0 at f b ⊢; (repeat' split at b) <;> (repeat' split)<;>omega)⟩
  rintro _ Q _ ⟨rfl,z⟩;have s:c<m.procs.length:=AW
  obtain⟨W,rfl⟩:=aj.addr;obtain⟨_,br,dI,K,aH,aI⟩:=aj.at c s;obtain⟨bt,bu,rfl,bw⟩:=aH.form;obtain⟨bx,bz,rfl,bA⟩:=aI.form;replace K:=K.ext x;refine ad ?_;intro X Y Z A B;have j:=e.then A;have C:=j.ext.size;refine ad ?_;refine Fz j.own B (by simp only[List.length_append,List.length_map,List.length_nil,List.length_cons,List.length_take];omega) C λG ab H I=>?_;have J:=(j.grown I H).j2 (wE (λt:o.ee=>t.name) _ _ _ s);refine ad ?_;exact⟨z,aZ,G,aV,J⟩
 clear N;rintro aJ bB bC O;have bE:=O.ext;have bF:=l ▸ O.I;refine S_ [1,2,3] (λa:mQ=>[(7,.slice a.1 a.2.1 a.2.2)]) (λa d=>k2 w d k q a ((((([]++(m.scalars.map (·.name)))++((m.vars.take (o.c0 1 p i m.vars.length)).map (·.name)))++((m.ay.take (o.c0 2 p i m.ay.length)).map (·.name)))++((m.procs.take (o.c0 3 p i m.procs.length)).map (·.name)))++((m.props.take (o.iJ p i m.props.length)).map (·.name)))) ?_ ?_
 .have f:o.iJ p i m.props.length<=m.props.length:=by unfold o.iJ; (repeat' split)<;>omega
  have u:=O.ext;have v:=l ▸ O.I;refine ad ?_;refine K_ 12 (o.iJ p i m.props.length) [1,2,3] (λa:mQ=>[(7,.slice a.1 a.2.1 a.2.2)]) aJ (λc a d=>k2 w d k q a ((((([]++(m.scalars.map (·.name)))++((m.vars.take (o.c0 1 p i m.vars.length)).map (·.name)))++((m.ay.take (o.c0 2 p i m.ay.length)).map (·.name)))++((m.procs.take (o.c0 3 p i m.procs.length)).map (·.name)))++(m.props.take c).map (·.name))) aV aV (O.j2 Ah) ?_;clear u v;rintro c g S r b e;have x:=e.ext;have U:=l ▸ e.I;have n:c=o.iJ p i m.props.length->k2 w r k q g ((((([]++(m.scalars.map (·.name)))++((m.vars.take (o.c0 1 p i m.vars.length)).map (·.name)))++((m.ay.take (o.c0 2 p i m.ay.length)).map (·.name)))++((m.procs.take (o.c0 3 p i m.procs.length)).map (·.name)))++((m.props.take (o.iJ p i m.props.length)).map (·.name))):=λy=>e.j2 (by rw[y]);refine S_ [1,2,3,7,12] (λ_:Unit=>[]) (λ_ d=>d=r/\c<o.iJ p i m.props.length) ?_ ?_
  .refine ad ?_;apply I_<;>intro V
   .refine ad ?_;apply I_<;>intro ao
    .refine ad ?_;apply I_<;>intro ae
     .refine ad ?_;exact⟨(),trivial,aZ,by unfold o.iJ at f b ⊢; (repeat' split at b) <;> (repeat' split)<;>omega⟩
     .refine ad ?_;exact⟨g,aV,n (by unfold o.iJ at f b ⊢; (repeat' split at b) <;> (repeat' split)<;>omega)⟩
    .refine ad ?_;exact⟨g,aV,n (by unfold o.iJ at f b ⊢; (repeat' split at b) <;> (repeat' split)<;>omega)⟩
   .refine ad ?_;exact⟨g,aV,n (by unfold o.iJ at f b ⊢; (repeat' split at b) <;> (repeat' split)<;>omega)⟩
  rintro _ Q _ ⟨rfl,z⟩;have s:c<m.props.length:=AW
  obtain⟨W,rfl⟩:=ak.addr;obtain⟨_,bG,K,aK⟩:=ak.at c s;obtain⟨bH,bI,rfl,bJ⟩:=aK.form;replace K:=K.ext x;refine ad ?_;intro X Y Z A B;have j:=e.then A;have C:=j.ext.size;refine ad ?_;refine Fz j.own B (by simp only[List.length_append,List.length_map,List.length_nil,List.length_cons,List.length_take];omega) C λG ab H I=>?_;have J:=(j.grown I H).j2 (wE (λt:o.nh=>t.name) _ _ _ s);refine ad ?_;exact⟨z,aZ,G,aV,J⟩
 clear O;rintro aM bK bL af;have aP:=af.ext;have bM:=l ▸ af.I;refine ad ?_;refine⟨⟨aM,aZ,?_⟩,aP⟩
 have:=af.own
 simp only[List.nil_append] at this;exact this
def GC(v:mQ)(l:C_ ByteArray)(x:ByteArray)(base:Nat)(w:A_)(h:CL base w v l) :
  EG F.Nh #[.slice v.1 v.2.1 v.2.2,.string x] w λm d=>m = .bool (decide (x∈l))/\d=w:=by
 have e:a4 1 (Flat F4) w (.slice v.1 v.2.1 v.2.2) l:=aR.iw (enc:=F4) (λ_=>rfl) h;obtain⟨s,t,u⟩:=v;obtain⟨g,n,p⟩:=a4.len e;have i:=p;unfold maxLen at i;dsimp only at g n i e;subst g;refine bm E.Nh ?_;refine ad ?_;refine K_ 5 l.length [0,1] (λ_:Unit=>[]) () (λb _ d=>d=w/\∀a (c:a<l.length),a<b->¬l[a]=x) aV aV ⟨rfl,λa _ h=>absurd h (Og _)⟩ ?_;rintro b _ y _ z ⟨rfl,j⟩;refine ad ?_;apply I_<;>intro A
 .have q:b<l.length:=AW
  obtain⟨B,rfl⟩:=e.addr;refine ad ?_;apply I_<;>intro k
  .have hm:x∈l:=by rw[<-k];exact ID _
   refine ad ?_;exact⟨by rw[decide_eq_true hm],aZ⟩
  .refine ad ?_;exact⟨q,aZ,(),trivial,aZ,λa c C=>by
    by_cases f:a=b
    .subst f;exact k
    .exact j a c AW⟩
 .have hm:¬x∈l:=λr=>by
   obtain⟨a,c,f⟩:=List.mem_iff_getElem.1 r;exact j a c AW f
  refine ad ?_;exact⟨by rw[decide_eq_false hm],aZ⟩
def ae8(n:Int)(w:A_):EG F.w2 #[.int .i32 n] w λa b=>a = .bool (o.letter n)/\b=w:=by
 refine bm E.w2 ?_
 (repeat' first
  | (refine I_ (λ_=>?_) (λ_=>?_)<;>try (exfalso;omega))
  | (refine N_ (λ_=>?_) (λ_=>?_))
  | (refine Q_ AW ?_)
  | (refine L_ CW ?_)
  | (refine _b AW ?_)
  | simp -dsimp only[c8,cA,Nat.reduceAdd,Nat.reduceEqDiff,reduceIte,reduceCtorEq,dq])
 all_goals (refine⟨?_,by first | rfl | trivial⟩;congr 1;rw[AH4];simp[o.letter];omega)
def alZ(n:Int)(w:A_):EG F.zk #[.int .i32 n] w λa b=>a = .bool (o.digit n)/\b=w:=by
 refine bm E.zk ?_
 (repeat' first
  | (refine I_ (λ_=>?_) (λ_=>?_)<;>try (exfalso;omega))
  | (refine N_ (λ_=>?_) (λ_=>?_))
  | (refine Q_ AW ?_)
  | (refine L_ CW ?_)
  | (refine _b AW ?_)
  | simp -dsimp only[c8,cA,Nat.reduceAdd,Nat.reduceEqDiff,reduceIte,reduceCtorEq,dq])
 all_goals (refine⟨?_,by first | rfl | trivial⟩;congr 1;rw[AH4];simp[o.digit];omega)
def au8(n:Int)(w:A_):EG F.y #[.int .i32 n] w λc d=>c = .bool (o.part n)/\d=w:=by
 refine bm E.y ?_;refine a1 ?_;refine J_ (ae8 n w) ?_;rintro _ _ ⟨rfl,rfl⟩;refine a1 ?_;refine N_ (λa=>?_) (λa=>?_)
 .refine a1 ?_;refine⟨?_,by first | rfl | trivial⟩;congr 1;simp[o.part,a]
 .refine a1 ?_;refine J_ (alZ n _) ?_;rintro _ _ ⟨rfl,rfl⟩;refine a1 ?_;refine N_ (λb=>?_) (λb=>?_)
  .refine a1 ?_;refine⟨?_,by first | rfl | trivial⟩;congr 1;simp[o.part,b]
  .refine a1 ?_;refine⟨?_,by first | rfl | trivial⟩;congr 1;simp[o.part,a,b]
def aeG(w:A_)(b:Nat):Nat:=match w.heap[b]? with | some (.stringIter a pos)=>a.size - pos | _=>0
def atu(s:ByteArray)(p:Int->Bool)(A:∀h,128<=h->p h=false)(f:E_)(B:okF Tryz.prog f=true)(w:A_)
  (C:∀(h:Int) (b:A_),Ext w b->a3 Tryz.prog f #[.int .i32 h] b λr G=>r = .bool (p h)/\Ext b G) :
  EG F.FF #[.string s,.func (.func f) #[] #[]] w λr b=>r = .I (o.run p s)/\Ext w b:=by
 refine bm E.FF ?_;refine a1 ?_;refine AB8 λL e d H I=>?_;refine a1 ?_;refine Z_ (λJ b => ∃a,a<=s.size/\(∀c (g:c<s.size),c<a->p s[c].toNat=true)/\b.heap[e]? = some (.stringIter s a)/\Ext w b)
  (λ_ b=>aeG b e) ⟨0,AG2 _,λ_ _ t=>absurd t (Og _),I,H⟩ ?_
 rintro J b l ⟨a,M,u,v,y⟩;have i:=l 0 rfl;have j:=l 1 rfl;have k:=l 8 rfl;simp only[bS,Nat.reduceAdd,Nat.reduceEqDiff,reduceIte,kK,oE] at i j k;clear l;refine cg (i_ i (i_ j k)) ?_;refine AB6 v (λz=>?_) (λN=>?_)
 .have x:=o.alV A s a z;have m:(fZ b e (.stringIter s (a+(Utf8.decode s a).2))).heap[e]? = some (.stringIter s (a+(Utf8.decode s a).2)):=Ik (ca v);have n:Ext w (fZ b e (.stringIter s (a+(Utf8.decode s a).2))):=y.fZ d _;generalize fZ b e (.stringIter s (a+(Utf8.decode s a).2))=O at m n;refine cg (i_ i (i_ j k)) ?_;refine W_ (first:=[]) (cap:=[]) B (C _ _ n) ?_;rintro _ P ⟨rfl,q⟩;refine cg (i_ i (i_ j k)) ?_;refine N_ (λd=>?_) (λd=>?_)
  .refine a1 ?_;rw[x.1] at d;have K:=x.2 d;rw[K] at m;refine⟨⟨a+1,AW,λc g Q=>?_,q.obj m,n.trans q⟩,?_⟩
   .by_cases t:c<a
    .exact u c g t
    .have:c=a:=AW
     subst this;exact d
   .simp only[aeG,q.obj m,v];omega
  .refine a1 ?_;rw[x.1] at d;refine⟨?_,n.trans q⟩;rw[o.ahh p s a z (λc g=>u c AW g) d]
 .refine cg (i_ i (i_ j k)) ?_;refine⟨?_,y⟩;rw[o.ag8 p s (λc g=>u c g AW)]
def gZ(w:A_):Prop:=fx w ⟨G.atf,0,none⟩ (o.sL.map Value.string)
theorem gZ.ext{w w':A_}(a:Ext w w')(h:gZ w):gZ w':=fx.ext a h
def NY(s:ByteArray)(w:A_)(y:gZ w)(K:s.size<=9223372036854775807) :
  EG F.J6 #[.string s] w λu e=>u = .bool (o.isName s)/\Ext w e:=by
 refine bm E.J6 ?_;refine a1 ?_;refine I_ (λa=>?_) (λa=>?_)
 .refine a1 ?_;refine⟨?_,Ext.refl w⟩;subst a;rfl
 have z:s.size≠0:=λh=>a (by
  cases s with | mk A =>
  have:A=#[]:=by simpa[ByteArray.size] using h
  rw[this])
 refine a1 ?_;refine I_ (λB=>?_) (λB=>?_)
 .refine a1 ?_;refine⟨?_,Ext.refl w⟩
  have:¬s.size<=16:=AW
  simp[o.isName,this]
 have C:s.size<=16:=AW
 refine a1 ?_;refine _c (s.get! 0) Ae (o.get?_eq s 0 AW) ?_;refine a1 ?_;have L:(s.get! 0).toNat<256:=UInt8.toNat_lt _;refine AB2 (IntWalk.i32_in _ AW) ?_;refine a1 ?_;refine J_ (ae8 _ w) ?_;rintro _ _ ⟨rfl,rfl⟩;refine a1 ?_;refine N_ (λk=>?_) (λk=>?_);rotate_left
 .refine a1 ?_;refine⟨?_,Ext.refl _⟩;have l:o.letter (o.uc s 0:Nat)=false:=k;simp[o.isName,l]
 refine a1 ?_;refine J_ (atu s o.part o.au7 F.y Cg _ λG e _=>(au8 G e).mono λu M ⟨m,n⟩=>⟨m,n ▸ Ext.refl _⟩) ?_;rintro _ H ⟨rfl,f⟩;refine a1 ?_;refine I_ (λm=>?_) (λm=>?_)
 .refine a1 ?_;refine⟨?_,f⟩;have p:¬o.run o.part s=s.size:=AW
  simp[o.isName,p]
 have p:o.run o.part s=s.size:=by have:=o.aw9 o.part s;omega
 have l:o.letter (o.uc s 0:Nat)=true:=k;have v:o.isName s = !decide (s∈o.sL):=by simp[o.isName,p,l,C,z]
 refine a1 ?_;refine Y_ (y.ext f) rfl ?_;refine a1 ?_;refine Z_ (λi e => ∃b:Nat,b<=4/\i 27 = .I b/\(∀c (j:c<o.sL.length),c<b->o.sL[c]≠s)/\Ext H e)
  (λi _=>(4 - intOf (i 27)).toNat) ⟨0,AW,by refine a1 ?_;rfl,λ_ _ h=>absurd h (Og _),Ext.refl _⟩ ?_
 rintro i e q ⟨b,N,g,x,r⟩;have a:=q 0 rfl;have d:=q 26 rfl;simp only[bS,Nat.reduceAdd,Nat.reduceEqDiff,reduceIte,kK,oE] at a d;clear q;refine cg (i_ a (i_ d g)) ?_;refine I_ (λn=>?_) (λn=>?_)
 .refine cg (i_ a (i_ d g)) ?_;have I:b<o.sL.length:=by simp[o.sL];omega
  refine AB3 (.string o.sL[b]) AW (by simp[List.getElem?_map,I]) ?_;refine cg (i_ a (i_ d g)) ?_;refine I_ (λt=>?_) (λt=>?_)
  .refine a1 ?_;refine⟨?_,f.trans r⟩;rw[v]
   have:s∈o.sL:=t ▸ ID _
   simp[this]
  .refine cg (i_ a (i_ d g)) ?_;refine Q_ AW ?_;refine cg (i_ a (i_ d g)) ?_;refine⟨⟨b+1,AW,rfl,λc j O=>?_,r⟩,by simp[intOf];omega⟩;by_cases h:c<b
   .exact x c j h
   .have:c=b:=AW
    subst this;exact t
 .refine cg (i_ a (i_ d g)) ?_;refine⟨?_,f.trans r⟩;rw[v]
  have:s∉o.sL:=λJ=>by
   obtain⟨c,j,f⟩:=List.mem_iff_getElem.1 J;exact x c j (by have:o.sL.length=4:=rfl;omega) f
  simp[this]
def afx(a b:Int)(w:A_):EG F.A0 #[.I a,.I b] w λc d=>c = .bool (o.narrow a b)/\d=w:=by
 refine bm E.A0 ?_
 (repeat' first
  | (refine I_ (λ_=>?_) (λ_=>?_)<;>try (exfalso;omega))
  | (refine N_ (λ_=>?_) (λ_=>?_))
  | (refine Q_ AW ?_)
  | (refine L_ CW ?_)
  | (refine _b AW ?_)
  | simp -dsimp only[c8,cA,Nat.reduceAdd,Nat.reduceEqDiff,reduceIte,reduceCtorEq,dq])
 all_goals (refine⟨?_,by first | rfl | trivial⟩;congr 1;rw[AH4];simp[o.narrow];omega)
def ahC{k:Int}{l:C_ o.Scalar}(a:1<=k)(d:k<=l.length):o.size k l=if 1<=(l[k.toNat - 1]' AW).size/\(l[k.toNat - 1]' AW).size<=4 then (l[k.toNat - 1]' AW).size else 0:=by
 have b:(k - 1).toNat=k.toNat - 1:=AW
 have c:k.toNat - 1<l.length:=AW
 simp only[o.size,b,List.getElem?_eq_getElem c,a,true_and]
def Oy{k:Int}{l:C_ o.Scalar}(h:k<1\/l.length<k):o.size k l=0:=by
 unfold o.size;split
 .rename_i b a;rw[if_neg];rintro⟨c,_⟩
  have:=(List.getElem?_eq_some_iff.1 a).1
  omega
 .rfl
def Vz(k:Int)(v:B_)(l:C_ o.Scalar)(w:A_)(b:o.hC w v l) :
  EG F.d8 #[.I k,v] w λv e=>v = .tuple #[.I (o.size k l),.bool (decide (o.size k l≠0))]/\e=w:=by
 obtain⟨i,j,rfl,m⟩:=b.form;refine bm E.d8 ?_;refine a1 ?_;refine I_ (λc=>?_) (λc=>?_)
 .refine a1 ?_;rw[Oy (.inl c)];exact⟨rfl,trivial⟩
 refine a1 ?_;refine I_ (λd=>?_) (λd=>?_)
 .refine a1 ?_;rw[Oy (.inr d)];exact⟨rfl,trivial⟩
 refine a1 ?_;refine Q_ AW ?_;refine a1 ?_;obtain⟨n,rfl⟩:=b.addr;have a:=(b.at (k.toNat - 1) AW).cells 1 _ rfl;refine M_ (k.toNat - 1) AW AW ?_;refine a1 ?_;refine L_ a ?_;rw[ahC AW AW];generalize l[k.toNat - 1].size=f at a;refine a1 ?_;refine I_ (λg=>?_) (λg=>?_)
 .refine a1 ?_;rw[if_neg AW];exact⟨rfl,trivial⟩
 refine a1 ?_;refine Q_ AW ?_;refine a1 ?_;refine M_ (k.toNat - 1) AW AW ?_;refine a1 ?_;refine L_ a ?_;refine a1 ?_;refine I_ (λh=>?_) (λh=>?_)
 .refine a1 ?_;rw[if_neg AW];exact⟨rfl,trivial⟩
 refine a1 ?_;refine Q_ AW ?_;refine a1 ?_;refine M_ (k.toNat - 1) AW AW ?_;refine a1 ?_;refine L_ a ?_;refine a1 ?_;rw[if_pos AW];refine⟨?_,by trivial⟩
 have:f≠0:=AW
 simp[this]
def VT(k:Int)(v:B_)(l:C_ o.Scalar)(w:A_)(b:o.hC w v l) :
  EG F.zi #[.I k,v] w λv c=>v = .bool (o.there k l)/\c=w:=by
 refine bm E.zi ?_;refine a1 ?_;refine J_ (Vz k v l w b) ?_;rintro _ _ ⟨rfl,rfl⟩;refine a1 ?_;refine I_ (λa=>?_) (λa=>?_)
 .refine a1 ?_;refine⟨?_,by trivial⟩;simp[o.there,a]
 .refine a1 ?_;refine⟨?_,by trivial⟩;simp[o.there,a]
def seen(l:C_ ByteArray):C_ (ByteArray×B_):=l.map λa=>(a,.bool true)
theorem axr(l:C_ ByteArray)(x:ByteArray):((seen l).find? (λb=>decide (x=b.1))).map (·.2)=if x∈l then some (.bool true) else none:=by
 induction l with
 | nil=>rfl
 | cons c l d =>
  simp only[seen,List.map_cons,List.find?_cons,List.mem_cons];by_cases a:x=c
  .simp[a]
  .simp only[a,decide_false,false_or];exact d
set_option maxHeartbeats 2000000 in
def Ut(n fR:Int)(az:0<=n/\n<=9223372036854775807)(b:Nat->ByteArray)(mo:Nat->Int)(H I:E_)(bg bj:C_ B_)(ae:okF Tryz.prog H=true)(af:okF Tryz.prog I=true)(w:A_)(ag:gZ w)
  (ah:∀a:Nat,a<n->o.kq (b a))
  (ai:∀(a:Nat) (l:A_),a<n->Ext w l->a3 Tryz.prog H (.I a :: bg).toArray l λv J=>v = .string (b a)/\Ext l J)
  (aj:∀(a:Nat) (l:A_),a<n->Ext w l->a3 Tryz.prog I (.I a :: bj).toArray l λv J=>v = .I (mo a)/\Ext l J) :
  EG F.ox #[.I n,.I fR,.func (.func H) #[] bg.toArray,.func (.func I) #[] bj.toArray] w
   λv l=>v = .tuple #[.I (o.first n.toNat (o.err fR b mo)).1,.I (o.first n.toNat (o.err fR b mo)).2]/\Ext w l:=by
 refine bm E.ox ?_;refine a1 ?_;refine _w λaA s ak al an=>?_;refine a1 ?_;refine Z_ (λz l => ∃a:Nat,a<=n/\z 16 = .I a/\(∀j,j<a->o.err fR b mo j=0)/\Ext w l /\
   ∃m p,l.heap[s]? = some (.map m p)/\mN Value.string m.toList (seen ((List.range a).map b)))
  (λz _=>(n - intOf (z 16)).toNat) ⟨0,AW,by refine a1 ?_;rfl,λ_ c=>absurd c (Og _),al,_,_,an,rfl⟩ ?_
 rintro z ao t ⟨a,aB,k,K,q,m,p,aq,Q⟩;have d:=t 0 rfl;have e:=t 1 rfl;have f:=t 2 rfl;have g:=t 3 rfl;have h:=t 10 rfl;have i:=t 15 rfl;simp only[bS,Nat.reduceAdd,Nat.reduceEqDiff,reduceIte,kK,oE] at d e f g h i;clear t;refine cg (i_ d (i_ e (i_ f (i_ g (i_ h (i_ i k)))))) ?_;refine I_ (λL=>?_) (λaC=>?_);rotate_left
 .refine a1 ?_;refine⟨?_,q⟩;rw[o.qv λj ar=>K j AW]
 have A:∀B:Int,o.err fR b mo a=B->B≠0->o.first n.toNat (o.err fR b mo)=((a:Int),B):=λB c au=>by
  rw[o.kd AW K (by rw[c];exact au),c]
 refine cg (i_ d (i_ e (i_ f (i_ g (i_ h (i_ i k)))))) ?_;refine W_ (first:=[]) ae (ai a ao L q) ?_;rintro _ av ⟨rfl,r⟩;refine cg (i_ d (i_ e (i_ f (i_ g (i_ h (i_ i k)))))) ?_;refine I_ (λx=>?_) (λx=>?_)
 .refine cg (i_ d (i_ e (i_ f (i_ g (i_ h (i_ i k)))))) ?_;refine I_ (λc=>absurd c Ae) (λ_=>?_);refine a1 ?_;rw[A 11 (by simp[o.err,x]) Ae];exact⟨rfl,q.trans r⟩
 refine cg (i_ d (i_ e (i_ f (i_ g (i_ h (i_ i k)))))) ?_;refine J_ (NY (b a) av (ag.ext (q.trans r)) (ah a L)) ?_;rintro _ S ⟨rfl,u⟩;refine cg (i_ d (i_ e (i_ f (i_ g (i_ h (i_ i k)))))) ?_;refine N_ (λC=>?_) (λC=>?_);rotate_left
 .refine cg (i_ d (i_ e (i_ f (i_ g (i_ h (i_ i k)))))) ?_;refine I_ (λc=>absurd c Ae) (λ_=>?_);refine a1 ?_;rw[A 6 (by simp[o.err,x,C]) Ae];exact⟨rfl,(q.trans r).trans u⟩
 refine cg (i_ d (i_ e (i_ f (i_ g (i_ h (i_ i k)))))) ?_;have U:S.heap[s]? = some (.map m p):=u.obj (r.obj aq);obtain⟨M,V,y⟩:=F8 Ov (b a) m.toList _ 0 Q;rw[axr] at y;refine _t (.inr ⟨s,p,rfl,U⟩) V ?_;have W:b a∈(List.range a).map b↔∃j,j<a/\b j=b a:=Ah
 by_cases G:∃j,j<a/\b j=b a
 .rw[if_pos (W.2 G)] at y;have N:po (.bool false) false M = .bool true:=by simp[po,y]
  rw[N];refine cg (i_ d (i_ e (i_ f (i_ g (i_ h (i_ i k)))))) ?_;refine I_ (λc=>absurd c Ae) (λ_=>?_);refine a1 ?_;rw[A 7 (by simp[o.err,x,C,G]) Ae];exact⟨rfl,(q.trans r).trans u⟩
 rw[if_neg (λc=>G (W.1 c))] at y;have aw:M=none:=by cases M<;>simp at y ⊢
 subst aw;have N:po (.bool false) false none = .bool false:=rfl;rw[N];refine cg (i_ d (i_ e (i_ f (i_ g (i_ h (i_ i k)))))) ?_;refine W_ (first:=[]) af (aj a S L ((q.trans r).trans u)) ?_;rintro _ O ⟨rfl,P⟩;have X:o.err fR b mo a=mo a:=by simp[o.err,x,C,G]
 refine cg (i_ d (i_ e (i_ f (i_ g (i_ h (i_ i k)))))) ?_;refine I_ (λc=>?_) (λc=>?_);rotate_left
 .refine a1 ?_;rw[A (mo a) X c];exact⟨rfl,((q.trans r).trans u).trans P⟩
 refine cg (i_ d (i_ e (i_ f (i_ g (i_ h (i_ i k)))))) ?_;have Y:=P.obj U;refine _2 Y V ?_;have Z:(fZ O s (uX m p (.string (b a)) (.bool true) none)).heap[s]? = some (uX m p (.string (b a)) (.bool true) none):=Ik (ca Y);have ab:Ext w (fZ O s (uX m p (.string (b a)) (.bool true) none)):=(((q.trans r).trans u).trans P).fZ ak _;generalize fZ O s (uX m p (.string (b a)) (.bool true) none)=aD at Z ab;refine cg (i_ d (i_ e (i_ f (i_ g (i_ h (i_ i k)))))) ?_;refine Q_ AW ?_;refine cg (i_ d (i_ e (i_ f (i_ g (i_ h (i_ i k)))))) ?_;refine⟨⟨a+1,AW,rfl,λj ar=>?_,ab,_,_,Z,?_⟩,by simp[intOf];omega⟩
 .by_cases ax:j<a
  .exact K j ax
  .have:j=a:=AW
   subst this;rw[X,c]
 .have:=mN.push Q (b a) (.bool true) p
  simpa[seen,List.range_succ] using this
def tG{α:Type}(f:α->ByteArray)(l:C_ α)(i:Nat)(h:i<l.length):o.nameAt f l i=f l[i]:=by simp[o.nameAt,h]
def axm(i:Nat)(b:Nat)(v:B_)(l:C_ o.Scalar)(w:A_)(a:o.hC w v l)(d:w.cell? ⟨b,0,none⟩=some v)(c:i<l.length) :
  EG F.s4 #[.I i,.pointer (some ⟨b,0,none⟩)] w λv e=>v = .string (o.nameAt (·.name) l i)/\Ext w e:=by
 obtain⟨g,h,rfl,j⟩:=a.form;refine bm E.s4 ?_;refine a1 ?_;refine L_ d ?_;refine a1 ?_;obtain⟨k,rfl⟩:=a.addr;have f:=(a.at i c).cells 0 _ rfl;refine M_ i rfl c ?_;refine a1 ?_;refine L_ f ?_;refine a1 ?_;rw[tG _ _ _ c];exact⟨rfl,Ext.refl w⟩
def axn(i:Nat)(b:Nat)(v:B_)(l:C_ o.Scalar)(w:A_)(c:o.hC w v l)(f:w.cell? ⟨b,0,none⟩=some v)(a:i<l.length) :
  EG F.s5 #[.I i,.pointer (some ⟨b,0,none⟩)] w λv g=>v = .I (o.u7 l i)/\Ext w g:=by
 obtain⟨j,k,rfl,m⟩:=c.form;refine bm E.s5 ?_;refine a1 ?_;refine L_ f ?_;refine a1 ?_;obtain⟨n,rfl⟩:=c.addr;have d:=(c.at i a).cells 1 _ rfl;have h:o.u7 l i=if 1<=l[i].size/\l[i].size<=4 then 0 else 10:=by simp[o.u7,a]
 rw[h];generalize l[i].size=p at d;refine M_ i rfl a ?_;refine a1 ?_;refine L_ d ?_;refine a1 ?_;refine I_ (λe=>?_) (λe=>?_)
 .refine a1 ?_;rw[if_neg AW];exact⟨rfl,Ext.refl w⟩
 refine a1 ?_;refine L_ f ?_;refine a1 ?_;refine M_ i rfl a ?_;refine a1 ?_;refine L_ d ?_;refine a1 ?_;refine I_ (λe=>?_) (λe=>?_)
 .refine a1 ?_;rw[if_neg AW];exact⟨rfl,Ext.refl w⟩
 .refine a1 ?_;rw[if_pos AW];exact⟨rfl,Ext.refl w⟩
def axo(v:B_)(l:C_ o.Scalar)(w:A_)(k:gZ w)(d:o.hC w v l) :
  EG F.xd #[v] w λv a=>v = .tuple #[.I (o.scalars l).1,.I (o.scalars l).2]/\Ext w a:=by
 obtain⟨m,n,rfl,r⟩:=d.form;refine bm E.xd ?_;refine a1 ?_;refine O_ λh e s f p=>?_;have i:=a4.ext o.jM.ext f d;have g:h.cell? ⟨e,0,none⟩=some (.slice m l.length n):=C3 p rfl;refine a1 ?_;refine L_ g ?_;refine a1 ?_;refine J_ (Ut l.length 2 AW (o.nameAt (·.name) l) (o.u7 l) F.s4 F.s5 [_] [_] Cg Cg h (k.ext f)
  (λb j=>by rw[tG _ _ _ AW];obtain⟨t,rfl⟩:=d.addr;exact(d.at b AW).ok)
  (λb a j c=>axm b e _ l a (a4.ext o.jM.ext c i) (c.cell g) AW)
  (λb a j c=>axn b e _ l a (a4.ext o.jM.ext c i) (c.cell g) AW)) ?_
 rintro _ u ⟨rfl,q⟩;refine a1 ?_;exact⟨rfl,f.trans q⟩
def Jt(x:o.Var)(v:B_)(l:C_ o.Scalar)(w:A_)(f:o.hC w v l) :
  EG F.th #[.agg x.enc.toArray,v] w λv g=>v = .tuple #[.I (o.bounds x l).1,.I (o.bounds x l).2]/\Ext w g:=by
 obtain⟨k,m,rfl,n⟩:=f.form;refine bm E.th ?_;refine a1 ?_;refine O_ λa b p c d=>?_;have bg:a.cell? (Addr.add ⟨b,0,none⟩ 1)=some (.I x.scalar):=gD d rfl;have h:a.cell? (Addr.add ⟨b,0,none⟩ 3)=some (.I x.aQ):=gD d rfl;have i:a.cell? (Addr.add ⟨b,0,none⟩ 4)=some (.I x.ab):=gD d rfl;refine a1 ?_;refine L_ bg ?_;refine a1 ?_;refine I_ (λe=>?_) (λe=>?_)
 .refine a1 ?_;refine L_ h ?_;refine a1 ?_;refine L_ i ?_;refine a1 ?_;intro q j;simp only[o.bounds,e,if_true];exact⟨trivial,c.trans j⟩
 .refine a1 ?_;refine L_ bg ?_;refine a1 ?_;refine J_ (Vz x.scalar _ l a (a4.ext o.jM.ext c f)) ?_;rintro _ _ ⟨rfl,rfl⟩;refine a1 ?_;simp only[o.bounds,e,if_false];exact⟨trivial,c⟩
def C5(x:o.Var)(v:B_)(l:C_ o.Scalar)(w:A_)(c:o.hC w v l) :
  EG F.JT #[.agg x.enc.toArray,v] w λv e=>v = .I (o.cells x l)/\Ext w e:=by
 obtain⟨h,i,rfl,j⟩:=c.form;refine bm E.JT ?_;refine a1 ?_;refine O_ λd f k a g=>?_;have bj:d.cell? (Addr.add ⟨f,0,none⟩ 2)=some (.I x.over):=gD g rfl;refine a1 ?_;refine L_ bj ?_;refine a1 ?_;refine I_ (λb=>?_) (λb=>?_)
 .refine a1 ?_;simp only[o.cells,b,if_true];exact⟨trivial,a⟩
 .refine a1 ?_;refine L_ bj ?_;refine a1 ?_;refine J_ (Vz x.over _ l d (a4.ext o.jM.ext a c)) ?_;rintro _ _ ⟨rfl,rfl⟩;refine a1 ?_;simp only[o.cells,b,if_false];exact⟨trivial,a⟩
def ayz(i:Nat)(b:Nat)(v:B_)(l:C_ o.Var)(w:A_)(a:o.jO w v l)(d:w.cell? ⟨b,0,none⟩=some v)(c:i<l.length) :
  EG F.w #[.I i,.pointer (some ⟨b,0,none⟩)] w λv e=>v = .string (o.nameAt (·.name) l i)/\Ext w e:=by
 obtain⟨g,h,rfl,j⟩:=a.form;refine bm E.w ?_;refine a1 ?_;refine L_ d ?_;refine a1 ?_;obtain⟨k,rfl⟩:=a.addr;have f:=(a.at i c).cells 0 _ rfl;refine M_ i rfl c ?_;refine a1 ?_;refine L_ f ?_;refine a1 ?_;rw[tG _ _ _ c];exact⟨rfl,Ext.refl w⟩
def ayA(i:Nat)(b A:Nat)(v B:B_)(l:C_ o.Var)(s:C_ o.Scalar)(w:A_)(n:o.jO w v l)(C:o.hC w B s)(L:w.cell? ⟨b,0,none⟩=some v)(M:w.cell? ⟨A,0,none⟩=some B)
  (p:i<l.length):EG F.x #[.I i,.pointer (some ⟨b,0,none⟩),.pointer (some ⟨A,0,none⟩)] w λv N=>v = .I (o.q1 l s i)/\Ext w N:=by
 obtain⟨W,X,rfl,Y⟩:=n.form;obtain⟨Z,ab,rfl,ae⟩:=C.form;refine bm E.x ?_;refine a1 ?_;refine L_ L ?_;refine a1 ?_;obtain⟨af,rfl⟩:=n.addr;have G:=(n.at i p).cells;have H:o.q1 l s i=if o.there l[i].scalar s=false\/o.there l[i].over s=false then 8
  else if (l[i].scalar=0/\o.narrow l[i].aQ l[i].ab=false)\/l[i].init<(o.bounds l[i] s).1\/l[i].init > (o.bounds l[i] s).2 then 10 else 0:=by simp[o.q1,p]
 rw[H];clear H;generalize l[i]=a at G;refine M_ i rfl p ?_;refine a1 ?_;refine Y_ G rfl ?_;refine a1 ?_;refine O_ λO q P I J=>?_;refine a1 ?_;refine X_ J rfl rfl (by simp[o.Var.enc,Value.oneCell']) λe K j=>?_;have f:Ext w e:=K.ext I P;clear K J I O;have bg:e.cell? (Addr.add ⟨q,0,none⟩ 1)=some (.I a.scalar):=gD j rfl;have bj:e.cell? (Addr.add ⟨q,0,none⟩ 2)=some (.I a.over):=gD j rfl;have Q:e.cell? (Addr.add ⟨q,0,none⟩ 5)=some (.I a.init):=gD j rfl;have r:=f.cell M;have t:=a4.ext o.jM.ext f C;refine a1 ?_;refine L_ bg ?_;refine a1 ?_;refine L_ r ?_;refine a1 ?_;refine J_ (VT a.scalar _ s e t) ?_;rintro _ _ ⟨rfl,rfl⟩;refine a1 ?_;refine N_ (λu=>?_) (λu=>?_);rotate_left
 .refine a1 ?_;simp only[u,true_or,if_true];exact⟨trivial,f⟩
 refine a1 ?_;refine L_ bj ?_;refine a1 ?_;refine L_ r ?_;refine a1 ?_;refine J_ (VT a.over _ s _ t) ?_;rintro _ _ ⟨rfl,rfl⟩;refine a1 ?_;refine N_ (λx=>?_) (λx=>?_);rotate_left
 .refine a1 ?_;simp only[x,or_true,if_true];exact⟨trivial,f⟩
 refine a1 ?_;refine Y_ (gP j) rfl ?_;refine a1 ?_;refine L_ r ?_;refine a1 ?_;refine J_ (Jt a _ s _ t) ?_;rintro _ S ⟨rfl,y⟩;rename_i ag;have U:=y.cell bg;have k:=y.cell Q;have c:=f.trans y;refine a1 ?_;refine L_ U ?_;have d:¬(o.there a.scalar s=false\/o.there a.over s=false):=by simp[u,x]
 refine a1 ?_;refine I_ (λm=>?_) (λm=>?_)
 .refine a1 ?_;have V:o.bounds a s=(a.aQ,a.ab):=by simp[o.bounds,m]
  rw[V];refine J_ (afx a.aQ a.ab S) ?_;rintro _ _ ⟨rfl,rfl⟩;refine a1 ?_;refine N_ (λz=>?_) (λz=>?_);rotate_left
  .refine a1 ?_;rw[if_neg d,if_pos (.inl ⟨m,z⟩)];exact⟨rfl,c⟩
  refine a1 ?_;refine L_ k ?_;refine a1 ?_;refine I_ (λg=>?_) (λg=>?_)
  .refine a1 ?_;rw[if_neg d,if_pos (.inr (.inl g))];exact⟨rfl,c⟩
  refine a1 ?_;refine L_ k ?_;refine a1 ?_;refine I_ (λh=>?_) (λh=>?_)
  .refine a1 ?_;rw[if_neg d,if_pos (.inr (.inr h))];exact⟨rfl,c⟩
  .refine a1 ?_;rw[if_neg d,if_neg (by rw[z];simp;omega)];exact⟨rfl,c⟩
 .refine a1 ?_;refine L_ k ?_;refine a1 ?_;refine I_ (λg=>?_) (λg=>?_)
  .refine a1 ?_;rw[if_neg d,if_pos (.inr (.inl g))];exact⟨rfl,c⟩
  refine a1 ?_;refine L_ k ?_;refine a1 ?_;refine I_ (λh=>?_) (λh=>?_)
  .refine a1 ?_;rw[if_neg d,if_pos (.inr (.inr h))];exact⟨rfl,c⟩
  .refine a1 ?_;rw[if_neg d,if_neg (by simp[m];omega)];exact⟨rfl,c⟩
def aiw(v h:B_)(l:C_ o.Var)(s:C_ o.Scalar)(fR:Int)(w:A_)(p:gZ w)(d:o.jO w v l)(i:o.hC w h s) :
  EG F.De #[v,h,.I fR] w λv b=>v = .tuple #[.I (o.vars l s fR).1,.I (o.vars l s fR).2]/\Ext w b:=by
 obtain⟨q,r,rfl,G⟩:=d.form;obtain⟨t,u,rfl,H⟩:=i.form;refine bm E.De ?_;refine a1 ?_;refine O_ λI e J x y=>?_;refine a1 ?_;refine O_ λf j K k z=>?_;have a:=x.trans k;have m:=a4.ext o.ra.ext a d;have A:=a4.ext o.jM.ext a i;have g:f.cell? ⟨e,0,none⟩=some (.slice q l.length r):=C3 (k.obj y) rfl;have B:f.cell? ⟨j,0,none⟩=some (.slice t s.length u):=C3 z rfl;refine a1 ?_;refine L_ g ?_;refine a1 ?_;refine J_ (Ut l.length (max fR 0) AW (o.nameAt (·.name) l) (o.q1 l s) F.w F.x [_] [_,_] Cg Cg f (p.ext a)
  (λc n=>by rw[tG _ _ _ AW];obtain⟨L,rfl⟩:=d.addr;exact(d.at c AW).ok)
  (λc b n a=>ayz c e _ l b (a4.ext o.ra.ext a m) (a.cell g) AW)
  (λc b n a=>ayA c e j _ _ l s b (a4.ext o.ra.ext a m) (a4.ext o.jM.ext a A) (a.cell g) (a.cell B) AW)) ?_
 rintro _ M ⟨rfl,C⟩;refine a1 ?_;exact⟨rfl,a.trans C⟩
def alh(i:Nat)(b:Nat)(v:B_)(l:C_ o.ed)(w:A_)(a:o.ot w v l)(d:w.cell? ⟨b,0,none⟩=some v)(c:i<l.length) :
  EG F.s6 #[.I i,.pointer (some ⟨b,0,none⟩)] w λv e=>v = .string (o.nameAt (·.name) l i)/\Ext w e:=by
 obtain⟨g,h,rfl,j⟩:=a.form;refine bm E.s6 ?_;refine a1 ?_;refine L_ d ?_;refine a1 ?_;obtain⟨k,rfl⟩:=a.addr;have f:=(a.at i c).cells 0 _ rfl;refine M_ i rfl c ?_;refine a1 ?_;refine L_ f ?_;refine a1 ?_;rw[tG _ _ _ c];exact⟨rfl,Ext.refl w⟩
def ali(i:Nat)(b p:Nat)(v q:B_)(l:C_ o.ed)(s:C_ o.Scalar)(w:A_)(h:o.ot w v l)(r:o.hC w q s)(C:w.cell? ⟨b,0,none⟩=some v)(G:w.cell? ⟨p,0,none⟩=some q)
  (j:i<l.length):EG F.g1 #[.I i,.pointer (some ⟨b,0,none⟩),.pointer (some ⟨p,0,none⟩)] w λv H=>v = .I (o.qt l s i)/\Ext w H:=by
 obtain⟨O,P,rfl,Q⟩:=h.form;obtain⟨S,U,rfl,V⟩:=r.form;refine bm E.g1 ?_;refine a1 ?_;refine L_ C ?_;refine a1 ?_;obtain⟨W,rfl⟩:=h.addr;have t:=(h.at i j).cells;have u:o.qt l s i=if o.there l[i].scalar s=false then 8
  else if l[i].cap<1\/l[i].cap > 4\/(l[i].scalar=0/\o.narrow l[i].aQ l[i].ab=false) then 10 else 0:=by simp[o.qt,j]
 rw[u];clear u;generalize l[i]=a at t;refine M_ i rfl j ?_;refine a1 ?_;refine Y_ t rfl ?_;refine a1 ?_;refine O_ λI f J x y=>?_;refine a1 ?_;refine X_ y rfl rfl (by simp[o.ed.enc,Value.oneCell']) λd z g=>?_;have c:Ext w d:=z.ext x J;clear z y x I;have bg:d.cell? (Addr.add ⟨f,0,none⟩ 1)=some (.I a.scalar):=gD g rfl;have bj:d.cell? (Addr.add ⟨f,0,none⟩ 2)=some (.I a.cap):=gD g rfl;have K:d.cell? (Addr.add ⟨f,0,none⟩ 3)=some (.I a.aQ):=gD g rfl;have L:d.cell? (Addr.add ⟨f,0,none⟩ 4)=some (.I a.ab):=gD g rfl;have M:=c.cell G;have N:=a4.ext o.jM.ext c r;refine a1 ?_;refine L_ bg ?_;refine a1 ?_;refine L_ M ?_;refine a1 ?_;refine J_ (VT a.scalar _ s d N) ?_;rintro _ _ ⟨rfl,rfl⟩;refine a1 ?_;refine N_ (λk=>?_) (λk=>?_);rotate_left
 .refine a1 ?_;simp only[k,if_true];exact⟨trivial,c⟩
 have e:¬(o.there a.scalar s=false):=by simp[k]
 refine a1 ?_;refine L_ bj ?_;refine a1 ?_;refine I_ (λA=>?_) (λA=>?_)
 .refine a1 ?_;rw[if_neg e,if_pos (.inl A)];exact⟨rfl,c⟩
 refine a1 ?_;refine L_ bj ?_;refine a1 ?_;refine I_ (λB=>?_) (λB=>?_)
 .refine a1 ?_;rw[if_neg e,if_pos (.inr (.inl B))];exact⟨rfl,c⟩
 refine a1 ?_;refine L_ bg ?_;refine a1 ?_;refine I_ (λm=>?_) (λm=>?_)
 .refine a1 ?_;refine L_ K ?_;refine a1 ?_;refine L_ L ?_;refine a1 ?_;refine J_ (afx a.aQ a.ab _) ?_;rintro _ _ ⟨rfl,rfl⟩;refine a1 ?_;refine N_ (λn=>?_) (λn=>?_)
  .refine a1 ?_;rw[if_neg e,if_neg (by rw[n];simp;omega)];exact⟨rfl,c⟩
  .refine a1 ?_;rw[if_neg e,if_pos (.inr (.inr ⟨m,n⟩))];exact⟨rfl,c⟩
 .refine a1 ?_;rw[if_neg e,if_neg (by simp[m];omega)];exact⟨rfl,c⟩
def alk(v h:B_)(l:C_ o.ed)(s:C_ o.Scalar)(w:A_)(p:gZ w)(d:o.ot w v l)(i:o.hC w h s) :
  EG F.rn #[v,h] w λv b=>v = .tuple #[.I (o.ay l s).1,.I (o.ay l s).2]/\Ext w b:=by
 obtain⟨q,r,rfl,G⟩:=d.form;obtain⟨t,u,rfl,H⟩:=i.form;refine bm E.rn ?_;refine a1 ?_;refine O_ λI e J x y=>?_;refine a1 ?_;refine O_ λf j K k z=>?_;have a:=x.trans k;have m:=a4.ext o.r5.ext a d;have A:=a4.ext o.jM.ext a i;have g:f.cell? ⟨e,0,none⟩=some (.slice q l.length r):=C3 (k.obj y) rfl;have B:f.cell? ⟨j,0,none⟩=some (.slice t s.length u):=C3 z rfl;refine a1 ?_;refine L_ g ?_;refine a1 ?_;refine J_ (Ut l.length 4 AW (o.nameAt (·.name) l) (o.qt l s) F.s6 F.g1 [_] [_,_] Cg Cg f (p.ext a)
  (λc n=>by rw[tG _ _ _ AW];obtain⟨L,rfl⟩:=d.addr;exact(d.at c AW).ok)
  (λc b n a=>alh c e _ l b (a4.ext o.r5.ext a m) (a.cell g) AW)
  (λc b n a=>ali c e j _ _ l s b (a4.ext o.r5.ext a m) (a4.ext o.jM.ext a A) (a.cell g) (a.cell B) AW)) ?_
 rintro _ M ⟨rfl,C⟩;refine a1 ?_;exact⟨rfl,a.trans C⟩
def Ew(k:Int)(v:B_)(l:C_ o.Scalar)(w:A_)(a:o.hC w v l) :
  EG F.HI #[v,.I k] w λv e=>v = .I (o.size k l)/\e=w:=by
 obtain⟨g,h,rfl,i⟩:=a.form;refine bm E.HI ?_;refine a1 ?_;refine I_ (λb=>?_) (λb=>?_)
 .refine a1 ?_;rw[Oy (.inl b)];exact⟨rfl,trivial⟩
 refine a1 ?_;refine I_ (λc=>?_) (λc=>?_)
 .refine a1 ?_;rw[Oy (.inr c)];exact⟨rfl,trivial⟩
 obtain⟨j,rfl⟩:=a.addr;have d:=(a.at (k.toNat - 1) AW).cells 1 _ rfl;have f:(k - 1).toNat*2=(k.toNat - 1)*2:=AW
 rw[ahC AW AW];rw[<-f] at d;generalize l[k.toNat - 1].size=m at d
 (repeat' first
  | (refine I_ (λ_=>?_) (λ_=>?_)<;>try (exfalso;omega))
  | (refine N_ (λ_=>?_) (λ_=>?_))
  | (refine Q_ AW ?_)
  | (refine L_ CW ?_)
  | (refine _b AW ?_)
  | simp -dsimp only[c8,cA,Nat.reduceAdd,Nat.reduceEqDiff,reduceIte,reduceCtorEq,dq])
 .rw[if_neg AW];exact⟨rfl,trivial⟩
 .rw[if_neg AW];exact⟨rfl,trivial⟩
 .rw[if_pos AW];exact⟨rfl,trivial⟩
def Vb(x:o.Var)(v:B_)(l:C_ o.Scalar)(w:A_)(f:o.hC w v l) :
  EG F.MS #[.agg x.enc.toArray,v] w λv g=>v = .tuple #[.I (o.bounds x l).1,.I (o.bounds x l).2]/\Ext w g:=by
 obtain⟨k,m,rfl,n⟩:=f.form;refine bm E.MS ?_;refine a1 ?_;refine O_ λa b p c d=>?_;have bg:a.cell? (Addr.add ⟨b,0,none⟩ 1)=some (.I x.scalar):=gD d rfl;have h:a.cell? (Addr.add ⟨b,0,none⟩ 3)=some (.I x.aQ):=gD d rfl;have i:a.cell? (Addr.add ⟨b,0,none⟩ 4)=some (.I x.ab):=gD d rfl;refine a1 ?_;refine L_ bg ?_;refine a1 ?_;refine I_ (λe=>?_) (λe=>?_)
 .refine a1 ?_;refine L_ h ?_;refine a1 ?_;refine L_ i ?_;refine a1 ?_;intro q j;simp only[o.bounds,e,if_true];exact⟨trivial,c.trans j⟩
 .refine a1 ?_;refine L_ bg ?_;refine a1 ?_;refine J_ (Ew x.scalar _ l a (a4.ext o.jM.ext c f)) ?_;rintro _ _ ⟨rfl,rfl⟩;refine a1 ?_;simp only[o.bounds,e,if_false];exact⟨trivial,c⟩
def Ol(x:o.Var)(v:B_)(l:C_ o.Scalar)(w:A_)(c:o.hC w v l) :
  EG F.MT #[.agg x.enc.toArray,v] w λv e=>v = .I (o.cells x l)/\Ext w e:=by
 obtain⟨h,i,rfl,j⟩:=c.form;refine bm E.MT ?_;refine a1 ?_;refine O_ λd f k a g=>?_;have bj:d.cell? (Addr.add ⟨f,0,none⟩ 2)=some (.I x.over):=gD g rfl;refine a1 ?_;refine L_ bj ?_;refine a1 ?_;refine I_ (λb=>?_) (λb=>?_)
 .refine a1 ?_;simp only[o.cells,b,if_true];exact⟨trivial,a⟩
 .refine a1 ?_;refine L_ bj ?_;refine a1 ?_;refine J_ (Ew x.over _ l d (a4.ext o.jM.ext a c)) ?_;rintro _ _ ⟨rfl,rfl⟩;refine a1 ?_;simp only[o.cells,b,if_false];exact⟨trivial,a⟩
def agV(n:Int)(w:A_):EG F.D9 #[.int .u8 n] w λa b=>a = .bool (o.letter n)/\b=w:=by
 refine bm E.D9 ?_
 (repeat' first
  | (refine I_ (λ_=>?_) (λ_=>?_)<;>try (exfalso;omega))
  | (refine N_ (λ_=>?_) (λ_=>?_))
  | (refine Q_ AW ?_)
  | (refine L_ CW ?_)
  | (refine _b AW ?_)
  | simp -dsimp only[c8,cA,Nat.reduceAdd,Nat.reduceEqDiff,reduceIte,reduceCtorEq,dq])
 all_goals (refine⟨?_,by first | rfl | trivial⟩;congr 1;rw[AH4];simp[o.letter];omega)
def U9(n:Int)(w:A_):EG F.BV #[.int .u8 n] w λa b=>a = .bool (o.digit n)/\b=w:=by
 refine bm E.BV ?_
 (repeat' first
  | (refine I_ (λ_=>?_) (λ_=>?_)<;>try (exfalso;omega))
  | (refine N_ (λ_=>?_) (λ_=>?_))
  | (refine Q_ AW ?_)
  | (refine L_ CW ?_)
  | (refine _b AW ?_)
  | simp -dsimp only[c8,cA,Nat.reduceAdd,Nat.reduceEqDiff,reduceIte,reduceCtorEq,dq])
 all_goals (refine⟨?_,by first | rfl | trivial⟩;congr 1;rw[AH4];simp[o.digit];omega)
def yh:C_ ByteArray:=[⟨#[58,61]⟩,⟨#[61,61]⟩,⟨#[33,61]⟩,⟨#[60,61]⟩,⟨#[45,62]⟩,⟨#[38,38]⟩,⟨#[124,124]⟩,⟨#[61,62]⟩,⟨#[40]⟩,⟨#[41]⟩,⟨#[91]⟩,⟨#[93]⟩,⟨#[123]⟩,⟨#[125]⟩,⟨#[59]⟩,⟨#[44]⟩,⟨#[58]⟩,⟨#[46]⟩,⟨#[60]⟩,⟨#[43]⟩,⟨#[45]⟩,⟨#[42]⟩,⟨#[33]⟩,⟨#[63]⟩,⟨#[64]⟩]
def axv(w:A_):EG F.MD #[] w λc a=>(∃b,c = .slice (some ⟨b,0,none⟩) 25 25/\fx a ⟨b,0,none⟩ (yh.map Value.string))/\Ext w a:=by
 refine bm E.MD ?_;refine a1 ?_;refine _E (cs:=yh.map Value.string) (by simp[List.range,List.range.loop,gu,lay,dy,o8,bS,Value.cells,yh]) λg d h e f=>?_;refine a1 ?_;exact⟨⟨d,rfl,gP f⟩,e⟩
def aj8(s:ByteArray)(w:A_)(h:0<s.size)(Q:s.size<=16) :
  EG F.MC #[.string s,.I 0] w λJ m=>(∃C A:Int,J = .tuple #[.I C,.I A]/\if o.letter (o.uc s 0:Nat)=true then C=o.run o.part s/\A=1 else A≠1)/\Ext w m:=by
 refine bm E.MC ?_;refine a1 ?_;refine _c (s.get! 0) Ae (o.get?_eq s 0 h) ?_;refine a1 ?_;refine J_ (agV _ w) ?_;rintro _ w ⟨rfl,rfl⟩;refine a1 ?_;refine N_ (λa=>?_) (λa=>?_)
 .have y:o.letter (o.uc s 0:Nat)=true:=a;refine a1 ?_;refine Z_ (λi m => ∃c:Nat,c<=s.size/\i 6 = .I c/\(∀g (l:g<s.size),g<c->o.part s[g].toNat=true)/\m=w)
   (λi _=>(s.size - intOf (i 6)).toNat) ⟨0,AW,by refine a1 ?_;rfl,λ_ _ h=>absurd h (Og _),rfl⟩ ?_
  rintro i w j ⟨c,G,d,q,rfl⟩;have b:=j 0 rfl;have a:=j 1 rfl;simp only[bS,Nat.reduceAdd,Nat.reduceEqDiff,reduceIte,kK,oE] at b a;clear j;refine cg (i_ b (i_ a d)) ?_;refine I_ (λn=>?_) (λn=>?_)
  .have k:c<s.size:=AW
   refine cg (i_ b (i_ a d)) ?_;refine _c (s.get! c) AW (o.get?_eq s c k) ?_;rw[o.get_eq s c k];refine cg (i_ b (i_ a d)) ?_;refine J_ (agV _ _) ?_;rintro _ w ⟨rfl,rfl⟩;refine cg (i_ b (i_ a d)) ?_;refine N_ (λr=>?_) (λr=>?_)
   .refine cg (i_ b (i_ a d)) ?_;refine Q_ AW ?_;refine cg (i_ b (i_ a d)) ?_;refine⟨⟨c+1,AW,rfl,λg l H=>?_,trivial⟩,by simp[intOf];omega⟩;by_cases t:g<c
    .exact q g l t
    .have:g=c:=AW
     subst this;simp[o.part,r]
   refine cg (i_ b (i_ a d)) ?_;refine _c (s.get! c) AW (o.get?_eq s c k) ?_;rw[o.get_eq s c k];refine cg (i_ b (i_ a d)) ?_;refine J_ (U9 _ _) ?_;rintro _ w ⟨rfl,rfl⟩;refine cg (i_ b (i_ a d)) ?_;refine N_ (λp=>?_) (λp=>?_)
   .refine cg (i_ b (i_ a d)) ?_;refine Q_ AW ?_;refine cg (i_ b (i_ a d)) ?_;refine⟨⟨c+1,AW,rfl,λg l H=>?_,trivial⟩,by simp[intOf];omega⟩;by_cases t:g<c
    .exact q g l t
    .have:g=c:=AW
     subst this;simp[o.part,p]
   refine cg (i_ b (i_ a d)) ?_;refine _c (s.get! c) AW (o.get?_eq s c k) ?_;rw[o.get_eq s c k];refine cg (i_ b (i_ a d)) ?_;refine I_ (λK=>?_) (λK=>?_)
   .refine cg (i_ b (i_ a d)) ?_;refine Q_ AW ?_;refine cg (i_ b (i_ a d)) ?_;refine⟨⟨c+1,AW,rfl,λg l H=>?_,trivial⟩,by simp[intOf];omega⟩;by_cases t:g<c
    .exact q g l t
    .have:g=c:=AW
     subst this;simp[o.part];omega
   .refine cg (i_ b (i_ a d)) ?_;refine Q_ AW ?_;refine cg (i_ b (i_ a d)) ?_;refine⟨⟨_,_,rfl,?_⟩,Ext.refl _⟩;rw[if_pos y];rw[o.ahh o.part s c k (λg l=>q g AW l) (by simp only[o.part,r,p,Bool.false_or,decide_eq_false_iff_not];omega)];exact⟨AW,rfl⟩
  .refine cg (i_ b (i_ a d)) ?_;refine Q_ AW ?_;refine cg (i_ b (i_ a d)) ?_;refine⟨⟨_,_,rfl,?_⟩,Ext.refl _⟩;rw[if_pos y];rw[o.ag8 o.part s (λg l=>q g l AW)];exact⟨AW,rfl⟩
 have y:o.letter (o.uc s 0:Nat)=false:=a;have z:¬o.letter (o.uc s 0:Nat)=true:=by simp[y]
 refine a1 ?_;refine _c (s.get! 0) Ae (o.get?_eq s 0 h) ?_;refine a1 ?_;refine J_ (U9 _ w) ?_;rintro _ w ⟨rfl,rfl⟩;refine a1 ?_;refine N_ (λn=>?_) (λn=>?_)
 .refine a1 ?_;refine Z_ (λi m => ∃c:Nat,c<=s.size/\i 6 = .I c/\m=w)
   (λi _=>(s.size - intOf (i 6)).toNat) ⟨0,AW,by refine a1 ?_;rfl,rfl⟩ ?_
  rintro i w j ⟨c,G,d,rfl⟩;have b:=j 0 rfl;have a:=j 1 rfl;simp only[bS,Nat.reduceAdd,Nat.reduceEqDiff,reduceIte,kK,oE] at b a;clear j;refine cg (i_ b (i_ a d)) ?_;refine I_ (λn=>?_) (λn=>?_)
  .have k:c<s.size:=AW
   refine cg (i_ b (i_ a d)) ?_;refine _c (s.get! c) AW (o.get?_eq s c k) ?_;refine cg (i_ b (i_ a d)) ?_;refine J_ (U9 _ _) ?_;rintro _ w ⟨rfl,rfl⟩;refine cg (i_ b (i_ a d)) ?_;refine N_ (λp=>?_) (λp=>?_)
   .refine cg (i_ b (i_ a d)) ?_;refine Q_ AW ?_;refine cg (i_ b (i_ a d)) ?_;exact⟨⟨c+1,AW,rfl,trivial⟩,by simp[intOf];omega⟩
   .refine cg (i_ b (i_ a d)) ?_;refine Q_ AW ?_;refine cg (i_ b (i_ a d)) ?_;exact⟨⟨_,_,rfl,by rw[if_neg z];decide⟩,Ext.refl _⟩
  .refine cg (i_ b (i_ a d)) ?_;refine Q_ AW ?_;refine cg (i_ b (i_ a d)) ?_;exact⟨⟨_,_,rfl,by rw[if_neg z];decide⟩,Ext.refl _⟩
 refine a1 ?_;refine J_ (axv w) ?_;rintro _ L ⟨⟨M,rfl,N⟩,I⟩;refine a1 ?_;refine Z_ (λi m => ∃c:Nat,c<=25/\i 8 = .I c/\Ext L m)
  (λi _=>(25 - intOf (i 8)).toNat) ⟨0,AW,by refine a1 ?_;rfl,Ext.refl _⟩ ?_
 rintro i m j ⟨c,G,f,u⟩;have b:=j 0 rfl;have a:=j 1 rfl;have e:=j 7 rfl;simp only[bS,Nat.reduceAdd,Nat.reduceEqDiff,reduceIte,kK,oE] at b a e;clear j;refine cg (i_ b (i_ a (i_ e f))) ?_;refine I_ (λn=>?_) (λn=>?_)
 .have k:c<yh.length:=by simp[yh];omega
  have v:m.cell? (Addr.add ⟨M,0,none⟩ (c*1))=some (.string yh[c]):=by
   rw[AH5];exact N.ext u c _ (by rw[List.getElem?_map,List.getElem?_eq_getElem k];rfl)
  have O:yh[c].size<=2:=by
   have:∀B∈yh,B.size<=2:=Ae
   exact this _ (ID _)
  generalize yh[c]=B at v O;refine cg (i_ b (i_ a (i_ e f))) ?_;refine Q_ AW ?_;refine cg (i_ b (i_ a (i_ e f))) ?_;refine M_ c rfl AW ?_;refine cg (i_ b (i_ a (i_ e f))) ?_;refine L_ v ?_;refine cg (i_ b (i_ a (i_ e f))) ?_;refine I_ (λr=>?_) (λr=>?_)
  .refine cg (i_ b (i_ a (i_ e f))) ?_;refine M_ c rfl AW ?_;refine cg (i_ b (i_ a (i_ e f))) ?_;refine L_ v ?_;refine cg (i_ b (i_ a (i_ e f))) ?_;refine Q_ AW ?_;refine cg (i_ b (i_ a (i_ e f))) ?_;refine AB4 0 B.size (by simp[fb,dy,bS,a]) (by simp[fb,dy,bS,a]) AW ?_;refine cg (i_ b (i_ a (i_ e f))) ?_;refine M_ c rfl AW ?_;refine cg (i_ b (i_ a (i_ e f))) ?_;refine L_ v ?_;refine cg (i_ b (i_ a (i_ e f))) ?_;intro P x;refine I_ (λp=>?_) (λp=>?_)
   .refine cg (i_ b (i_ a (i_ e f))) ?_;refine M_ c rfl AW ?_;refine cg (i_ b (i_ a (i_ e f))) ?_;refine L_ (x.cell v) ?_;refine cg (i_ b (i_ a (i_ e f))) ?_;exact⟨⟨_,_,rfl,by rw[if_neg z];decide⟩,I.trans (u.trans x)⟩
   .refine cg (i_ b (i_ a (i_ e f))) ?_;refine Q_ AW ?_;refine cg (i_ b (i_ a (i_ e f))) ?_;exact⟨⟨c+1,AW,rfl,u.trans x⟩,by simp[intOf];omega⟩
  .refine cg (i_ b (i_ a (i_ e f))) ?_;intro P x;refine Q_ AW ?_;refine cg (i_ b (i_ a (i_ e f))) ?_;exact⟨⟨c+1,AW,rfl,u.trans x⟩,by simp[intOf];omega⟩
 .refine cg (i_ b (i_ a (i_ e f))) ?_;exact⟨⟨_,_,rfl,by rw[if_neg z];decide⟩,I.trans u⟩
def Ez(s:ByteArray)(w:A_)(u:s.size<=9223372036854775807):EG F.MB #[.string s] w λl m=>l = .bool (o.isName s)/\Ext w m:=by
 refine bm E.MB ?_;refine a1 ?_;refine I_ (λd=>?_) (λd=>?_)
 .refine a1 ?_;refine⟨?_,Ext.refl w⟩;subst d;rfl
 have n:s.size≠0:=λp=>d (by
  cases s with | mk q =>
  have:q=#[]:=by simpa[ByteArray.size] using p
  rw[this])
 refine a1 ?_;refine I_ (λr=>?_) (λr=>?_)
 .refine a1 ?_;refine⟨?_,Ext.refl w⟩
  have:¬s.size<=16:=AW
  simp[o.isName,this]
 have j:s.size<=16:=AW
 refine a1 ?_;refine I_ (λe=>?_) (λe=>?_)
 .refine a1 ?_;exact⟨by subst e;exact congrArg Value.bool (by decide +kernel),Ext.refl w⟩
 refine a1 ?_;refine I_ (λf=>?_) (λf=>?_)
 .refine a1 ?_;exact⟨by subst f;exact congrArg Value.bool (by decide +kernel),Ext.refl w⟩
 refine a1 ?_;refine I_ (λg=>?_) (λg=>?_)
 .refine a1 ?_;exact⟨by subst g;exact congrArg Value.bool (by decide +kernel),Ext.refl w⟩
 refine a1 ?_;refine I_ (λh=>?_) (λh=>?_)
 .refine a1 ?_;exact⟨by subst h;exact congrArg Value.bool (by decide +kernel),Ext.refl w⟩
 have t:s∉o.sL:=by simp[o.sL,e,f,g,h]
 refine a1 ?_;refine J_ (aj8 s w AW j) ?_;rintro _ v ⟨⟨x,y,rfl,a⟩,k⟩;refine a1 ?_;refine I_ (λi=>?_) (λi=>?_)
 .refine a1 ?_;refine⟨?_,k⟩;have c:o.letter (o.uc s 0:Nat)=true:=by
   by_cases b:o.letter (o.uc s 0:Nat)=true
   .exact b
   .rw[if_neg b] at a;exact absurd i a
  rw[if_pos c] at a;congr 1;simp[o.isName,c,n,j,t,a.1];omega
 .refine a1 ?_;refine⟨?_,k⟩;have c:o.letter (o.uc s 0:Nat)=false:=by
   by_cases b:o.letter (o.uc s 0:Nat)=true
   .rw[if_pos b] at a;exact absurd a.2 i
   .simpa using b
  simp[o.isName,c]
def AZ{fR:Int}{a:Nat->ByteArray}{mo:Nat->Int}{i:Nat}(h:fR<=i):o.err fR a mo i=11:=by rw[o.err,if_pos h]
def Dh{fR:Int}{a:Nat->ByteArray}{mo:Nat->Int}{i:Nat}(h:¬fR<=i)(b:o.isName (a i)=false):o.err fR a mo i=6:=by rw[o.err,if_neg h,if_pos b]
def Q3{fR:Int}{a:Nat->ByteArray}{mo:Nat->Int}{i j:Nat}(h:¬fR<=i)(b:o.isName (a i)=true)(c:j<i)(d:a j=a i):o.err fR a mo i=7:=by
 rw[o.err,if_neg h,if_neg (by simp[b]),if_pos ⟨j,c,d⟩]
def Q2{fR:Int}{a:Nat->ByteArray}{mo:Nat->Int}{i:Nat}(h:¬fR<=i)(c:o.isName (a i)=true)(d:∀b,b<i->a b≠a i):o.err fR a mo i=mo i:=by
 rw[o.err,if_neg h,if_neg (by simp[c]),if_neg (λ⟨b,e,c⟩=>d b e c)]
def afk{fR:Int}{b:Nat->ByteArray}{mo:Nat->Int}{i:Nat}(d:0<=fR)(h:∀a,a<i->o.err fR b mo a=0):(i:Int)<=fR:=by
 by_cases c:(i:Int)<=fR
 .exact c
 .have:=h fR.toNat AW
  rw[AZ AW] at this;cases this
def awv(v:B_)(l:C_ o.Scalar)(w:A_)(s:o.hC w v l) :
  EG F.MV #[v] w λv m=>v = .tuple #[.I (o.scalars l).1,.I (o.scalars l).2]/\Ext w m:=by
 obtain⟨Y,Z,rfl,ab⟩:=s.form;refine bm E.MV ?_;simp -dsimp only[c8,cA,Nat.reduceAdd,Nat.reduceEqDiff,reduceIte,reduceCtorEq,dq];refine Z_ (λn m => ∃c:Nat,c<=l.length/\n 4 = .I c/\(∀e,e<c->o.err 2 (o.nameAt (·.name) l) (o.u7 l) e=0)/\Ext w m)
  (λn _=>(l.length - intOf (n 4)).toNat) ⟨0,AW,by simp -dsimp only[c8,cA,Nat.reduceAdd,Nat.reduceEqDiff,reduceIte,reduceCtorEq,dq];rfl,λ_ z=>absurd z (Og _),Ext.refl _⟩ ?_
 rintro n m I ⟨c,ae,b,i,p⟩;have a:=I 0 rfl;simp only[bS,Nat.reduceAdd,Nat.reduceEqDiff,reduceIte,kK,oE] at a;clear I;have af:=afk AW i;refine cg (i_ a b) ?_;apply I_<;>intro ag;rotate_left
 .refine cg (i_ a b) ?_;rw[o.scalars,o.qv (λe A=>i e AW)];exact⟨rfl,p⟩
 have f:c<l.length:=AW
 obtain⟨ah,rfl⟩:=s.addr;have j:=a4.ext o.jM.ext p s;have B:=(j.at c f).cells 0 _ rfl;have t:=(j.at c f).cells 1 _ rfl;have P:o.kq l[c].name:=(j.at c f).ok;have u:o.nameAt (λk:o.Scalar=>k.name) l c=l[c].name:=tG _ _ _ f;refine cg (i_ a b) ?_;apply I_<;>intro ai
 .refine cg (i_ a b) ?_;rw[o.scalars,o.kd f i (by rw[AZ AW];decide),AZ AW];exact⟨rfl,p⟩
 have x:¬(2:Int)<=(c:Int):=AW
 refine cg (i_ a b) ?_;refine M_ c rfl f ?_;refine cg (i_ a b) ?_;refine L_ B ?_;refine cg (i_ a b) ?_;refine J_ (Ez _ _ P) ?_;rintro _ aj ⟨rfl,y⟩;refine cg (i_ a b) ?_;refine N_ (λr=>?_) (λr=>?_);rotate_left
 .refine cg (i_ a b) ?_;rw[<-u] at r;rw[o.scalars,o.kd f i (by rw[Dh x r];decide),Dh x r];exact⟨rfl,p.trans y⟩
 have C:=r;rw[<-u] at C;replace y:=p.trans y;clear p j;refine cg (i_ a b) ?_;refine Z_ (λQ m => ∃g:Nat,g<=c/\Q 5 = .I g/\(∀e,e<g->o.nameAt (λk:o.Scalar=>k.name) l e≠o.nameAt (λk:o.Scalar=>k.name) l c)/\Ext w m)
  (λn _=>(c - intOf (n 5)).toNat) ⟨0,AW,by simp -dsimp only[c8,cA,Nat.reduceAdd,Nat.reduceEqDiff,reduceIte,reduceCtorEq,dq];rfl,λ_ z=>absurd z (Og _),y⟩ ?_
 rintro ak al G ⟨g,an,d,J,q⟩;have S:=a;have K:=b;have a:=G 0 rfl;have b:=G 4 rfl;simp only[bS,Nat.reduceAdd,Nat.reduceEqDiff,reduceIte,kK,oE] at a b;clear G;rw[S] at a;rw[K] at b;have j:=a4.ext o.jM.ext q s;have B:=(j.at c f).cells 0 _ rfl;have t:=(j.at c f).cells 1 _ rfl;refine cg (i_ a (i_ b d)) ?_;apply I_<;>intro ao
 .have H:g<l.length:=AW
  have U:=(j.at g H).cells 0 _ rfl;have L:o.nameAt (λk:o.Scalar=>k.name) l g=l[g].name:=tG _ _ _ H;refine cg (i_ a (i_ b d)) ?_;refine M_ g rfl H ?_;refine cg (i_ a (i_ b d)) ?_;refine L_ U ?_;refine cg (i_ a (i_ b d)) ?_;refine M_ c rfl f ?_;refine cg (i_ a (i_ b d)) ?_;refine L_ B ?_;refine cg (i_ a (i_ b d)) ?_;intro aq M;apply I_<;>intro N
  .refine cg (i_ a (i_ b d)) ?_;have O:=Q3 (mo:=o.u7 l) x C (show g<c by omega) (by rw[L,u];exact N);rw[o.scalars,o.kd f i (by rw[O];decide),O];exact⟨rfl,q.trans M⟩
  .refine cg (i_ a (i_ b d)) ?_;refine Q_ AW ?_;refine cg (i_ a (i_ b d)) ?_;refine⟨⟨g+1,AW,rfl,λe A=>?_,q.trans M⟩,by simp[intOf];omega⟩;by_cases V:e<g
   .exact J e V
   .have:e=g:=AW
    subst this;rw[L,u];exact N
 have h:=Q2 (mo:=o.u7 l) x C (λe A=>J e AW);have W:o.u7 l c=if 1<=l[c].size/\l[c].size<=4 then 0 else 10:=by simp[o.u7,f]
 rw[W] at h;generalize l[c].size=ar at t h;refine cg (i_ a (i_ b d)) ?_;refine M_ c rfl f ?_;refine cg (i_ a (i_ b d)) ?_;refine L_ t ?_;refine cg (i_ a (i_ b d)) ?_;apply I_<;>intro au
 .refine cg (i_ a (i_ b d)) ?_;rw[if_neg AW] at h;rw[o.scalars,o.kd f i (by rw[h];decide),h];exact⟨rfl,q⟩
 refine cg (i_ a (i_ b d)) ?_;refine M_ c rfl f ?_;refine cg (i_ a (i_ b d)) ?_;refine L_ t ?_;refine cg (i_ a (i_ b d)) ?_;apply I_<;>intro av
 .refine cg (i_ a (i_ b d)) ?_;rw[if_neg AW] at h;rw[o.scalars,o.kd f i (by rw[h];decide),h];exact⟨rfl,q⟩
 .refine cg (i_ a (i_ b d)) ?_;rw[if_pos AW] at h;refine Q_ AW ?_;refine cg (i_ a (i_ b d)) ?_;refine⟨⟨c+1,AW,rfl,λe A=>?_,q⟩,by simp[intOf,K];omega⟩;by_cases X:e<c
  .exact i e X
  .have:e=c:=AW
   subst this;exact h
end Go.Proofs.R