/- Parts. -/
import Derived.Test.YtlhljkikdhblbaaGreatDoorQsmq
set_option linter.all false
set_option maxRecDepth 4000
set_option maxHeartbeats 16000000
namespace o
open Go
def cR.enc(x:cR):C_ B_:=[.int .i64 x.cmd,.int .i64 x.eH]
theorem cR.one:∀(a:cR),∀b∈a.enc,b.oneCell'=true:=by
 intro a b c;simp[cR.enc] at c;rcases c with rfl | rfl<;>rfl
def azg(c:ew)(l:C_ eb):1<=ways c l:=by
 unfold ways;split
 .split
  .split<;>omega
  .omega
 .omega
def AA.end_{m:Model}{s:C_ Int}{x:jE}{q p k:Nat}{c:C_ Int}(h:AA m s x q p k c):0<=x.eH/\x.eH<ways (cT m p k) m.aA/\(k3 m s q (cT m p k))[x.eH.toNat]? = some x.to:=by
 have e:=azg (cT m p k) m.aA;unfold k3;rw[h.aa0];rcases h.aiD with ⟨a,b⟩ | ⟨a,b,d⟩
 .rw[a,b];exact⟨AY,AY,rfl⟩
 .rw[a,b,d];exact⟨AY,AY,rfl⟩
end o
namespace Go.Proofs.R
open Go Go.RowKit ba o
attribute [local irreducible] ep bF o.insts o.refs jA fH ek
def anz(cs:C_ B_)(v:B_)(m:o.Model)(s:C_ Int)(x:jE)(q p k:Nat)(t:C_ Int)(w:A_)(h:dU w cs m)(N:m.cB)(O:gi w)(d:cl w v s)(y:hH m s)(z:AA m s x q p k t) :
  EL F.Km #[.agg cs.toArray,v,.I x.cmd,.I x.eH] w λA B=>(∃C,A = .tuple #[C,.I 0]/\ft w.heap.size B C x.to)/\Ext w B:=by
 have P:=h;obtain⟨aD,aE,aF,bg,aG,bj,aH,aI,aJ,aK,rfl,_,_,Q,_⟩:=h.form;obtain⟨aL,aP,rfl,_⟩:=d.form;have e:=z.at_;obtain⟨aQ,aR,S⟩:=z.end_;have G:=e.told;refine bn E.Km ?_;refine aa ?_;intro U aS aU b V;refine aa ?_;refine J_ (abz _ _ m s U (P.ext b) N (O.ext b) (d.ext Flat.ext b)) ?_;rintro _ aX ⟨W,H⟩;have X:=b.trans H;rcases W with ⟨_,f,rfl,Y⟩ | ⟨Z,_⟩
 rotate_left
 .exact absurd y Z
 have ab:=H.obj V;refine aa ?_;intro ae g;have aY:=g.obj ab;have i:=Y.ext g;have af:=X.trans g;refine aa ?_;refine J_ (anS f m x.cmd ae i) ?_;rintro _ ag ⟨⟨aZ,rfl,ah⟩,a⟩;refine⟨a,?_⟩;have ai:=ah.2 ⟨G.2.1,G.2.2⟩;subst ai;have aj:=af.trans a;refine aa ?_;refine J_ (Rr f m x.cmd q p k ag (i.ext a) e) ?_;rintro _ ak ⟨⟨a0,a1,a3,a5,rfl,a7,al⟩,c⟩;refine⟨a.trans c,?_⟩;have I:=aj.trans c;refine aa ?_;refine J_ (ai6 (cT m p k) _ _ _ m.aA ak (al.ext c) (Q.ext I)) ?_;rintro _ an ⟨rfl,J⟩;have j:=I.trans J;have ao:=i.ext ((a.trans c).trans J);refine aa ?_;refine J_ (abP f _ m s x.cmd q p k an ao (d.ext Flat.ext j) y.2 e) ?_;rintro A K ⟨⟨aq,l⟩,ar⟩;have au:=j.trans ar;have n:=aT.im iZ l.row;have a8:=l.len;have av:=n.form;obtain⟨a9,bb,rfl,_⟩:=av;have r:=List.getElem?_eq_some_iff.1 S;obtain⟨aw,r⟩:=r;have ax:=l.at_ x.eH.toNat AY aw;obtain⟨bf,bk,ay,az⟩:=ax;have aB:=n.addr;obtain⟨aC,rfl⟩:=aB;have L:fy K (aC.add (x.eH.toNat*1)) (aq[x.eH.toNat]' AY).1:=a6.at n x.eH.toNat AY;rw[ay] at L;have u:=L 0 _ rfl;rw[add_zero] at u;have M:ft w.heap.size K _ _:=aT.low j.size az;rw[r] at M u;refine aa ?_;refine M_ x.eH.toNat ?_ ?_ ?_
 .omega
 .omega
 refine aa ?_;refine L_ u ?_;refine aa ?_;exact⟨⟨_,aV,M⟩,au⟩
def avT(b:Nat)(v:B_)(m:o.Model)(c:C_ Int)(x:cR)(w:A_)(h:nH w b m)(X:m.cB)(Y:gi w)(r:(o.check m).bK=0)(Z:cl w v c)(y:o.Fits m c) :
  EL F.Kb #[.pointer (some ⟨b,0,none⟩),v,.agg x.enc.toArray] w λg n=>((wu m c x=none/\g = .tuple #[.slice none 0 0,.bool false])\/(∃p z A,wu m c x=some p/\g = .tuple #[.slice z p.length A,.bool true]/\cl n (.slice z p.length A) p))/\Ext w n:=by
 have ab:=h;obtain⟨aL,ae,B⟩:=h;obtain⟨af,ag,ah,ai,aj,ak,al,an,ao,aq,aP,aQ,aR,aS,aU,aX,aY,aZ,a0,a1,rfl,C,_⟩:=B.ex;clear B;have ar:hH m c:=⟨r,y⟩;unfold wu lG cR.enc;refine bn E.Kb ?_;refine aa ?_;intro au a3 a5 i G;have H:=i.obj ae;refine aa ?_;refine _U [.slice af m.scalars.length ag,.slice ah m.vars.length ai,.slice aj m.aA.length ak,.slice al m.procs.length an,.slice ao m.props.length aq] H rfl rfl ?_;refine aa ?_;refine J_ (anJ _ _ m c au (C.ext i) X (Y.ext i) (Z.ext Flat.ext i)) ?_;rintro g I ⟨q,J⟩;have K:a6 3 sO I g (ek m c):=by
  rcases q with ⟨_,h⟩ | ⟨h,_⟩
  .exact h.im
  .exact absurd ar h
 have L:=K.form;obtain⟨a7,a8,rfl,L⟩:=L;have av:=J.obj G;have aw:=i.trans J;clear q H G C;obtain⟨e,s⟩:∃e:jE->Bool,e=λM=>decide (M.cmd=x.cmd/\M.eH=x.eH):=⟨_,rfl⟩;rw[<-s];refine aa ?_;refine K_ 17 (ek m c).length [0,5,15,16] (λ_:Unit=>[]) () (λa _ n=>((ek m c).drop a).find? e=(ek m c).find? e/\Ext I n) aW aW ⟨rfl,Ext.refl _⟩ ?_;rintro a - a9 ax bb ⟨f,j⟩;have N:=j.obj av;have O:=aw.trans j;have t:=a6.ext (R:=sO) (λ_ _ _ _ ay h=>sO.ext ay h) j K;refine aa ?_;apply I_<;>intro bf;rotate_left
 .rw[VQ AY] at f;rw[<-f];refine aa ?_;exact⟨.inl ⟨rfl,aV⟩,O⟩
 have d:a<(ek m c).length:=AY
 rw[AG0 d,List.find?_cons] at f;have q:=t.addr;obtain⟨az,rfl⟩:=q;have aB:sO ax (az.add (a*3)) ((ek m c)[a]'d):=a6.at t a d;obtain⟨bk,aC,P⟩:=aB;have aD:=P.form;obtain⟨bl,bo,rfl,_⟩:=aD;clear t;refine aa ?_;intro aE bp bq k bt;have bu:=k.obj N;have Q:=O.trans k;have aF:=Ob r y (FA d);have l:e ((ek m c)[a]'d)=true↔((ek m c)[a]'d).cmd=x.cmd/\((ek m c)[a]'d).eH=x.eH:=by rw[s,decide_eq_true_eq]
 have S:e ((ek m c)[a]'d)=true\/e ((ek m c)[a]'d)=false:=by cases e ((ek m c)[a]'d)<;>simp
 replace l:=i_ l trivial;clear N aC s;refine aa ?_;apply I_<;>intro U;rotate_left
 .have u:e ((ek m c)[a]'d)=false:=S.resolve_left λh=>U (l.1.1 h).1;rw[u] at f;refine aa ?_;exact⟨d,aV,(),trivial,f,j.trans k⟩
 refine aa ?_;apply I_<;>intro V;rotate_left
 .have u:e ((ek m c)[a]'d)=false:=S.resolve_left λh=>V (l.1.1 h).2;rw[u] at f;refine aa ?_;exact⟨d,aV,(),trivial,f,j.trans k⟩
 have aG:e ((ek m c)[a]'d)=true:=l.1.2 ⟨U,V⟩;rw[aG] at f;rw[<-f];refine aa ?_;refine J_ (Ou b _ m ((ek m c)[a]'d).to aE (ab.ext Q) r (P.ext Flat.ext k) aF) ?_;rintro g bw ⟨W,aH⟩;have aI:=W.form;obtain⟨aJ,aK,rfl,_⟩:=aI;refine aa ?_;exact⟨.inr ⟨_,aJ,aK,rfl,aV,W⟩,Q.trans aH⟩
def agB(b:Nat)(v x:B_)(m:o.Model)(c:C_ Int)(l:C_ cR)(w:A_)(h:nH w b m)(I:m.cB)(J:gi w)(j:(o.check m).bK=0)(y:cl w v c)(K:o.Fits m c)(k:a6 2 (Flat cR.enc) w x l) :
  EL F.gr #[.pointer (some ⟨b,0,none⟩),v,x] w λz i=>((gE m l c=none/\z = .tuple #[.slice none 0 0,.bool false])\/(∃a A B,gE m l c=some a/\o.Fits m a/\z = .tuple #[.slice A a.length B,.bool true]/\cl i (.slice A a.length B) a))/\Ext w i:=by
 obtain⟨L,M,rfl,_⟩:=y.form;obtain⟨ab,ae,rfl,af⟩:=k.form;refine bn E.gr ?_;refine aa ?_;refine K_ 14 l.length [0,2,12,13] (λd:ez=>[(1,.slice d.1 d.2.1 d.2.2)]) (L,c.length,M) (λe d i=>(∃a,gE m (l.drop e) a=gE m l c/\o.Fits m a/\d.2.1=a.length/\cl i (.slice d.1 d.2.1 d.2.2) a)/\Ext w i) aW aW ⟨⟨c,rfl,K,rfl,y⟩,Ext.refl _⟩ ?_;rintro e ⟨N,ag,bg⟩ ah O ai ⟨⟨a,f,n,C,p⟩,q⟩;dsimp only at C p;subst C;have r:=k.ext Flat.ext q;refine aa ?_;apply I_<;>intro aj;rotate_left
 .rw[VQ AY] at f;refine aa ?_;exact⟨.inr ⟨a,N,bg,f.symm,n,aV,p⟩,q⟩
 have g:e<l.length:=AY
 rw[AG0 g,gE] at f;have s:=r.addr;obtain⟨P,rfl⟩:=s;have ak:fy O (P.add (e*2)) [.I (l[e]'g).cmd,.I (l[e]'g).eH]:=a6.at r e g;clear r k;refine aa ?_;intro Q al an G ao;have t:=q.trans G;refine aa ?_;refine J_ (avT b _ m a (l[e]'g) Q (h.ext t) I (J.ext t) j (p.ext Flat.ext G) n) ?_;rintro _ aq ⟨s,S⟩;have H:=t.trans S;rcases s with ⟨U,rfl⟩ | ⟨d2,V,bj,u,rfl,W⟩
 .rw[U] at f;refine aa ?_;exact⟨.inl ⟨f.symm,aV⟩,H⟩
 .rw[u] at f;have X:o.Fits m d2:=by
   unfold wu at u;obtain⟨ar,Y,Z⟩:=Option.map_eq_some_iff.1 u;rw[<-Z];exact aam j (VZ j n Y)
  refine aa ?_;exact⟨g,aV,(V,_,bj),aW,⟨d2,f,X,rfl,W⟩,H⟩
def tH(b:Nat)(c:A_)(i:Nat):Prop:=b<=i/\∀d a e,c.heap[i]? = some (.cells d a e)->a≠T.a
def tH.low{c:Nat}{A:Nat->Prop}{b d:A_}(m:Mod A b d)(h:∀a,a<b.heap.size->A a->tH c b a):∀a,a<b.heap.size->tH c d a->tH c b a:=λa e f=>by
 by_cases g:A a
 .exact h a e g
 .exact⟨f.1,λi j k l=>f.2 i j k ((m.block a e g).trans l)⟩
def ji(b:Nat)(a:A_)(v:B_)(l:C_ Int):Prop:=gJ (tH b a) (λa=>cl a v l) a
def ji.qN{b:Nat}{a:A_}{v:B_}{l:C_ Int}(h:ji b a v l):cl a v l:=gJ.here h
def ji.move{b:Nat}{A:Nat->Prop}{a d:A_}{v:B_}{l:C_ Int}(h:ji b a v l)(m:Mod A a d)(e:∀c,c<a.heap.size->A c->tH b a c):ji b d v l:=gJ.move h m e (tH.low m e)
theorem ji.ext{a:Nat}{b c:A_}{v:B_}{l:C_ Int}(h:ji a b v l)(e:Ext b c):ji a c v l:=h.move (A:=λ_=>False) e.mod λ_ _ d=>d.elim
def ji.own{b base:Nat}{a:A_}{v:B_}{l:C_ Int}(h:ft base a v l):ji b a v l:=λi c=>ha (aT.mod h c λd e f=>by
 obtain⟨j,g⟩:=aT.b0 h d e;exact f.2 _ _ _ g rfl)
def avC{g:Nat}(b:Nat)(v:B_)(m:o.Model)(s t:C_ Int)(x:cR)(w:A_)(h:nH w b m)(aE:m.cB)(aF:gi w)(a:(o.check m).bK=0)(A:ji g w v s)(bN:g<=w.heap.size)(c:o.Fits m s)(aG:lG m (fb m s) x=some t) :
  EL F.dl #[.pointer (some ⟨b,0,none⟩),v,.agg x.enc.toArray] w λd B=>(∃C G,d = .tuple #[.agg #[.I (k1 m s x).cmd,.I (k1 m s x).eH],.slice C (p7 m s (k1 m s x)).length G]/\ji g B (.slice C (p7 m s (k1 m s x)).length G) (p7 m s (k1 m s x)))/\Ext w B:=by
 have i:=A.qN;have H:=h;obtain⟨bO,I,J⟩:=h;obtain⟨aH,aI,aJ,aK,aL,aP,aQ,aR,aS,aU,bQ,bU,bV,bW,bX,bY,b0,b1,b3,b4,rfl,aX,_⟩:=J.ex;clear J;obtain⟨aY,aZ,rfl,b5⟩:=i.form;have a0:=jX a;have a1:hH m s:=⟨a,c⟩;have a3:=Qz a c aG;obtain⟨d,K,L,b6,b8,b9,a5⟩:=a3;obtain⟨M,ca⟩:=QP a c.len;unfold cR.enc;refine bn E.dl ?_;refine aa ?_;intro cb cc ch N j;refine aa ?_;intro cj cm cp k O;have P:=k.obj j;have l:=N.trans k;have cq:=N.size;have cr:=k.size;have ct:=cf j;have cu:=cf I;clear j;refine aa ?_;apply I_<;>intro Q
 .have n:k1 m s x=x:=by unfold k1;rw[if_pos Q]
  have a7:p7 m s x=s:=by unfold p7;rw[if_pos Q]
  rw[n,a7];refine aa ?_;intro S U cv;refine aa ?_;exact⟨⟨aY,aZ,aV,A.ext (U.ext l AY)⟩,U.ext l AY⟩
 have p:=a5 AY;obtain⟨a8,V,cw,W,cx,X,n⟩:=p;have a9:=X.g;rw[n] at K L ⊢;have bb:0<=x.cmd/\x.cmd<(o.refs m).length:=by
  obtain⟨cy,_⟩:=X.at_;omega
 refine aa ?_;intro S q;have Y:=q.obj P;have Z:=q.obj O;have r:=l.trans q;refine aa ?_;refine J_ (avD b _ m s S (H.ext r) a (i.ext Flat.ext r) c) ?_;rintro bf bk ⟨bl,u⟩;refine⟨u,?_⟩;have bo:=r.trans u;refine aa ?_;refine J_ (avB bf m.scalars _ bk a0 M bl) ?_;rintro ab ae ⟨bp,af⟩;have bq:gS ae ab (l1 (vx m s)):=bp.im;have ag:=u.trans af;refine⟨ag,?_⟩;have ah:=bo.trans af;refine aa ?_;refine J_ (agM b ab m (l1 (vx m s)) x.cmd ae (H.ext ah) a (x5 M) bq) ?_;rintro _ cz ⟨p,ai⟩;rcases p with ⟨bt,_⟩ | ⟨_,rfl⟩
 .exact absurd bb bt
 have bu:=ah.trans ai;have aj:=ag.trans ai;have bw:=aj.obj Y;have ak:=aj.obj Z;rw[show Aa m (gK (l1 (vx m s))) x.cmd.toNat=(a8:Int) from a9];refine aa ?_;intro cB al an;have ao:=al.ext bu AY;have aq:=al.obj ak AY;have ar:=ao.obj I;clear P O Y Z bw ak;obtain⟨au,bx,av,aw,bz⟩:=V1 K;simp only at av aw;have bA:∃V W bB d,AA m s au V W bB d:=by
  rcases Oc a bx with ⟨ax,_,_⟩ | ax
  .omega
  .exact ax
 obtain⟨bC,bD,bE,bG,bH⟩:=bA;refine aa ?_;intro bI e;have f:=ao.trans e;have ay:=e.obj an;have y:=e.obj aq;have az:=e.obj ar;clear an aq ar;refine aa ?_;refine _U [.slice aH m.scalars.length aI,.slice aJ m.vars.length aK,.slice aL m.aA.length aP,.slice aQ m.procs.length aR,.slice aS m.props.length aU] az rfl rfl ?_;refine aa ?_;have aB:=anz _ _ m s au bC bD bE bG bI (aX.ext f) aE (aF.ext f) (i.ext Flat.ext f) a1 bH;rw[av,aw,bz] at aB;refine J_ aB ?_;rintro _ cE ⟨⟨cF,rfl,aC⟩,z⟩;have bJ:=cf y;have bK:=(ha aC).form;obtain⟨cG,cI,rfl,_⟩:=bK;have bL:=f.trans z;have cK:=z.obj ay;have cL:=z.obj y;clear ay y az;rw[L];refine aa ?_;intro cM aD cN;have bM:=aD.ext bL AY;refine aa ?_;exact⟨⟨_,_,aV,ji.own (aT.wr aD bJ aC)⟩,bM⟩
end Go.Proofs.R
namespace ba
open Go Go.RowKit
section
variable{P:Program}{S:Fr}{w:World}
def gm.axm{α:Type}{enc:α->B_}{g:G_}{p:Nat}{a b:fg}{Q:H_ Nat->fI->Fr->A_->Prop}{j:Nat}{n:Array B_}{g2:A_->A_->Prop}{q u:C_ α->Prop}{r:Nat}{w0:A_}
  (y:br S g = .func (.func j) #[] n)(z:okF P j=true)(A:SeqStopsK Fence.wide 0 P j n (λe=>#[enc e]) g2 q u r w0)(B:Ext w0 w)(C:Aw g2 w.heap.size)
  (cJ k:C_ α->A_->Prop)(G:OwnFrom w.heap.size cJ)(H:OwnFrom w.heap.size k)(I:cJ [] w)
  (J:∀pre e c,cJ pre c->pre.length<r->e5 P a (jY (λv g3=>KeepsFrom w.heap.size c g3/\g2 c g3/\∀eT,wY w.heap.size g3 eT ->
   e5 P b (jY (λ_ f=>KeepsFrom w.heap.size eT f/\g2 eT f/\cJ (pre++[e]) f) (λd _ f=>d = .ret/\KeepsFrom w.heap.size eT f/\k (pre++[e]) f) ⟨⟩) v eT ⟨⟩) (λ_ _ _=>False) ⟨⟩) (cC S p (enc e)) c ⟨⟩)
  (K:∀D h c,w.heap.size<=D->q h->cJ h c->c.heap[D]? = some (.deferred (some []))->Q (some D) .normal S c)
  (L:∀D h c,w.heap.size<=D->k h c->c.heap[D]? = some (.deferred (some []))->Q (some D) .ret S c):qY P (.sE g p a b) Q S w:=by
 refine⟨α,enc,j,n,0,True,g2,λ_ _=>True,q,u,r,w0,y,z,yV.of A,AG6 _,B,C,cJ,λd h c=>d = .ret/\k h c,G,λd M N O U x V s=>⟨x.1,H M N O U x.2 V s⟩,λ_ _ _ _=>trivial,I,λpre e c t _ W=>?_,K,λD d pre c _ X _ l Y=>?_⟩
 .have l:=J pre e c t W;unfold e5 jY at l;refine rM a _ _ _ c (λd v g3 _ m=>?_) l;cases d with
  | normal =>
   obtain⟨Z,ab,ae⟩:=m;refine⟨Z,ab,λeT s=>?_⟩;have af:=ae eT s;refine rM b _ _ _ eT (λd ag iX _ i=>?_) af;cases d with
   | normal=>exact i
   | exit _=>exact absurd i.1 Ah
   | ret=>exact⟨i.2.1,rfl,i.2.2⟩
   | h2 _=>exact absurd i.1 Ah
  | exit _=>exact m.elim
  | ret=>exact m.elim
  | h2 _=>exact m.elim
 .obtain⟨rfl,t⟩:=l;exact L D pre c X t Y
end
end ba
namespace ba
open Go Go.RowKit
def HJ{A B:A_}{row:H_ Nat}{e k:Nat}{c:Array B_}{t:F_}(f:A.grownBy B row)(g:∀b,row=some b->e<=b/\∃d:Obj,A.heap[b]? = some d/\d.isCells=false)(h:A.heap[k]? = some (.cells c t)):B.heap[k]? = some (.cells c t) :=
 (f.block k (cf h) λi=>by
  obtain⟨d,a,j⟩:=(g k i.symm).2;rw[h] at a;injection a with a
  subst a;cases j).trans h
end ba
namespace Go.Proofs.R
open Go Go.RowKit ba
def awC(n:Nat)(w:A_):EL F.eQ #[.I n] w λc a=>(∃b,c = .func (.func F.y) #[] #[.pointer (some ⟨b,0,none⟩)]/\a.heap[b]? = some (.cells #[.I n] T.a))/\Ext w a:=by
 refine bn E.eQ ?_;refine aa ?_;intro g d h e f;refine aa ?_;exact⟨⟨d,rfl,f⟩,e⟩
def akl(n:Nat)(w:A_):EL F.fi #[.I n] w λc a=>(∃b,c = .func (.func F.t) #[] #[.pointer (some ⟨b,0,none⟩)]/\a.heap[b]? = some (.cells #[.I n] T.a))/\Ext w a:=by
 refine bn E.fi ?_;refine aa ?_;intro g d h e f;refine aa ?_;exact⟨⟨d,rfl,f⟩,e⟩
abbrev sQ(n:Nat):={a:Nat // a<o.fO n}
def awD{w0:A_}{b n n0:Nat}{tys:C_ F_}(p:w0.heap[b]? = some (.cells #[.I n] T.a))(q:n<=4) :
  SeqStopsK Fence.wide 0 Tryz.prog F.y #[.pointer (some ⟨b,0,none⟩)] (λa:sQ n=>#[.I a.1]) (qh n0 tys) (λe=>e.map (·.1)=List.range (o.fO n)) (λ_=>True) (o.fO n) w0:=by
 intro r f s j t u L v x;have y:∀k,k<=4->o.fO k<=24:=Ae
 have M:=y n q;have N:=Ext.obj (w:=w0) t p;refine callsIn_wide.2 (Calls.mono (show EL F.y #[.func (.yield r) #[] #[],.pointer (some ⟨b,0,none⟩)] j (λ_ g=>(∃e:C_ (sQ n),e.map (·.1)=List.range (o.fO n)/\f e g)\/(∃pre:C_ (sQ n),True/\s pre g)) from ?_) λd g ⟨z,A,B⟩=>⟨⟨z,A⟩,B⟩);have C:∀{pre:C_ (sQ n)} {w c:A_},f pre w->Ext w c->f pre c:=λ{pre w c} G d=>u pre w c none G d.RI (λO d=>by cases d);refine bn E.y ?_;refine aa ?_;refine J_ (Uw n j AY) ?_;rintro _ P ⟨rfl,H⟩;have I:=C x H;refine aa ?_;refine K_ 6 (o.fO n) [0,5] (λ_:C_ (sQ n)=>[]) [] (λa pre c=>pre.map (·.1)=List.range a/\f pre c) aW aW ⟨rfl,I⟩ ?_;rintro a pre Q J S ⟨h,l⟩;have U:pre.length=a:=by rw[<-AG8 (f:=(·.1)),h,List.length_range]
 refine aa ?_;refine I_ (λK=>?_) (λK=>?_)
 .have m:a<o.fO n:=AY
  refine aa ?_;refine _v (v pre ⟨a,m⟩ J l AY) ?_;rintro d V (⟨rfl,i,W⟩ | ⟨rfl,i⟩)
  .refine⟨.bool true,rfl,?_⟩;refine aa ?_;exact⟨m,aV,_,trivial,by rw[AF9,h,AI8];rfl,i⟩
  .refine⟨.bool false,rfl,?_⟩;refine aa ?_;exact .inr ⟨_,trivial,i⟩
 .have:a=o.fO n:=AY
  subst this;refine aa ?_;exact .inl ⟨_,h,l⟩
def XT(n0:Nat)(c:C_ F_)(B1:Nat)(a b:A_):Prop:=qh n0 c a b/\KeepsFrom B1 a b
def akm{w0:A_}{b n n0 B1:Nat}(B:w0.heap[b]? = some (.cells #[.I n] T.a))(r:n<=4)(aU:n0<=w0.heap.size) :
  yV Tryz.prog F.t #[.pointer (some ⟨b,0,none⟩)] (λd:sQ n×ez=>.slice d.2.1 d.2.2.1 d.2.2.2) B1 False (XT n0 [T.a,T.qm] B1) (λd C=>ft w0.heap.size C (.slice d.2.1 d.2.2.1 d.2.2.2) (o.tE n d.1.1)) (λc=>c.map (·.1.1)=List.range (o.fO n)) (λ_=>True) (o.fO n) w0:=by
 intro P j ai C Q aX s aY aj ak;have S:=Ext.obj (w:=w0) Q B;have aZ:=Q.size;refine callsIn_wide.2 (Calls.mono (show EL F.t #[.func (.yield P) #[] #[],.pointer (some ⟨b,0,none⟩)] C (λ_ f=>(∃c:C_ (sQ n×ez),c.map (·.1.1)=List.range (o.fO n)/\j c f)\/(∃pre:C_ (sQ n×ez),True/\ai pre f)) from ?_) λa f ⟨al,an,U⟩=>⟨⟨al,an⟩,U⟩);have V:∀{pre:C_ (sQ n×ez)} {w t:A_},j pre w->Ext w t->j pre t:=λ{pre w t} g a=>s pre w t none g a.RI (λe a=>by cases a);refine gm.start kv yG.t (args:=[_,_]) (Nat.le_of_ble_eq_true rfl) ?_;dsimp only[D.t,aN,bP,hV,ck,na,c6,fv,hE,cO,aM,dm,fs,dD,gQ,ys,gd,dg,hy,yB,gR,mc,qb,n9,b2,ir,m9,sK,E2,As,qa,n8,n7,E3,At,nC,List.map_cons,List.map_nil];refine gm.hT ?_;refine aa ?_;intro ao W a0 G X;have Y:=G.obj S;have a1:=G.size;refine aa ?_;refine gm.hT ?_;refine aa ?_;refine gm.hT ?_;refine aa ?_;refine J_ (awC n ao) ?_;rintro _ Z ⟨⟨a3,rfl,aq⟩,u⟩;have ar:=u.obj Y;have au:=u.obj X;have a5:=u.size;have av:=V ak (G.trans u);clear Y X S;simp -dsimp only[c7,cD,Nat.reduceAdd,Nat.reduceEqDiff,reduceIte,reduceCtorEq,dt];refine gm.b0 (gm.axm (w0:=Z) (enc:=λk:sQ n=>.I k.1) (by simp[dE,bR]) Cl (awD (n0:=n0) (tys:=[T.a,T.qm]) aq r) (Ext.refl _) (qh.ok _ AY)
  (λpre f => ∃c:C_ (sQ n×ez),c.map (·.1)=pre/\j c f/\f.heap[b]? = some (.cells #[.I n] T.a)/\f.heap[W]? = some (.cells #[.func (.yield P) #[] #[]] T.qm)/\w0.heap.size<=f.heap.size) (λ_ _=>False) ?_ (λ_ _ _ _ H _ _=>H.elim) ⟨[],rfl,av,ar,au,AY⟩ ?_ ?_ ?_)
 .rintro pre aw ax row ⟨c,a,g,v,x,I⟩ y z;exact⟨c,a,s c aw ax row g y λe a=>⟨by have:=(z e a).1;omega,(z e a).2⟩,HJ y z v,HJ y z x,Ug I y.size⟩
 .rintro pre d iX ⟨c,a,g,v,x,I⟩ a7;refine eA ?_;refine⟨(Ext.refl _).keeps _,(Ext.refl _).h1 AY,λoY ay=>?_⟩;obtain⟨ab,az,⟨h,A,aB⟩,l⟩:=ay;have m:∀e,some ab=some e->Z.heap.size<=e/\∃h:Obj,iX.heap[e]? = some h/\h.isCells=false:=λe a=>by cases a;exact⟨az,h,A,aB⟩
  have aC:j c oY:=s c iX oY (some ab) g l λe a=>⟨by have:=(m e a).1;omega,(m e a).2⟩;have aD:=HJ l m v;have aE:=HJ l m x;have a8:=Ug I l.size;clear v x g l m A;have a9:c.length=pre.length:=by rw[<-a,AG8]
  refine aa ?_;intro aF p;have aG:=p.obj aD;have aH:=p.obj aE;have bb:=p.size;refine aa ?_;refine J_ (ayS n d.1 aF r d.2) ?_;rintro bf ae ⟨af,i⟩;have aI:=af.form;obtain⟨J,K,rfl,_⟩:=aI;refine⟨i,?_⟩;have aJ:=V aC (p.trans i);have ag:=i.obj aG;have ah:=i.obj aH;have bk:=i.size;have aK:ft w0.heap.size ae (.slice J (o.tE n d.1).length K) (o.tE n d.1):=aT.low AY af;refine aa ?_;refine _v (aj c (d,(J,(o.tE n d.1).length,K)) ae aJ aK AY) ?_;rintro U bl (⟨rfl,aL,L,M⟩ | ⟨r,_⟩)
  .refine⟨.bool true,rfl,?_⟩;have N:=p.trans i;refine aa ?_;refine⟨⟨Ug N.size M.size,λk h aP A B=>M.same k h AY (N.obj A) B⟩,(qh.ok (B:=n0) _ (EM _)).trans (N.h1 AY) L,c++[(d,(J,(o.tE n d.1).length,K))],by rw[AF9,a];rfl,aL,(L.2 b _ _ _ ag Ah).trans ag,(L.2 W _ _ _ ah Ah).trans ah,by have:=M.size;omega⟩
  .exact r.elim
 .rintro D pre j2 aQ aR ⟨c,a,g,_⟩ O;unfold w7 AP;have q:=dX.fZ j2 D (.deferred none);exact⟨O,.inl ⟨c,by rw[<-aR,<-a,List.map_map];rfl,s c j2 _ (some D) g ⟨q.os,q.tape,q.output,by rw[q.size];exact EM _,λk aP aS=>q.block k λa=>aS (by rw[a])⟩ λe a=>by cases a;exact⟨AY,_,O,rfl⟩⟩⟩
 .rintro D pre j2 aQ H O;exact H.elim
def mI(n0 b:Nat)(c:A_)(i:Nat):Prop:=i<n0\/(b<=i/\∀d a e,c.heap[i]? = some (.cells d a e)->a≠T.a/\a≠T.b)
def mI.low{n0 c:Nat}{A:Nat->Prop}{b e:A_}(m:Mod A b e)(h:∀a,a<b.heap.size->A a->mI n0 c b a):∀a,a<b.heap.size->mI n0 c e a->mI n0 c b a:=λa f d=>by
 rcases d with d | ⟨i,j⟩
 .exact .inl d
 .by_cases g:A a
  .exact h a f g
  .exact .inr ⟨i,λk l n p=>j k l n ((m.block a f g).trans p)⟩
def mI.own{α:Type}{enc:α->C_ B_}{e:F_}{sz base n0 c:Nat}{d:A_}{v:B_}{xs:C_ α}(h:aT enc e sz base d v xs)(g:c<=base)(i:e≠T.a/\e≠T.b):∀b,v.ownBlock=some b->mI n0 c d b:=λb f=>by
 obtain⟨k,j⟩:=h.b0 b f;refine .inr ⟨Ug g (h.lt b f).1,λl m n a=>?_⟩;rw[j] at a;injection a with a
 injection a with _ a
 subst a;exact i
def mI.not{α:Type}{enc:α->C_ B_}{e:F_}{sz base n0 g:Nat}{d:A_}{v:B_}{xs:C_ α}(h:aT enc e sz base d v xs)(j:n0<=base)(a:e=T.a\/e=T.b):∀b,v.ownBlock=some b->¬mI n0 g d b:=λb f c=>by
 obtain⟨k,i⟩:=h.b0 b f;rcases c with c | ⟨_,c⟩
 .have:=(h.lt b f).1
  omega
 .have:=c _ _ _ i
  rcases a with a | a
  .exact this.1 a
  .exact this.2 a
structure oV(e:TypeId)(n0 cG base:Nat)(W:World)(v:Value)(Q:List (List (List Int))):Prop where
 ex:∃bL:List (hz 1),bL.length=Q.length/\og e 1 base W v bL/\∀i (I:i<bL.length) (U:i<Q.length),∃u,bL[i].1=[u]/\oi (mI n0 cG W) W u Q[i]
def oV.nil(e:F_)(n0 a base:Nat)(b:A_):oV e n0 a base b (.slice none 0 0) []:=⟨[],rfl,aT.nil _ _ _ _ _,λd c=>by cases c⟩
def oV.form{e:F_}{n0 c base:Nat}{d:A_}{v:B_}{Q:C_ (C_ (C_ Int))}(h:oV e n0 c base d v Q):∃b a,v = .slice b Q.length a/\Q.length<=a/\a<=maxLen:=by
 obtain⟨k,f,g,_⟩:=h.ex;obtain⟨b,a,i,l,j⟩:=g.form;exact⟨b,a,by rw[i,f],AY,j⟩
def oV.move{e:F_}{n0 d base:Nat}{A:Nat->Prop}{b f:A_}{v:B_}{Q:C_ (C_ (C_ Int))}(h:oV e n0 d base b v Q)(m:Mod A b f)(g:∀a,a<b.heap.size->A a->mI n0 d b a)(i:∀c,v.ownBlock=some c->¬A c):oV e n0 d base f v Q:=by
 obtain⟨j,k,l,n⟩:=h.ex;exact⟨j,k,l.mod m i,λa p q=>let ⟨r,e,c⟩:=n a p q; ⟨r,e,c.move m g (mI.low m g)⟩⟩
theorem oV.ext{e:F_}{n0 b base:Nat}{c d:A_}{v:B_}{Q:C_ (C_ (C_ Int))}(h:oV e n0 b base c v Q)(m:Ext c d):oV e n0 b base d v Q:=h.move (A:=λ_=>False) m.mod (λ_ _ a=>a.elim) λ_ _ a=>a
def oV.V2{e:F_}{n0 f base:Nat}{c:A_}{v:B_}{Q:C_ (C_ (C_ Int))}(h:oV e n0 f base c v Q)(r:n0<=base):Fu (λa=>a<n0) c v Q:=by
 obtain⟨g,i,d,j⟩:=h.ex;refine⟨g,i,λc k=>(d.mod k λa l b=>?_).im iZ,λm n p=>let ⟨q,e,a⟩:=j m n p; ⟨q,e,a.move (A:=λ_=>False) (Mod.refl _ _) (λ_ _ b=>b.elim) λ_ _ b=>.inl b⟩⟩
 have:=d.lt a l
 omega
def _root_.ba.K.akq{P:D_}{q:B_->A_->Prop}{e:F_}{n0 f base:Nat}{w:A_}{v:B_}{Q:C_ (C_ (C_ Int))}{C:F_}{b r:Nat}{c:B_}{g:C_ (C_ Int)}{t}(G:oV e n0 f base w v Q)(H:w.heap[r]? = some (.cells #[c] e))(I:oi (mI n0 f w) w c g)(h:c.oneCell'=true)
  (J:(Q.length+1)*b<=140737488355328)(K:Q.length+1<=maxLen)(L:base<=w.heap.size)(M:f<=base)(N:e≠T.a/\e≠T.b)
  (l:∀i d,oV e n0 f base d i (Q++[g])->w.grownBy d v.ownBlock->q i d):lJ P C e 1 b v (.slice (some ⟨r,0,none⟩) 1 1) w q t:=by
 obtain⟨j,m,s,O⟩:=G.ex;refine _I (enc:=kE) (ys:=[(⟨[c],rfl,by simpa using h⟩:hz 1)]) s iZ (by simpa[kE] using g5 H) rfl vD (by rw[m];exact J) (by rw[m];exact K) L λi d S u X=>l i d ⟨j++[⟨[c],rfl,by simpa using h⟩],by simp[m],S,λa h U=>?_⟩ u;have x:Mod (λy=>v.ownBlock=some y) w d:=Mod.grown u λy l=>l;have z:∀a,a<w.heap.size->v.ownBlock=some a->mI n0 f w a:=λa _ k=>mI.own s M N a k;have A:∀{c g},oi (mI n0 f w) w c g->oi (mI n0 f d) d c g:=λV=>V.move x z (mI.low x z);rw[JM] at h U;by_cases k:a<j.length
 .have B:a<Q.length:=AY
  obtain⟨W,n,p⟩:=O a k B;exact⟨W,by simpa[List.getElem_append,k] using n,by simpa[List.getElem_append,B] using A p⟩
 .have n:a=j.length:=by simp at h;omega
  subst n;have p:¬j.length<Q.length:=AY
  exact⟨c,Ah,by simpa[List.getElem_append,p] using A I⟩
def atd{n0 B:Nat}(cW:C_ F_)(h:n0<=B):Aw (XT n0 cW (B+2)) B where
 trans h k:=⟨(qh.ok (B:=n0) cW (EM _)).trans h.1 k.1,⟨Ug h.2.size k.2.size,λi af ab aJ ag=>k.2.same i af ab (h.2.same i af ab aJ ag) ag⟩⟩
 put W l af o' aw nr aJ ag:=⟨(qh.ok (B:=B) cW h).put W l af o' aw nr aJ ag,⟨by simp[World.putObj],λk p J aB _=>(World.putObj_heap_other AY).trans aB⟩⟩
def wz(n:Nat)(R:C_ (C_ (C_ Int)))(l:C_ Nat):C_ (C_ (C_ Int)):=l.flatMap λa=>R.map λb=>o.tE n a :: b
theorem ago(n:Nat)(R:C_ (C_ (C_ Int))):∀a,(wz n R a).length=a.length*R.length
 | []=>by simp[wz]
 | b :: a=>by
  have:=ago n R a
  unfold wz at this ⊢;rw[AK1,JM,this,AG8,AH5,Nat.succ_mul,Nat.add_comm]
theorem aay:∀(a:C_ o.Scalar),o.qk a->(o.lP (o.lE a)).length<=24 ^ a.length
 | [],_=>by simp[o.lE,o.lP]
 | b :: a,c=>by
  have e:∀d,d<=4->o.fO d<=24:=Ae
  have j:=c.2 b (AG3 ..);have f:=aay a ⟨by have:=c.1;simp at this;omega,λg h=>c.2 g (AG4 _ h)⟩;have i:(o.lP (o.lE (b :: a))).length=o.fO b.size.toNat*(o.lP (o.lE a)).length:=by
   simp only[o.lE,List.map_cons,o.lP,List.length_flatMap,List.length_map];rw[List.map_const',List.sum_replicate_nat];simp[o.sB]
  rw[i,AH5,Nat.pow_succ,AI0 (24 ^ _)];exact AI9 (e _ AY) f
attribute [local irreducible] o.lP
theorem agD:∀(k:C_ o.Scalar) (v:B_) (i:A_),o.hI i v k->o.qk k->EL F.k #[v] i λaq a3=>Fu (λe=>e<i.heap.size) a3 aq (o.lP (o.lE k))/\Ext i a3
 | [],v,i,w,N=>by
  obtain⟨b1,b3,rfl,_⟩:=w.form;refine gm.start kv yG.k (args:=[_]) (Nat.le_of_ble_eq_true rfl) ?_;dsimp only[D.k,aN,bP,hV,ck,na,c6,fv,hE,cO,aM,dm,fs,dD,gQ,ys,gd,dg,hy,yB,gR,mc,qb,n9,b2,ir,m9,sK,E2,As,qa,n8,n7,E3,At,nC,List.map_cons,List.map_nil];refine gm.hT ?_;refine aa ?_;refine gm.hT ?_;refine aa ?_;refine _M Ah ?_;refine aa ?_;intro p b4 b5 C b6;refine aa ?_;intro b8 dr du O P;have b9:=C.size;refine aa ?_;refine gm.am3 ?_;refine aa ?_;refine⟨?_,C.trans O⟩;have ca:o.lP (o.lE [])=[[]]:=by unfold o.lP o.lE;rfl
  rw[ca];exact⟨[⟨[.slice (some ⟨b4,0,none⟩) 0 0],rfl,by simp[Value.oneCell']⟩],rfl,λn j=>a6.b0 (enc:=kE) iZ (j.obj (λd=>AY) P) rfl (by simp[maxLen]) λ_ _ _ w=>w,λh Q m=>by
   obtain rfl:h=0:=by simp at Q;omega
   exact⟨_,rfl,[],rfl,λn j=>((aT.empty (enc:=kE) (e:=T.b) (sz:=1) (base:=i.heap.size) b5 (O.obj b6)).mod j λe a d=>by simp only[Value.ownBlock,Option.some.injEq] at a;omega).im iZ,λh w=>by cases w⟩⟩
 | x :: k,v,i,w,N=>by
  have ar:o.qk k:=⟨by have:=N.1;simp at this;omega,λau av=>N.2 au (AG4 _ av)⟩;have dv:=N.2 x (AG3 ..);have cb:=aay k ar;have cc:k.length<=1:=by have:=N.1;simp at this;omega
  have a5:(o.lP (o.lE k)).length<=24:=Ug cb (by rcases(show k.length=0\/k.length=1 by omega) with c | c<;>rw[c]<;>decide);obtain⟨g,aw⟩:∃g,g=x.size.toNat:=⟨_,rfl⟩;have ch:x.size=(g:Int):=AY
  have cj:∀h,h<=4->o.fO h<=24:=Ae
  have dw:=cj g AY;obtain⟨b1,b3,rfl,_⟩:=w.form;refine gm.start kv yG.k (args:=[_]) (Nat.le_of_ble_eq_true rfl) ?_;dsimp only[D.k,aN,bP,hV,ck,na,c6,fv,hE,cO,aM,dm,fs,dD,gQ,ys,gd,dg,hy,yB,gR,mc,qb,n9,b2,ir,m9,sK,E2,As,qa,n8,n7,E3,At,nC,List.map_cons,List.map_nil];refine gm.hT ?_;refine aa ?_;refine gm.hT ?_;refine aa ?_;refine _N (by simp only[List.length_cons];omega) ?_;refine aa ?_;refine gm.hT ?_;refine aa ?_;refine _m (k:=.i64) 1 w rfl Ah λa7 f cm=>?_;refine aa ?_;refine J_ (agD k _ i (by simpa using cm) ar) ?_;rintro dx p ⟨ax,C⟩;have cp:=ax.RJ.form;obtain⟨dy,dz,rfl,_⟩:=cp;obtain⟨R,S⟩:∃R,R=o.lP (o.lE k):=⟨_,rfl⟩;rw[<-S] at ax a5;have cq:o.lP (o.lE (x :: k))=wz g R (List.range (o.fO g)):=by
   unfold o.lP o.lE;simp only[List.map_cons];rw[S,aw];unfold wz o.sB;rw[List.flatMap_map];rfl
  have b9:=C.size;refine aa ?_;rw[<-S];intro dA dB cr a8 ct;refine aa ?_;intro b8 a9 P;have O:=a9.ext a8 cr;have dC:=O.size;have dF:=cf P;refine gm.hT ?_;refine aa ?_;intro cu q dG ay az;have bb:=ay.obj P;have dI:=ay.size;refine aa ?_;refine gm.u9 (gm.hT ?_);have aB:=O.trans ay;have aC:=a6.ext o.jG.ext (C.trans aB) w;have cv:=aC.addr Ah;obtain⟨dK,rfl⟩:=cv;have dL:=cf az;refine aa ?_;refine M_ 0 rfl Ah ?_;refine aa ?_;refine _L (i:=0) (j:=1) (v:=.I x.size) aC (Ext.refl _) Ah rfl ?_;rw[ch];refine aa ?_;refine J_ (akl g cu) ?_;rintro _ r ⟨⟨dM,rfl,aD⟩,U⟩;have bf:=U.obj bb;have bk:=U.obj az;have dO:=U.size;have cw:Ext p r:=aB.trans U;have dP:=cf aD;clear P bb az ct a9 a8 aC;simp -dsimp only[c7,cD,Nat.reduceAdd,Nat.reduceEqDiff,reduceIte,reduceCtorEq,dt];refine gm.b0 (gm.ahw (w0:=r) (enc:=λx:sQ g×ez=>.slice x.2.1 x.2.2.1 x.2.2.2) (by simp[dE,bR]) Cl (akm (n0:=i.heap.size) (B1:=r.heap.size+2) aD AY AY) (EM _) (Ext.refl _) (atd _ AY)
   (λpre n=>(∃s e f,n.heap[q]? = some (.cells #[.slice s e f] T.x)/\oV T.d i.heap.size p.heap.size r.heap.size n (.slice s e f) (wz g R (pre.map (·.1.1))))/\Mod (λe=>e∈[q]) r n) ?_ ⟨⟨none,0,0,bk,oV.nil _ _ _ _ _⟩,Mod.refl _ _⟩ ?_ ?_)
  .rintro pre cx cy row ⟨⟨s,e,f,G,t⟩,j⟩ bl Z;have bo:Mod (λe=>row=some e) cx cy:=Mod.grown bl λe c=>c;refine⟨⟨s,e,f,HJ bl Z G,t.move bo (λh B c=>?_) λz a c=>?_⟩,j.comp bo (λ_ _ d=>d) λh B c=>?_⟩
   .obtain⟨Q,a7,m,aE⟩:=Z h c;exact .inr ⟨AY,λf H I a=>by rw[a] at m;injection m with m;subst m;cases aE⟩
   .obtain⟨bp,_,cz,_⟩:=t.ex;obtain⟨J,b⟩:=cz.b0 z a;obtain⟨Q,a7,m,aE⟩:=Z z c;rw[b] at m;injection m with m;subst m;cases aE
   .have:=(Z h c).1
    omega
  .rintro pre ⟨ab,op,ae,af⟩ n ⟨⟨s,e,f,G,t⟩,j⟩ ag dQ;dsimp only at ag;have aM:=j.size;refine eA ?_;refine⟨(Ext.refl _).keeps _,⟨(Ext.refl _).h1 AY,(Ext.refl _).keeps _⟩,λeT aF=>?_⟩;obtain⟨dR,dV,ah,ai⟩:=aF.mod;have aG:=aF.cells G;have V:=t.ex;obtain⟨dW,_,bq,_⟩:=V;have bt:=t.move ai (λh B c=>.inr ⟨AY,λf H I a=>absurd a (by subst c;exact ah f H I)⟩) λz a c=>by
    obtain⟨J,b⟩:=bq.b0 z a;subst c;exact ah _ _ _ b
   have bu:=aT.mod ag ai λz a c=>by
    obtain⟨J,b⟩:=aT.b0 ag z a;subst c;exact ah _ _ _ b
   have aj:Mod (λe=>e∈[q]) r eT:=j.comp ai (λ_ _ d=>d) λh B c=>AY
   have cB:Ext p eT:=aj.ext cw λe a d=>by simp at d;omega
   have dY:=aj.obj (by simp;omega) bf;have dZ:=aj.size;have cE:=ax.ex;obtain⟨bp,ee,bw,bx⟩:=cE;have aH:=bw.here;clear t ag ai G ah bq j aF aD bk bf;refine aa ?_;refine K_ 24 R.length [4,5,22,23] (λ_:Unit=>[]) () (λy _ aI=>(∃s bz f,aI.heap[q]? = some (.cells #[.slice s bz f] T.x)/\oV T.d i.heap.size p.heap.size r.heap.size aI (.slice s bz f) (wz g R (pre.map (·.1.1))++(R.take y).map λaJ=>o.tE g ab.1 :: aJ))/\e1 r.heap.size [q] [T.d] eT aI) aW aW ⟨⟨s,e,f,aG,by simpa using bt⟩,(Ext.refl _).xa⟩ ?_;clear bt;rintro y - ef iX eg ⟨⟨bA,bB,bC,ak,W⟩,A⟩;have aK:Ext p iX:=A.ext cB AY (by simp;omega);have bD:ft r.heap.size iX _ _:=aT.mod bu A λz a d=>by
    obtain⟨J,b⟩:=aT.b0 bu z a;rcases d with d | ⟨_,f,H,I,cF,L⟩
    .simp only[List.mem_singleton] at d;subst d;rw[aG] at b;injection b with b;injection b with _ b;revert b;decide
    .rw[b] at L;injection L with L;injection L with _ L;subst L;revert cF;decide
   have eh:=A.size;refine aa ?_;apply I_<;>intro ei;rotate_left
   .have ej:y=R.length:=AY
    refine aa ?_;refine⟨A.keeps (by simp;omega),⟨A.h1 AY AY (λeo bE=>?_) Ae,A.keeps (by simp;omega)⟩,⟨bA,bB,bC,ak,?_⟩,e1.from aj A⟩
    .simp only[List.mem_singleton] at bE;subst bE;refine⟨AY,λf H I a=>?_⟩;rw[aG] at a;injection a with a;injection a with _ a;subst a;decide
    .rw[IA AY] at W;have c:wz g R ((pre++[(ab,(op,ae,af))]).map (·.1.1))=wz g R (pre.map (·.1.1))++R.map λaJ=>o.tE g ab.1 :: aJ:=by
      unfold wz;rw[AF9,AJ6];simp
     rw[c];exact W
   have al:y<R.length:=AY
   have cG:=bx y AY al;obtain⟨bG,cI,bH⟩:=cG;have cK:=a6.addr aH AY;obtain⟨cL,rfl⟩:=cK;have cM:p.cell? (cL.add (y*1))=some bG:=by
    have:=a6.at aH y AY 0 bG (by show(bp[y].1)[0]? = _;rw[cI];rfl)
    rwa[add_zero] at this
   have cN:=bH.ex;obtain⟨bI,bJ,bK,bL⟩:=cN;have aL:=bK.here;have cP:=aL.form;obtain⟨er,et,rfl,_⟩:=cP;have cQ:=ago g R (pre.map (·.1.1));rw[AG8] at cQ;have eu:pre.length*R.length<=24*24:=AI9 AY a5;have X:=W.form;obtain⟨_,_,X,_⟩:=X;injection X with _ X _
   rw[JM,AG8,IP] at X;clear bx bw;refine aa ?_;refine L_ (aK.cell cM) ?_;refine aa ?_;intro j2 an;have cS:=an.obj ak;have eB:=an.size;refine aa ?_;intro j3 cU eC ao bM;have aP:og T.b 1 j2.heap.size j3 (.slice (some ⟨cU,0,none⟩) 1 1) [(⟨[.slice op ae af],rfl,by simp[Value.oneCell']⟩:hz 1)]:=aT.y5 _ bM AY rfl iZ rfl (by show 1<=maxLen;unfold maxLen;decide);refine⟨ao,?_⟩;refine aa ?_;have bN:=a6.ext Flat.ext (aK.trans (an.trans ao)) aL;have eE:bI.length<=1:=by
    have j:=FA al;simp only[S] at j
    have:=((o.Oa _ _ λg aw=>by obtain⟨au,av,rfl⟩:=List.mem_map.1 aw;have:=ar.2 au av;omega).1 j).1
    rw[bJ];simp only[S];rw[this];simp only[o.lE,List.length_map];exact cc
   refine _Z (enc:=kE) aP bN iZ vD (by simp only[List.length_cons,List.length_nil];omega) (by simp only[List.length_cons,List.length_nil];unfold maxLen;omega) ao.size λeF cV aQ bO=>?_;have iW:Ext j2 cV:=ao.grown bO λh B=>(aP.lt h B).1;have cW:=aQ.form;obtain⟨cX,cY,rfl,_⟩:=cW;refine⟨iW,?_⟩;refine aa ?_;intro Y eG eH bQ c0;have bU:=iW.trans bQ;refine⟨bU,?_⟩;have bV:=aQ.ext bQ;have M:=an.trans bU;have bW:=W.ext M;have aR:=aT.ext M bD;have aS:=M.obj ak;have eK:=M.size;have c1:oi (mI i.heap.size p.heap.size Y) Y (.slice cX ([(⟨[.slice op ae af],rfl,by simp[Value.oneCell']⟩:hz 1)]++bI).length cY) (o.tE g ab.1 :: R[y]):=by
    refine⟨_,by rw[JM,bJ];simp[Nat.add_comm],λn aU=>(bV.mod aU λl u d=>mI.not bV AY (.inr rfl) l u d).im iZ,λaX Q m=>?_⟩;cases aX with
    | zero=>exact⟨.slice op ae af,rfl,λn aU=>ha (aT.mod aR aU λl u d=>mI.not aR AY (.inl rfl) l u d)⟩
    | succ aX =>
     simp only[List.length_append,List.length_cons,List.length_nil] at Q m;obtain⟨aq,c2,c3⟩:=bL aX AY AY;refine⟨aq,by simpa using c2,?_⟩;have c4:Mod (λ_=>False) p Y:=(aK.trans M).mod
     have:=c3.move (A':=mI i.heap.size p.heap.size Y) c4 (λ_ _ d=>d.elim) λl u d=>by
      rcases d with d | ⟨d,_⟩
      .exact d
      .omega
     simpa using this
   clear bN aP bM bO aQ W bD aR ak cS aL bL bK bH aH;refine aa ?_;have V:=bW.ex;obtain⟨eL,eM,bX,_⟩:=V;refine K.akq bW c0 c1 (by simp[Value.oneCell']) (by rw[JM,AG8,IP];omega) (by rw[JM,AG8,IP];unfold maxLen;omega) AY AY Ae λeP c5 aY bY=>?_;have c8:=aY.form;obtain⟨db,dc,rfl,_⟩:=c8;have dd:∀l,(Value.slice bA bB bC).ownBlock=some l->l≠q:=λl u c=>by
    obtain⟨J,b⟩:=aT.b0 bX l u;subst c;rw[aS] at b;injection b with b;injection b with _ b;revert b;decide
   have aZ:=bY.block q (cf aS) λc=>dd q c.symm rfl;rw[aS] at aZ;have de:e1 r.heap.size [q] [T.d] Y c5:=e1.grown bX bY Ah;refine aa ?_;intro eQ b0 df;have di:=aY.ex;obtain⟨dj,_,a0,_⟩:=di;refine aa ?_;refine⟨al,aV,(),trivial,⟨db,_,dc,df,?_⟩,((A.trans M.xa).trans de).trans (b0.xa Ah)⟩;rw[Oi al,AF9,<-Vh];refine aY.move (A:=λe=>e=q) (b0.mod rfl) (λh B c=>.inr ⟨AY,λf H I a=>?_⟩) λl u c=>?_
   .subst c;rw[aZ] at a;injection a with a;injection a with _ a;subst a;decide
   .obtain⟨J,b⟩:=aT.b0 a0 l u;subst c;rw[aZ] at b;injection b with b;injection b with _ b;revert b;decide
  .rintro D pre n eR dk ⟨⟨s,e,f,G,t⟩,j⟩ a1;simp -dsimp only[c7,cD,Nat.reduceAdd,Nat.reduceEqDiff,reduceIte,reduceCtorEq,dt];refine _C G (Ext.refl _) rfl ?_;simp -dsimp only[c7,cD,Nat.reduceAdd,Nat.reduceEqDiff,reduceIte,reduceCtorEq,dt];refine gm.ret a1 ?_;simp -dsimp only[c7,cD,Nat.reduceAdd,Nat.reduceEqDiff,reduceIte,reduceCtorEq,dt];have dp:=dX.fZ n D (.deferred none);have dq:Ext i n:=j.ext ((C.trans aB).trans U) λe a d=>by simp at d;omega
   rw[dk] at t;rw[cq];refine⟨(t.move (A:=λe=>e=D) (dp.mod rfl) (λh B c=>.inr ⟨AY,λf H I a=>?_⟩) λl u c=>?_).V2 AY,dq.fZ AY _⟩
   .subst c;rw[a1] at a;injection a with a;cases a
   .have V:=t.ex;obtain⟨dj,_,a0,_⟩:=V;obtain⟨J,b⟩:=aT.b0 a0 l u;subst c;rw[a1] at b;injection b with b;cases b
end Go.Proofs.R
namespace ba
open Go Go.RowKit
theorem ah3:∀(f:C_ B_) (i:A_) (d b c:Nat) (e:Array B_) (h:F_),i.heap[d]? = some (.cells e h)->b+c+f.length<=e.size ->
  ∃g,(kT i ⟨d,b,none⟩ f c).heap[d]? = some (.cells g h)/\g.size=e.size/\(∀a,a<b+c\/b+c+f.length<=a->g[a]? = e[a]?)/\∀a (j:a<f.length),g[b+c+a]? = some f[a]
 | [],i,d,b,c,e,h,k,_=>⟨e,k,rfl,λ_ _=>rfl,λa j=>absurd j (Od _)⟩
 | q :: f,i,d,b,c,e,h,k,l=>by
  have r:b+c<e.size:=by simp at l;omega
  have m:=VM k r q;have s:Addr.add ⟨d,0,none⟩ (b+c)=Addr.add ⟨d,b,none⟩ c:=by rw[add_eq,add_eq,ZQ]
  rw[s] at m;obtain⟨g,t,u,n,v⟩:=ah3 f _ d b (c+1) _ h m (by simp at l ⊢;omega);refine⟨g,t,by simpa using u,λa p=>?_,λa j=>?_⟩
  .rw[n a (by simp at p ⊢;omega),Array.getElem?_set_ne _ (by simp at p;omega)]
  .cases a with
   | zero =>
    rw[AH1,n (b+c) AY,Array.getElem?_set_self];rfl
   | succ a =>
    have:=v a (by simpa using j)
    rw[show b+c+(a+1)=b+(c+1)+a from AY,this];rfl
def aap{w:A_}{b j:Nat}{c:Array B_}{t:F_}{v:B_}(h:w.heap[b]? = some (.cells c t))(a:c[j]? = some v):w.cell? ⟨b,j,none⟩=some v:=by
 simp[World.cell?,h,a]
def WD(k j:Nat)(h:j<k):(qc (Value.agg #[.I 0,.I 0,.I 0]).cells k)[j]? = some (.I 0):=by
 have a:j % 3<3:=Nat.mod_lt _ Ae;simp only[qc,Value.cells,Array.getElem?_map,Array.getElem?_range,h,if_true,Option.map_some];rcases(show j % 3=0\/j % 3=1\/j % 3=2 by omega) with e | e | e<;>simp[e]
end ba
namespace Go.Proofs.R
open Go Go.RowKit ba o
attribute [local irreducible] ep bF o.insts o.refs jA fH
structure kW(w:World)(b:Nat)(l:List (Int×Int×Int)):Prop where
 ex:∃cur,w.heap[b]? = some (.cells cur T.qn)/\cur.size=3*l.length/\∀i (h:i<l.length),cur[3*i]? = some (.int .i64 l[i].1)/\cur[3*i+1]? = some (.int .i64 l[i].2.1)/\cur[3*i+2]? = some (.int .i64 l[i].2.2)
def kW.mod{A:Nat->Prop}{w w':A_}{b:Nat}{l:C_ (Int×Int×Int)}(h:kW w b l)(m:Mod A w w')(a:¬A b):kW w' b l :=
 let ⟨cur,c,d⟩:=h.ex; ⟨cur,m.obj a c,d⟩
def kW.set{w:A_}{b i:Nat}{l:C_ (Int×Int×Int)}(h:kW w b l)(u:i<l.length)(x:Int×Int×Int):kW (kT w ⟨b,3*i,none⟩ (nN x) 0) b (l.set i x):=by
 obtain⟨m,n,p,q⟩:=h.ex;obtain⟨r,s,t,a,c⟩:=ah3 (nN x) w b (3*i) 0 m _ n (by simp[nN];omega);refine⟨r,s,by rw[ZP,t];exact p,λd e=>?_⟩;rw[ZP] at e;have f:=c 0 (by simp[nN]);have g:=c 1 (by simp[nN]);have j:=c 2 (by simp[nN]);by_cases k:i=d
 .subst k;rw[List.getElem_set_self];simp only[Nat.add_zero,nN] at f g j;exact⟨f,g,j⟩
 .rw[List.getElem_set_ne k,a _ (by simp[nN];omega),a _ (by simp[nN];omega),a _ (by simp[nN];omega)];exact q d e
def AE7{w:A_}{b i:Nat}{l:C_ (Int×Int×Int)}{x:Int×Int×Int}{a:Addr}{d:A_->Prop}{t}(h:kW w b l)(e:a=Addr.add ⟨b,0,none⟩ (i*3))(g:i<l.length)(j:∀c,dX b w c->kW c b (l.set i x)->d c) :
  Ft 3 (.pointer (some a)) (.agg (nN x).toArray) w d t:=by
 rw[show Addr.add ⟨b,0,none⟩ (i*3)=(⟨b,3*i,none⟩:Addr) from by rw[add_eq,ZQ,AI0]] at e;subst e;refine AB3 rfl (λk q=>?_) (λm n=>amZ x m (by simpa using n)) (j _ (dX.kT _ w ⟨b,3*i,none⟩ 0) (h.set g x));obtain⟨p,f,r,_⟩:=h.ex;rw[add_eq];exact⟨⟨p[3*i+k]' AY,aap f (Array.getElem?_eq_getElem AY)⟩,by simp[World.frozen?,f]⟩
def kW.im{w:A_}{b:Nat}{l:C_ (Int×Int×Int)}(h:kW w b l)(f:l.length<=maxLen):a6 3 (Flat nN) w (.slice (some ⟨b,0,none⟩) l.length l.length) l :=
 ⟨_,_,rfl,EM _,f,λ_=>rfl,λp c d g=>by
  injection c with c
  subst c;obtain⟨q,i,r,j⟩:=h.ex;obtain⟨k,m,n⟩:=j d g;intro e s a;rw[add_eq,add_eq,ZQ];refine aap i ?_;rw[AI0 d 3]
  match e,a with
  | 0,a=>simp[nN] at a;subst a;exact k
  | 1,a=>simp[nN] at a;subst a;exact m
  | 2,a=>simp[nN] at a;subst a;exact n
  | e+3,a=>simp[nN] at a⟩
def kW.new{w:A_}{b n:Nat}(h:w.heap[b]? = some (.cells (qc (Value.agg #[.I 0,.I 0,.I 0]).cells (n*3)) T.qn)):kW w b (List.replicate n (0,0,0)) :=
 ⟨_,h,by rw[azH,AG1,AI0],λc a=>by
  rw[AG1] at a;rw[List.getElem_replicate];exact⟨WD _ _ AY,WD _ _ AY,WD _ _ AY⟩⟩
def auf(b c k:Nat)(first f:Int)(i:C_ B_)(a:C_ (Int×Int×Int))(w:A_)(d:w.heap[b]? = some (.cells i.toArray T.tW))(p:i[6]? = some (.slice (some ⟨c,0,none⟩) a.length a.length))(j:kW w c a)(y:0<=first)(z:first.toNat+k<=a.length)(A:a.length<=1000) :
  EL F.w4 #[.pointer (some ⟨b,0,none⟩),.I first,.I k,.I f] w λ_ l=>kW l c (wE a first f k)/\Mod (λg=>g=c) w l:=by
 have q:b≠c:=λr=>by
  obtain⟨B,s,_⟩:=j.ex;rw[r,s] at d;injection d with d
  injection d with _ d
  revert d
  decide
 refine bn E.w4 ?_;refine aa ?_;refine K_ 10 k [0,1,3,9] (λ_:Unit=>[]) () (λe _ m=>kW m c (wE a first f e)/\Mod (λg=>g=c) w m) aW aW ⟨j,Mod.refl _ _⟩ ?_;rintro e - C G H ⟨n,h⟩;have t:=h.obj q d;have I:=Iz a first f e
 refine aa ?_;apply I_<;>intro J;rotate_left
 .have:e=k:=AY
  subst this;refine aa ?_;exact⟨n,h⟩
 have u:e<k:=AY
 refine aa ?_;refine _G t (Ext.refl _) p ?_;refine aa ?_;refine M_ (first.toNat+e) ?_ ?_ ?_
 .omega
 .omega
 refine aa ?_;refine AE7 (x:=(first,(e:Int),f)) n rfl AY λK v x=>?_;refine aa ?_;exact⟨u,aV,(),trivial,x,h.trans (v.mod rfl)⟩
attribute [local irreducible] p8
def AE8{d:B_->A_->Prop}{w:A_}{n:Int}{t}(a:Nat)(e:n=a)(h:a<=1000000)(f:∀b c,w.heap.size<=c->Ext w b->kW b c (List.replicate a (0,0,0))->d (.slice (some ⟨c,0,none⟩) a a) b) :
  Fj T.qn 3 24 (.agg #[.I 0,.I 0,.I 0]) (.I n) (.I n) w d t:=by
 subst e;refine _7 ⟨AY,AY,AY,AY⟩ ?_;have g:=f (w.alloc (.cells (qc (Value.agg #[.I 0,.I 0,.I 0]).cells (a*3)) T.qn)) _ (EM _) ((Ext.refl w).alloc _) (kW.new (heap_alloc_new w _));rw[AG2];exact g
def afT(b c k:Nat)(n first d:Int)(e:C_ B_)(a:C_ (Int×Int×Int))(w:A_)(g:n=k)(h:w.heap[b]? = some (.cells e.toArray T.tW))(i:e[6]? = some (.slice (some ⟨c,0,none⟩) a.length a.length))(j:kW w c a)(l:0<=first)(m:first.toNat+k<=a.length)(p:a.length<=1000) :
  EL F.w4 #[.pointer (some ⟨b,0,none⟩),.I first,.I n,.I d] w λ_ f=>kW f c (wE a first d k)/\Mod (λq=>q=c) w f:=by
 subst g;exact auf b c k first d e a w h i j l m p
def Ic(cs:C_ B_)(m:o.Model)(w:A_)(h:dU w cs m)(B:m.cB)(ae:gi w) :
  EL F.bW #[.agg cs.toArray] w λaH aI=>((¬(o.check m).bK=0/\aH = .tuple #[.pointer none,.bool false])\/((o.check m).bK=0/\∃aJ,aH = .tuple #[.pointer (some ⟨aJ,0,none⟩),.bool true]/\nH aI aJ m))/\Ext w aI:=by
 have s:=h;obtain⟨bq,bt,bu,bg,bw,bj,bx,bz,bA,bB,rfl,aK,bC,_,bD,_⟩:=h.form;refine bn E.bW ?_;refine aa ?_;intro bE c4 c5 af c;refine aa ?_;refine J_ (N9 _ m bE (s.ext af) B (ae.ext af)) ?_;rintro _ bG ⟨rfl,aL⟩;replace c:=aL.obj c;have C:=af.trans aL;refine aa ?_;refine _d (v:=.I (o.check m).bK) rfl ?_;refine aa ?_;refine I_ (λd=>?_) (λd=>?_);rotate_left
 .refine aa ?_;exact⟨.inl ⟨d,aV⟩,C⟩
 have bH:lyz m=o.layout m:=Ee d;have G:=gA d;have H:=jX d;have c8:cH m<=64:=ij G;refine aa ?_;refine J_ (Ue _ m bG (s.ext C) B (ae.ext C)) ?_;rintro _ db ⟨⟨ys,rfl,ag⟩,aP⟩;rw[bH] at ag;have bI:=C.trans aP;have ah:=ag.here;obtain⟨dc,dd,de,df,bJ,bK,di,dj,dk,dp,rfl,_⟩:=ah.form;replace c:=aP.obj c;refine aa ?_;intro dq dr du ai k;replace c:=ai.obj c;have bL:=bI.trans ai;refine aa ?_;intro bM I;replace c:=I.obj c;replace k:=I.obj k;have aj:=bL.trans I;refine aa ?_;refine J_ (ats _ m bM (s.ext aj) B (ae.ext aj)) ?_;rintro bN bO ⟨aQ,J⟩;have aR:=aj.trans J;refine⟨J,?_⟩;refine aa ?_;refine J_ (Mm _ m bO (s.ext aR) B) ?_;rintro bQ bU ⟨aS,K⟩;have aU:=aR.trans K;refine⟨J.trans K,?_⟩;refine aa ?_;refine J_ (agD m.scalars _ bU (a6.ext jG.ext aU aK) H) ?_;rintro bV q ⟨aX,L⟩;have t:=aU.trans L;have M:=(J.trans K).trans L;refine⟨M,?_⟩;have aY:cl q bN (o.kinds m):=(ha aQ).ext Flat.ext (K.trans L);have aZ:rS q bQ (o.insts m):=(aT.lF (enc:=c9.enc) (λ_=>rfl) aS).ext Flat.ext L;have a0:wT q bV (ep m.scalars):=by
  have:=aX.RJ
  unfold ep;exact this
 have a1:o.kinds m=(bF m).map (·.kind):=by unfold o.kinds;rw[if_pos d]
 have bW:=aY.form;obtain⟨bX,bY,rfl,_⟩:=bW;have b0:=aZ.form;obtain⟨b1,b3,rfl,_⟩:=b0;have b4:=a0.form;obtain⟨b5,b6,rfl,_⟩:=b4;have ak:=ah.ext ((ai.trans I).trans M);replace c:=M.obj c;replace k:=M.obj k;clear ag ah aQ aS aX;refine aa ?_;intro dv N b8 O r;have b9:=O.obj c;have ca:=O.obj k;refine aa ?_;have cb:(o.layout m).cells=((cH m:Nat):Int):=rfl;refine AE8 (cH m) cb AY λdw n dx al an=>?_;have cc:=al.obj r;have dy:=cf r;rw[<-ayz d] at an;refine aa ?_;intro ao aq a3;have ch:=an.mod (aq.mod (A:=λu=>u=N) rfl) AY;have ar:Ext q ao:=aq.ext (O.trans al) b8;have dz:=ar.size;have dA:=O.size;have dB:=al.size;clear an r cc b9 ca aq;obtain⟨dC,dF,dG⟩:=uO m;have dI:=H.1;have dK:=cf c;have dL:=cf k;refine aa ?_;refine K_ 38 m.vars.length [1,4,5,36,37] (λ_:Unit=>[]) () (λa _ v=>kW v n (p8 m a 0)/\Mod (λu=>u=n) ao v) aW aW ⟨ch,Mod.refl _ _⟩ ?_;rintro a - cj P cm ⟨l,i⟩;have e:Ext q P:=i.ext ar λcp d cq=>AY
 have x:=i.obj AY a3;have au:=a6.ext q4.ext (t.trans e) bC;refine aa ?_;apply I_<;>intro cr
 .have g:a<m.vars.length:=AY
  have b:=au.addr;obtain⟨dM,rfl⟩:=b;have dO:=qV g;have av:=ni m;have Q:=ayy d g;have p:=va m a 0;refine aa ?_;intro ct dP cu S av;refine aa ?_;intro cv aw dQ;have j:=aw.ext S cu;have cw:=j.size;refine aa ?_;apply I_<;>intro a5
  .rw[if_pos a5] at Q;have dR:m.vars[a].over<=m.scalars.length:=Classical.byContradiction λdV=>by
    have dW:=(G.var _ (FA g)).c4
    have:=Cj (s:=m.scalars) (k:=m.vars[a].over) AY
    omega
   have dY:o.cells m.vars[a] m.scalars=o.size m.vars[a].over m.scalars:=by rw[aar,if_neg AY]
   have ax:(m.vars[a].over - 1).toNat<m.scalars.length:=AY
   have cx:=OS H ax;have dZ:=H.2 _ (FA ax);rw[show(((m.vars[a].over - 1).toNat:Nat):Int)+1=m.vars[a].over from AY] at cx;have ay:=An g;obtain⟨cy,az⟩:=ay;refine aa ?_;intro a7 U;have V:=j.trans U;have W:=e.trans V;have ee:=W.obj c;have ef:=W.obj k;have cz:=V.obj x;have a8:=ak.ext W;obtain⟨_,_,_,_,_,_,_,_,_,_,y,cB,_⟩:=a8.form;injection y with f _
   injection f with aB cE aC
   subst aB aC;have cF:=a6.ext jG.ext (t.trans W) aK;have b:=cB.addr;obtain⟨cG,rfl⟩:=b;have b:=cF.addr;obtain⟨eg,rfl⟩:=b;clear au a8;refine aa ?_;refine M_ (m.vars[a].over - 1).toNat ?_ ax ?_
   .omega
   refine aa ?_;refine J_ (afT N n (o.cells m.vars[a] m.scalars).toNat _ _ _ _ (p8 m a 0) a7 AY cz (by rw[p];rfl) (l.mod V.mod (A:=λ_=>False) (λz=>z)) AY (by rw[p];omega) (by rw[p];omega)) ?_;rintro _ a9 ⟨cI,cK⟩;refine aa ?_;refine⟨g,aV,(),trivial,?_,(i.trans (V.mod)).trans cK⟩;rw[Q,<-az];exact cI
  .rw[if_neg a5] at Q;refine aa ?_;exact⟨g,aV,(),trivial,by rw[Q];exact l.mod j.mod (A:=λ_=>False) (λz=>z),i.trans j.mod⟩
 have aD:a=m.vars.length:=AY
 subst aD;clear au;refine aa ?_;refine K_ 69 (o.insts m).length [1,4,5,67,68] (λ_:Unit=>[]) () (λa _ v=>kW v n (p8 m m.vars.length a)/\Mod (λu=>u=n) ao v) aW aW ⟨l,i⟩ ?_;clear l i e x;rintro a - cj P cm ⟨l,i⟩;have e:Ext q P:=i.ext ar λcp d cq=>AY
 have x:=i.obj AY a3;have X:=aZ.ext Flat.ext e;have p:=va m m.vars.length a;refine aa ?_;apply I_<;>intro cr;rotate_left
 .have aD:a=(o.insts m).length:=AY
  subst aD;rw[ayw d] at l;have aE:=We m;have bb:=kW.im l (by unfold maxLen;omega);rw[aE] at bb;refine aa ?_;refine⟨.inr ⟨d,N,aV,_,x,bq,bt,bu,bg,bw,bj,bx,bz,bA,bB,bX,bY,some ⟨n,0,none⟩,cH m,b1,b3,bJ,bK,b5,b6,?_,s.ext (t.trans e),⟨_,rfl,?_⟩,?_,X,?_,a6.ext A5 e a0⟩,t.trans e⟩
  .rw[aE,a1,AG8];rfl
  .have:=aY.ext Flat.ext e
   rw[a1,AG8] at this;exact this
  .rw[aE];exact bb
  .obtain⟨_,_,_,_,_,_,_,_,_,_,y,_,_,Y,_⟩:=(ak.ext e).form;injection y with _ f
   injection f with _ f
   injection f with f _
   rw[<-f] at Y;exact Y
 have g:a<(o.insts m).length:=AY
 have cL:=wg g;obtain⟨aF,Z⟩:=cL;have cM:=Z.eq;have A:=Z.aB;have eh:=Z.room;have cN:=ayx d Z;have ei:=(G.proc _ (FA A)).over;have ej:=(G.proc _ (FA A)).gT;have ay:=qH g;obtain⟨cy,az⟩:=ay;have b:=X.addr;obtain⟨cP,rfl⟩:=b;have cQ:fy P (cP.add (a*2)) [.I (o.insts m)[a].proc,.I (o.insts m)[a].elem]:=a6.at X a g;have aG:=a6.ext AH.ext (t.trans e) bD;have b:=aG.addr;obtain⟨eo,rfl⟩:=b;have b:=aG.at aF A;obtain⟨_,er,dN,bf,cS,cU⟩:=b;have b:=cS.form;obtain⟨_,_,rfl,_⟩:=b;have b:=cU.form;obtain⟨_,_,rfl,_⟩:=b;clear X aG;refine aa ?_;intro ct et cV S av;refine aa ?_;intro cv aw r;have j:=aw.ext S cV;have cW:=(e.trans j).obj c;have cX:=bf.ext j;have cw:=j.size;clear cQ S av bf;refine aa ?_;refine M_ aF cM A ?_;refine aa ?_;intro a7 eu eB U bk;have cY:=j.trans U;have c0:=U.obj r;clear cX cW r;refine aa ?_;intro a9 bl;have ab:=cY.trans bl;have bo:=e.trans ab;have eC:=bo.obj k;have c1:=ab.obj x;have eE:=bl.obj bk;have bp:=ak.ext bo;obtain⟨_,_,_,_,_,_,_,_,_,_,y,_,_,Y,_⟩:=bp.form;injection y with _ f
 injection f with _ f
 injection f with f _
 injection f with aB cE aC
 subst aB aC;have b:=Y.addr;obtain⟨cG,rfl⟩:=b;clear bp c0 bk;refine aa ?_;refine J_ (afT N n (1+(m.procs[aF]'A).vars.length) _ _ _ _ (p8 m m.vars.length a) a9 AY c1 (by rw[p];rfl) (l.mod ab.mod (A:=λ_=>False) (λz=>z)) AY (by rw[p];omega) (by rw[p];omega)) ?_;rintro _ eF ⟨c2,c3⟩;refine aa ?_;refine⟨g,aV,(),trivial,?_,(i.trans ab.mod).trans c3⟩;rw[cN,<-az];exact c2
theorem agv(cs:C_ B_)(v vs:B_)(m:o.Model)(g:C_ (C_ Int))(s:C_ Int)(w:A_)(h:dU w cs m)(n:m.cB)(p:gi w)(d:gS w v g)(e:cl w vs s) :
  EL F.j #[.agg cs.toArray,v,vs] w λf q=>((hH m s/\fU m.scalars g/\cl q f (hj m g s))\/(¬(hH m s/\fU m.scalars g)/\f = .slice none 0 0))/\Ext w q:=by
 have r:=h;obtain⟨Q,S,U,bg,V,bj,W,X,Y,Z,rfl,_⟩:=h.form;obtain⟨ab,ae,rfl,_⟩:=e.form;obtain⟨af,ag,rfl,_⟩:=d.form;refine bn E.j ?_;refine aa ?_;intro H ah ai i I;refine aa ?_;refine J_ (Ic _ m H (r.ext i) n (p.ext i)) ?_;rintro _ J ⟨K,t⟩;have j:=i.trans t;rcases K with ⟨b,rfl⟩ | ⟨b,u,rfl,x⟩
 .refine aa ?_;exact⟨.inr ⟨λh=>b h.1.1,aV⟩,j⟩
 have L:=t.obj I;refine aa ?_;refine J_ (agF u _ m g J x (jX b) (iR j d)) ?_;rintro _ M ⟨⟨k,rfl,y⟩,l⟩;have a:=j.trans l;have aj:=l.obj L;cases k with
 | false =>
  refine aa ?_;exact⟨.inr ⟨λh=>(by have:=y.2 h.2;cases this),aV⟩,a⟩
 | true =>
 have z:=y.1 rfl;refine aa ?_;refine J_ (VX _ m _ s M (r.ext a) n (p.ext a) (e.ext Flat.ext a)) ?_;rintro _ N ⟨⟨k,rfl,A⟩,B⟩;have c:=a.trans B;cases k with
 | false =>
  refine aa ?_;exact⟨.inr ⟨λh=>(by have:=A.2 h.1;cases this),aV⟩,c⟩
 | true =>
 have C:=A.1 rfl;refine aa ?_;refine J_ (U0 u _ _ m g s N (x.ext (l.trans B)) b z (iR c d) (e.ext Flat.ext c) C.2) ?_;rintro f ak ⟨O,P⟩;have G:=ha O;obtain⟨al,an,rfl,_⟩:=G.form;refine aa ?_;exact⟨.inl ⟨C,z,G⟩,c.trans P⟩
theorem agw(cs:C_ B_)(vs:B_)(m:o.Model)(s:C_ Int)(w:A_)(h:dU w cs m)(g:m.cB)(i:gi w)(b:cl w vs s) :
  EL F.f #[.agg cs.toArray,vs] w λc j=>((hH m s/\cl j c (fb m s))\/(¬hH m s/\c = .slice none 0 0))/\Ext w j:=by
 have k:=h;obtain⟨G,H,I,bg,J,bj,K,L,M,N,rfl,_⟩:=h.form;obtain⟨O,P,rfl,_⟩:=b.form;refine bn E.f ?_;refine aa ?_;intro t Q S d u;refine aa ?_;refine J_ (Ic _ m t (k.ext d) g (i.ext d)) ?_;rintro _ v ⟨x,l⟩;have a:=d.trans l;rcases x with ⟨e,rfl⟩ | ⟨e,y,rfl,z⟩
 .refine aa ?_;exact⟨.inr ⟨λh=>e h.1,aV⟩,a⟩
 have U:=l.obj u;refine aa ?_;refine J_ (VX _ m _ s v (k.ext a) g (i.ext a) (b.ext Flat.ext a)) ?_;rintro _ A ⟨⟨B,rfl,n⟩,p⟩;have f:=a.trans p;cases B with
 | false =>
  refine aa ?_;exact⟨.inr ⟨λh=>(by have:=n.2 h;cases this),aV⟩,f⟩
 | true =>
 have q:=n.1 rfl;refine aa ?_;refine J_ (Ou y _ m s A (z.ext p) e (b.ext Flat.ext f) q.2) ?_;rintro c V ⟨r,C⟩;obtain⟨W,X,rfl,_⟩:=r.form;refine aa ?_;exact⟨.inl ⟨q,r⟩,f.trans C⟩
theorem agx(cs:C_ B_)(v:B_)(m:o.Model)(g:C_ (C_ Int))(x:Int)(w:A_)(h:dU w cs m)(s:m.cB)(t:gi w)(c:gS w v g) :
  EL F.i #[.agg cs.toArray,v,.I x] w λj u=>(((o.check m).bK=0/\fU m.scalars g/\(0<=x/\x<(o.refs m).length)/\j = .I (Aa m (gK g) x.toNat))\/(¬((o.check m).bK=0/\fU m.scalars g/\(0<=x/\x<(o.refs m).length))/\j = .I (-1)))/\Ext w u:=by
 have y:=h;obtain⟨H,I,J,bg,K,bj,L,M,N,O,rfl,_⟩:=h.form;obtain⟨P,Q,rfl,_⟩:=c.form;refine bn E.i ?_;refine aa ?_;intro z S U d V;refine aa ?_;refine J_ (Ic _ m z (y.ext d) s (t.ext d)) ?_;rintro _ A ⟨e,B⟩;have f:=d.trans B;rcases e with ⟨a,rfl⟩ | ⟨a,k,rfl,l⟩
 .refine aa ?_;exact⟨.inr ⟨λh=>a h.1,aV⟩,f⟩
 refine aa ?_;refine J_ (agF k _ m g A l (jX a) (iR f c)) ?_;rintro _ C ⟨⟨G,rfl,n⟩,p⟩;have b:=f.trans p;cases G with
 | false =>
  refine aa ?_;exact⟨.inr ⟨λh=>(by have:=n.2 h.2.1;cases this),aV⟩,b⟩
 | true =>
 have q:=n.1 rfl;refine aa ?_;refine J_ (agM k _ m g x C (l.ext p) a q (iR b c)) ?_;rintro _ W ⟨e,r⟩;rcases e with ⟨i,rfl⟩ | ⟨i,rfl⟩
 .refine aa ?_;exact⟨.inr ⟨λh=>i h.2.2,aV⟩,b.trans r⟩
 .refine aa ?_;exact⟨.inl ⟨a,q,i,aV⟩,b.trans r⟩
def avv(cs:C_ B_)(m:o.Model)(w:A_)(h:dU w cs m)(ak:m.cB)(al:gi w) :
  EL F.af #[.agg cs.toArray] w λx N=>(((o.check m).bK=0/\wT N x (ep m.scalars))\/(¬(o.check m).bK=0/\x = .slice none 0 0))/\Ext w N:=by
 have an:=h;obtain⟨bf,bk,bl,bg,bo,bj,bp,bq,bt,bu,rfl,_⟩:=h.form;refine bn E.af ?_;refine aa ?_;intro ao bw bx y bz;refine aa ?_;refine J_ (Ic _ m ao (an.ext y) ak (al.ext y)) ?_;rintro _ O ⟨e,aq⟩;have z:=y.trans aq;rcases e with ⟨i,rfl⟩ | ⟨i,bA,rfl,s⟩
 .refine aa ?_;exact⟨.inr ⟨i,aV⟩,z⟩
 obtain⟨bB,bC,s⟩:=s;obtain⟨bD,bE,bG,bH,bI,bJ,bK,bL,bM,bN,bO,bQ,bU,bV,bW,bX,bY,b0,b1,b3,rfl,_,_,_,_,_,ar⟩:=s.ex;clear s;have t:=jX i;have b4:=ab2 t;have au:=λ{a:Nat} (A:a<(ep m.scalars).length)=>(uT t).1 (FA A);have av:=z.size;refine aa ?_;refine K_ 23 (ep m.scalars).length [21,22] (λc:ez=>[(5,.slice c.1 c.2.1 c.2.2)]) (none,0,0) (λa c n=>oW T.d w.heap.size O.heap.size n (.slice c.1 c.2.1 c.2.2) ((ep m.scalars).take a)/\Ext O n) aW aW ⟨oW.nil _ _ _ _,Ext.refl _⟩ ?_;rintro a ⟨aw,ax,ay⟩ az j A ⟨p,u⟩;dsimp only at p;have B:wT j _ _:=a6.ext A5 u ar;have b5:=u.size;refine aa ?_;apply I_<;>intro b6;rotate_left
 .refine aa ?_;rw[IA AY] at p;exact⟨.inl ⟨i,(p.V2 av).RJ⟩,z.trans u⟩
 have b:a<(ep m.scalars).length:=AY
 have P:=au b;have b8:=P.len;have b9:=t.1;have e:=a6.addr B AY;obtain⟨aB,rfl⟩:=e;have aC:wS j (aB.add (a*1)) ((ep m.scalars)[a]'b):=a6.at B a b;obtain⟨ca,Q,S⟩:=aC;have e:=S.form;obtain⟨cb,cc,rfl,_⟩:=e;clear B;refine aa ?_;refine L_ Q ?_;refine aa ?_;intro aD U aE V W;have ch:=V.size;have X:ey q3 T.b 1 j.heap.size aD (.slice (some ⟨U,0,none⟩) 0 0) []:=⟨[],rfl,aT.empty aE W,λa h=>by cases h⟩;clear Q;refine aa ?_;refine K_ 30 ((ep m.scalars)[a]'b).length [5,21,22,23,28,29] (λc:ez=>[(8,.slice c.1 c.2.1 c.2.2)]) (some ⟨U,0,none⟩,0,0) (λd c n=>ey q3 T.b 1 j.heap.size n (.slice c.1 c.2.1 c.2.2) (((ep m.scalars)[a]'b).take d)/\Ext j n) aW aW ⟨X,V⟩ ?_;clear X W;rintro d ⟨Y,cj,Z⟩ az C cm ⟨k,q⟩;dsimp only at k;have ab:=iR q S;have cp:=q.size;refine aa ?_;apply I_<;>intro cq
 .have f:d<((ep m.scalars)[a]'b).length:=AY
  have ae:d<m.scalars.length:=AY
  have e:=a6.addr ab AY;obtain⟨aF,rfl⟩:=e;have aG:oT C (aF.add (d*1)) (((ep m.scalars)[a]'b)[d]'f):=a6.at ab d f;obtain⟨cr,aH,af⟩:=aG;have aI:=af.form;obtain⟨ct,cu,rfl,_⟩:=aI;have cv:=(P.perm d f ae).len;have cw:=t.2 _ (FA ae);refine aa ?_;refine L_ aH ?_;refine aa ?_;refine J_ (HE _ _ C af (by unfold eO;omega)) ?_;rintro x v ⟨ag,g⟩;have aJ:=ag.form;obtain⟨G,H,rfl,_⟩:=aJ;have I:=k.ext g;have aK:=g.size;have aL:ec C (λw=>cl w (.slice G (((ep m.scalars)[a]'b)[d]'f).length H) (((ep m.scalars)[a]'b)[d]'f)) v:=aT.new (enc:=da) (λ_=>rfl) ag;refine aa ?_;intro aP aQ aR r J;have cx:=r.size;refine _A (x:=((ep m.scalars)[a]'b)[d]'f) (cs:=[.slice G (((ep m.scalars)[a]'b)[d]'f).length H]) (I.ext r) (g5 J) (((ec.own aL k AY).imp λw h=>⟨_,rfl,h⟩).ext r λa A i=>by have:=I.under AY a i;omega) rfl (by simp[Value.oneCell']) (by rw[IP];omega) (by rw[IP];unfold maxLen;omega) AY λaS cy ah aU=>?_;have aX:=(I.ext r).h9 ((q.trans g).trans r) aU (EM _);have e:=ah.form;obtain⟨L,M,rfl,_⟩:=e;refine aa ?_;refine⟨f,aV,(L,_,M),aW,?_,aX⟩;rw[Oi f];exact ah
 .rw[IA AY] at k;have e:=k.form;obtain⟨G,H,aY,_⟩:=e;injection aY with aZ a0 a1
  subst aZ a0 a1;have a3:=p.ext q;have a5:=p.lt;refine aa ?_;intro v aQ aR g J;have ai:=a3.ext g;have aK:=g.size;have a7:oi (λd=>d<j.heap.size) v (.slice Y ((ep m.scalars)[a]'b).length Z) ((ep m.scalars)[a]'b):=ey.ayi (k.ext g) (EM _);have a8:oi (rV (.slice aw ax ay) w.heap.size) v (.slice Y ((ep m.scalars)[a]'b).length Z) ((ep m.scalars)[a]'b):=a7.move (A:=λ_=>False) (Mod.refl _ _) (λ_ _ l=>l.elim) λa9 _ l=>by
   rcases l with l | l
   .exact(a5 a9 l).2
   .omega
  refine K.aks ai J a8 (by simp[Value.oneCell']) (by rw[IP];omega) (by rw[IP];unfold maxLen;omega) AY AY λaS aP aj bb=>?_;have iW:=ai.h9 ((u.trans q).trans g) bb (EM _);have e:=aj.form;obtain⟨L,M,rfl,_⟩:=e;refine aa ?_;refine⟨b,aV,(L,_,M),aW,?_,iW⟩;rw[Oi b];exact aj
end Go.Proofs.R
namespace o
open Go
theorem axD{m:Model}(f:(check m).bK=0){l:C_ cR}{s d:C_ Int}(g:Fits m s)(i:gE m l (fb m s)=some d){k:Nat}(h:k<l.length) :
  Fits m (runM m (l.take k) s).2/\(∃b,lG m (fb m (runM m (l.take k) s).2) l[k]=some b) /\
   runM m (l.take (k+1)) s=((runM m (l.take k) s).1++[k1 m (runM m (l.take k) s).2 l[k]],p7 m (runM m (l.take k) s).2 (k1 m (runM m (l.take k) s).2 l[k])):=by
 have a:gE m (l.take k++l.drop k) (fb m s)=some d:=by rw[AH6];exact i
 rw[JB] at a;cases c:gE m (l.take k) (fb m s) with
 | none=>rw[c] at a;cases a
 | some e =>
  rw[c] at a;simp only at a;obtain⟨j,n⟩:=Iu f _ s e g c;rw[AG0 h,gE] at a;refine⟨j,?_,?_⟩
  .rw[n];cases p:lG m e l[k] with
   | none =>
    unfold wu at a;rw[p] at a;cases a
   | some b=>exact⟨b,rfl⟩
  .rw[Oi h,u5];rfl
end o
namespace Go.Proofs.R
open Go Go.RowKit ba o
attribute [local irreducible] ep bF o.insts o.refs jA fH o.runM k1 p7
def Oy{i:Nat}(b:Nat)(v L:B_)(m:o.Model)(s d:C_ Int)(l:C_ cR)(w:A_)(h:nH w b m)(ab:m.cB)(ae:gi w)(e:(o.check m).bK=0)(M:ji i w v s)(aK:i<=w.heap.size)(af:o.Fits m s)(A:a6 2 (Flat cR.enc) w L l)(aL:l.length<=1000)(ag:gE m l (fb m s)=some d) :
  EL F.ud #[.pointer (some ⟨b,0,none⟩),v,L] w λah B=>(∃r N O j,ah = .tuple #[.slice r (o.runM m l s).1.length N,.slice O (o.runM m l s).2.length j]/\aT cR.enc T.g 2 w.heap.size B (.slice r (o.runM m l s).1.length N) (o.runM m l s).1/\ji i B (.slice O (o.runM m l s).2.length j) (o.runM m l s).2)/\Ext w B:=by
 obtain⟨ai,aj,rfl,_⟩:=M.qN.form;obtain⟨aP,aQ,rfl,aR⟩:=A.form;have P:o.runM m [] s=([],s):=by unfold o.runM;rfl
 have ak:=λa=>Ch m (l.take a) s;refine bn E.ud ?_;refine aa ?_;refine K_ 15 l.length [0,2,13,14] (λc:ez×ez=>[(1,.slice c.1.1 c.1.2.1 c.1.2.2),(8,.slice c.2.1 c.2.2.1 c.2.2.2)]) ((ai,s.length,aj),(none,0,0)) (λa c C=>ji i C (.slice c.1.1 c.1.2.1 c.1.2.2) (o.runM m (l.take a) s).2/\aT cR.enc T.g 2 w.heap.size C (.slice c.2.1 c.2.2.1 c.2.2.2) (o.runM m (l.take a) s).1/\Ext w C) aW aW ⟨by rw[AL3,P];exact M,by rw[AL3,P];exact aT.nil _ _ _ _ _,Ext.refl _⟩ ?_;rintro a ⟨⟨aS,aU,bg⟩,⟨al,aX,an⟩⟩ aY ao aZ ⟨k,n,t⟩;dsimp only at k n;have p:=k.qN.form;obtain⟨a0,a1,aq,_⟩:=p;injection aq with G H I
 subst G H I;have p:=n.form;obtain⟨a3,a5,ar,_⟩:=p;injection ar with G H I
 subst G H I;have J:=A.ext Flat.ext t;have Q:=ak a;refine aa ?_;apply I_<;>intro a7;rotate_left
 .have au:a=l.length:=AY
  subst au;rw[IA (EM _)] at k n;refine aa ?_;rw[IA (EM _)];exact⟨⟨_,_,_,_,aV,n,k⟩,t⟩
 have f:a<l.length:=AY
 obtain⟨av,⟨S,aw⟩,U⟩:=axD e af ag f;have p:=J.addr;obtain⟨ax,rfl⟩:=p;have ay:fy ao (ax.add (a*2)) [.I (l[a]'f).cmd,.I (l[a]'f).eH]:=a6.at J a f;clear J A;refine aa ?_;intro az a8 a9 u aB;have x:=t.trans u;have bb:=t.size;have bf:=u.size;refine aa ?_;refine J_ (avC b _ m _ S (l[a]'f) az (h.ext x) ab (ae.ext x) e (k.ext u) (by have:=x.size;omega) av aw) ?_;rintro _ bk ⟨⟨aC,bj,rfl,aD⟩,K⟩;have aE:=x.trans K;have bl:=K.size;clear ay aB;refine aa ?_;intro bo bp bq y bt;have V:=aE.trans y;have bu:=y.size;refine aa ?_;intro bw bx bz q aF;have z:=((n.ext u).ext K).ext (y.trans q);have bA:=q.size;refine T_ (enc:=cR.enc) (y:=k1 m (o.runM m (l.take a) s).2 (l[a]'f)) z aF rfl (λ_=>rfl) cR.one (by rw[Q,IP];omega) (by rw[Q,IP];unfold maxLen;omega) (V.trans q).size λr aG j W aH X=>?_;have iV:Ext w W:=(V.trans q).grown X λg Y=>(aT.lt z g Y).1;have aI:ji i W _ _:=(aD.ext (y.trans q)).move (A:=λg=>(Value.slice al (o.runM m (l.take a) s).1.length an).ownBlock=some g) (Mod.grown X λa e=>e) λg Y Z=>by
  obtain⟨bB,aJ⟩:=aT.b0 z g Z;refine⟨by have:=(aT.lt z g Z).1;omega,λj S bC e=>?_⟩;rw[aJ] at e;injection e with e;injection e with _ e;subst e;decide
 refine aa ?_;refine⟨f,aV,((aC,_,bj),(r,aG,j)),aW,?_,?_,iV⟩
 .rw[U];exact aI
 .rw[U];exact aH
end Go.Proofs.R
namespace o
open Go
theorem ahS(m:Model)(l:C_ cR)(s:C_ Int):∀b a,a<=b->∃c,(runM m (hq l b) s).1=(runM m (hq l a) s).1++c
 | 0,a,d=>⟨[],by rw[show a=0 by omega,AG5]⟩
 | b+1,a,d=>by
  by_cases e:a=b+1
  .exact⟨[],by rw[e,AG5]⟩
  .obtain⟨c,f⟩:=ahS m l s b a AY;exact⟨c++(runM m l (jy m l s b)).1,by rw[ahT,f,Vh]⟩
def afF(m:Model)(a b:C_ cR)(f:C_ Int)(n:Nat):(runM m (a++hq b n) f).1.length=a.length+n*b.length:=by
 rw[Ch,JM,OL]
def afG(m:Model)(a b:C_ cR)(f:C_ Int){i n:Nat}(h:i<=n):(runM m (a++hq b n) f).1.take (a.length+i*b.length)=(runM m (a++hq b i) f).1:=by
 obtain⟨c,d⟩:=ahS m b (runM m a f).2 n i h;have e:(runM m (a++hq b n) f).1=(runM m (a++hq b i) f).1++c:=by
  rw[u5,u5];simp only;rw[d,Vh]
 rw[e,<-afF m a b f i,List.take_left'];rfl
def atN(m:Model)(b a:C_ cR)(f:C_ Int)(n:Nat):(runM m (b++hq a (n+1)) f).1=(runM m (b++hq a n) f).1++(runM m a (jy m a (runM m b f).2 n)).1:=by
 rw[u5,u5];simp only;rw[ahT,Vh]
def atO(m:Model)(a b:C_ cR)(f:C_ Int):(runM m (a++hq b 0) f).1=(runM m a f).1:=by
 show(runM m (a++[]) f).1=_;rw[AG5]
theorem axr(m:Model)(l:C_ cR)(s:C_ Int):jy m l s 0=s:=rfl
theorem adg(m:Model)(l:C_ cR)(s:C_ Int):jP m l s 0=[]:=rfl
def aqo{m:Model}{l:C_ cR}{s:C_ Int}{n:Nat}(f:(jP m l s n).Nodup):(∃b,b<n/\ba.hd (λa=>decide (a=jy m l s n)) (jP m l s n) 0=(b:Int)/\YY m l s b n)\/(ba.hd (λa=>decide (a=jy m l s n)) (jP m l s n) 0 = -1/\(jP m l s (n+1)).Nodup):=by
 by_cases a:jy m l s n∈jP m l s n
 .obtain⟨b,g,j,k⟩:=Rw (p:=λa=>decide (a=jy m l s n)) (jP m l s n) 0 ⟨_,a,Ah⟩;have d:b<n:=by rwa[SA] at g
  have h:=List.find?_some k;have c:=aqp m l s d;rw[List.getElem?_eq_getElem g] at c;injection c with c
  simp only[decide_eq_true_eq] at h;exact .inl ⟨b,d,by rw[j,ZQ],d,by rw[<-h,c],f⟩
 .refine .inr ⟨Rt _ _ λr p=>?_,?_⟩
  .simp only[decide_eq_false_iff_not];intro e;subst e;exact a p
  .rw[adf];exact List.nodup_append.2 ⟨f,Ah,λt q u i e=>a (by rw[AH0] at i;rw[<-i,<-e];exact q)⟩
end o
namespace Go.Proofs.R
open Go Go.RowKit ba o
attribute [local irreducible] ep bF o.insts o.refs jA fH o.runM k1 p7 jP dn gE
structure oh(cG base:Nat)(W:World)(v:Value)(Q:List (List Int)):Prop where
 ex:∃bL:List (hz 1),bL.length=Q.length/\og T.b 1 base W v bL/\∀i (I:i<bL.length) (U:i<Q.length),∃u,bL[i].1=[u]/\ji cG W u Q[i]
def oh.nil(a base:Nat)(b:A_):oh a base b (.slice none 0 0) []:=⟨[],rfl,aT.nil _ _ _ _ _,λd c=>by cases c⟩
def oh.form{c base:Nat}{d:A_}{v:B_}{Q:C_ (C_ Int)}(h:oh c base d v Q):∃b a,v = .slice b Q.length a/\Q.length<=a/\a<=maxLen:=by
 obtain⟨j,e,f,_⟩:=h.ex;obtain⟨b,a,g,k,i⟩:=f.form;exact⟨b,a,by rw[g,e],AY,i⟩
def oh.move{d base:Nat}{A:Nat->Prop}{b e:A_}{v:B_}{Q:C_ (C_ Int)}(h:oh d base b v Q)(m:Mod A b e)(f:∀a,a<b.heap.size->A a->tH d b a)(g:∀c,v.ownBlock=some c->¬A c):oh d base e v Q:=by
 obtain⟨i,j,k,l⟩:=h.ex;exact⟨i,j,k.mod m g,λa n p=>let ⟨q,r,c⟩:=l a n p; ⟨q,r,c.move m f⟩⟩
theorem oh.ext{b base:Nat}{c d:A_}{v:B_}{Q:C_ (C_ Int)}(h:oh b base c v Q)(m:Ext c d):oh b base d v Q:=h.move (A:=λ_=>False) m.mod (λ_ _ a=>a.elim) λ_ _ a=>a
def oh.b0{e base:Nat}{b:A_}{v:B_}{Q:C_ (C_ Int)}(h:oh e base b v Q):∀a,v.ownBlock=some a->base<=a/\a<b.heap.size/\∃f,b.heap[a]? = some (.cells f T.b):=λa c=>by
 obtain⟨g,i,d,j⟩:=h.ex;exact⟨(d.lt a c).1,(d.lt a c).2,d.b0 a c⟩
def oh.UP{b base:Nat}{a:A_}{v:B_}{Q:C_ (C_ Int)}(h:oh b base a v Q):gS a v Q:=by
 obtain⟨m,c,d,e⟩:=h.ex;exact a6.B9 c (d.im iZ) λf g i=>let ⟨j,k,l⟩:=e f g i; ⟨j,k,l.qN⟩
def _root_.ba.K.aku{P:D_}{p:B_->A_->Prop}{f base:Nat}{w:A_}{v:B_}{Q:C_ (C_ Int)}{A:F_}{b q:Nat}{d:B_}{g:C_ Int}{t}(r:oh f base w v Q)(B:w.heap[q]? = some (.cells #[d] T.b))(C:ji f w d g)(h:d.oneCell'=true)
  (G:(Q.length+1)*b<=140737488355328)(H:Q.length+1<=maxLen)(I:base<=w.heap.size)(S:f<=base)
  (a:∀i e,oh f base e i (Q++[g])->w.grownBy e v.ownBlock->p i e):lJ P A T.b 1 b v (.slice (some ⟨q,0,none⟩) 1 1) w p t:=by
 obtain⟨j,l,J,K⟩:=r.ex;refine _I (enc:=kE) (ys:=[(⟨[d],rfl,by simpa using h⟩:hz 1)]) J iZ (by simpa[kE] using g5 B) rfl vD (by rw[l];exact G) (by rw[l];exact H) I λi e L s U=>a i e ⟨j++[⟨[d],rfl,by simpa using h⟩],by simp[l],L,λc h M=>?_⟩ s;have u:Mod (λx=>v.ownBlock=some x) w e:=Mod.grown s λx a=>a;have y:∀c,c<w.heap.size->v.ownBlock=some c->tH f w c:=λc _ k=>by
  obtain⟨V,W,X,N⟩:=r.b0 c k;exact⟨AY,λY t Z a=>by rw[N] at a;injection a with a;injection a with _ a;subst a;decide⟩
 rw[JM] at h M;by_cases k:c<j.length
 .have z:c<Q.length:=AY
  obtain⟨O,m,n⟩:=K c k z;exact⟨O,by simpa[List.getElem_append,k] using m,by simpa[List.getElem_append,z] using n.move u y⟩
 .have m:c=j.length:=by simp at h;omega
  subst m;have n:¬j.length<Q.length:=AY
  exact⟨d,Ah,by simpa[List.getElem_append,n] using C.move u y⟩
def atJ(a vs:B_)(h s:C_ Int)(b:Nat)(w:A_)(j:w.heap[b]? = some (.cells #[vs] T.b))(c:cl w vs s)(d:cl w a h) :
  EL F.as #[a,.pointer (some ⟨b,0,none⟩)] w λe f=>e = .bool (decide (h=s))/\Ext w f:=by
 refine bn E.as ?_;refine aa ?_;refine J_ (BX _ _ _ _ w d c) ?_;rintro _ k ⟨⟨l,rfl,g⟩,i⟩;refine aa ?_;exact⟨by congr 1;rw[AH3,decide_eq_true_eq];exact g,i⟩
theorem ahZ(v:B_)(xs:C_ cR)(w:A_)(h:a6 2 (Flat cR.enc) w v xs)(y:xs.length<=1000000) :
  EL F.ci #[v] w λc d=>aT cR.enc T.g 2 w.heap.size d c xs/\Ext w d:=by
 obtain⟨f,z,rfl,A⟩:=h.form;refine vh E.ci ?_;refine om ?_;refine aa ?_;refine AA2 (e:=T.g) Cl ?_;cases f with
 | none =>
  refine aa ?_;have g:xs=[]:=Classical.byContradiction λi=>by
   obtain⟨j,k⟩:=h.addr (List.length_pos_iff.2 i);cases k
  subst g;refine _E rfl ?_;refine aa ?_;exact⟨aT.nil _ _ _ _ _,Ext.refl _⟩
 | some j =>
  refine aa ?_;refine _F rfl ?_;refine aa ?_;intro l m n a p;have e:aT cR.enc T.g 2 w.heap.size l (.slice (some ⟨m,0,none⟩) 0 0) []:=aT.empty n p;refine aa ?_;refine _Z (enc:=cR.enc) e (h.ext Flat.ext a) (λ_=>rfl) cR.one (by simp only[List.length_nil];omega) (by simp only[List.length_nil];unfold maxLen;omega) a.size λc q b r=>?_;rw[AH9] at b;have s:Ext w q:=a.grown r λt u=>(e.lt t u).1;have x:=b.form;obtain⟨B,C,rfl,_⟩:=x;refine aa ?_;exact⟨b,s⟩
end Go.Proofs.R