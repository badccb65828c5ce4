/- Parts. -/
import Derived.Test.YtlhljkikdhblbaaGreatDoorQsgk
import Derived.Laws.Pointers
set_option linter.all false
set_option maxRecDepth 8000
set_option maxHeartbeats 16000000
namespace o
def Mo{m:Model}(h:(check m).bN=0):lyz m=layout m:=by unfold lyz;rw[if_pos h]
def asZ{m:Model}(h:¬(check m).bN=0):lyz m=UB:=by unfold lyz;rw[if_neg h]
def asE{m:Model}(h:(check m).bN=0):kinds m=(bD m).map (·.kind):=by unfold kinds;rw[if_pos h]
def asD{m:Model}(h:¬(check m).bN=0):kinds m=[]:=by unfold kinds;rw[if_neg h]
def iq{m:Model}(h:gm m):(bD m).length<=64:=by
 have:=Ml h
 have:=h.cells
 omega
open Go Go.RowKit a8 in
def nf.zero(w:A_):nf w [.slice none 0 0,.slice none 0 0,.slice none 0 0,.I 0,.slice none 0 0,.slice none 0 0] UB:=⟨_,_,_,_,_,rfl,a4.nil,a4.nil,a4.nil,a4.nil,a4.nil⟩
end o
namespace Go.Proofs.R
open Go Go.RowKit a8 o
def T4(cs:C_ B_)(m:o.Model)(w:A_)(h:eu w cs m)(k:m.cS)(t:gZ w) :
  EG F.mS #[.agg cs.toArray] w λu l=>(∃f,u = .agg f.toArray/\ei w (λw=>nf w f (lyz m)) l)/\Ext w l:=by
 have n:=h;obtain⟨G,H,I,bg,J,bj,K,L,M,N,rfl,_⟩:=h.form;refine bm E.mS ?_;refine ad ?_;intro O P Q p b;refine ad ?_;intro v S U q a;have V:=ca b;replace b:=q.obj b;have W:=ca a;have X:=p.size;have g:=p.trans q;refine ad ?_;refine J_ (afn _ m v (n.ext g) k (t.ext g)) ?_;rintro _ x ⟨rfl,d⟩;replace b:=d.obj b;replace a:=d.obj a;have e:=g.trans d;by_cases c:(o.check m).bN=0
 .rw[decide_eq_true c];refine ad ?_;refine J_ (ae2 _ m x (n.ext e) k (g6 c)) ?_;rintro _ y ⟨⟨f,Y,rfl,r,z⟩,i⟩;obtain⟨Z,ab,ae,af,ag,ah,ai,aj,ak,al,rfl,_⟩:=r.here.form;obtain⟨an,ao,rfl,_⟩:=z.here.form;replace a:=i.obj a;have A:=e.trans i;have aq:=d.size;refine ad ?_;intro ar au av j aw;replace a:=j.obj a;refine ad ?_;intro ax s az;have B:=(r.ext j i.size).wr s AW;refine ad ?_;exact⟨⟨_,rfl,by rw[Mo c];exact B.low e.size⟩,s.ext (A.trans j) AW⟩
 .rw[decide_eq_false c];refine ad ?_;intro y C aA;refine ad ?_;exact⟨⟨[_,_,_,_,_,_],rfl,by rw[asZ c];exact gF.of λ_=>nf.zero _⟩,C.ext e AW⟩
def asX(cs:C_ B_)(m:o.Model)(w:A_)(h:eu w cs m)(i:m.cS)(B:gZ w) :
  EG F.vy #[.agg cs.toArray] w λa j=>aR da T.a 1 w.heap.size j a (o.kinds m)/\Ext w j:=by
 have k:=h;obtain⟨Q,S,U,bg,V,bj,W,X,Y,Z,rfl,_⟩:=h.form;refine bm E.vy ?_;refine ad ?_;intro C ab ae e l;refine ad ?_;refine J_ (afn _ m C (k.ext e) i (B.ext e)) ?_;rintro _ G ⟨rfl,n⟩;replace l:=n.obj l;have f:=e.trans n;by_cases c:(o.check m).bN=0
 .rw[decide_eq_true c,asE c];have af:=iq (g6 c);refine ad ?_;refine J_ (ae2 _ m G (k.ext f) i (g6 c)) ?_;rintro _ ag ⟨⟨ah,ai,rfl,H,d⟩,I⟩;obtain⟨aj,ak,al,an,ao,aq,ar,au,av,aw,rfl,_⟩:=H.here.form;have d:=d.here;obtain⟨ax,az,rfl,_⟩:=d.form;have J:=f.trans I;refine ad ?_;intro p aA aB q aC;have r:=J.trans q;replace d:=d.ext Flat.ext q;refine ad ?_;refine K_ 18 (bD m).length [5,16,17] (λa:ef=>[(3,.slice a.1 a.2.1 a.2.2)]) (none,0,0) (λb a s=>Ext p s/\aR da T.a 1 p.heap.size s (.slice a.1 a.2.1 a.2.2) (((bD m).take b).map (·.kind))) aV aV ⟨Ext.refl _,aR.nil _ _ _ _ _⟩ ?_;rintro b a aD aE aF ⟨t,g⟩;refine ad ?_;apply I_<;>intro aG
  .have u:b<(bD m).length:=AW
   obtain⟨aH,rfl⟩:=d.addr;have aI:=ahH (bD m)[b];refine ad ?_;intro aJ aK aM v aP;refine ad ?_;intro aQ aS aT x K;have y:=t.trans (v.trans x);have z:=g.ext (v.trans x);have A:(((bD m).take b).map (·.kind)).length=b:=by simp;omega
   refine T_ (y:=(bD m)[b].kind) z K rfl (λ_=>rfl) je (by rw[A];omega) (by rw[A];unfold maxLen;omega) y.size λL M N aU O P=>?_;refine ad ?_;exact⟨u,aZ,(L,M,N),aV,z.hN y P (Fy _),by rw[NZ u,AF8];exact O⟩
  .rw[Im AW] at g;refine ad ?_;exact⟨aR.low r.size g,r.trans t⟩
 .rw[decide_eq_false c,asD c];refine ad ?_;exact⟨aR.nil _ _ _ _ _,f⟩
end Go.Proofs.R
namespace o
open Go
theorem aex{m:Model}:∀(g:C_ ee) (b:Nat),g=m.procs.drop b->∀c∈kD m g b,∃(e:Nat) (d:e<m.procs.length),c.proc=e/\(m.procs[e].over≠0->1<=c.elem)
 | [],_,_,c,a=>by simp[kD] at a
 | e :: i,b,d,c,a=>by
  have f:b<m.procs.length:=by
   apply Classical.byContradiction;intro h;rw[VB AW] at d;cases d
  rw[AF9 f] at d;injection d with j k
  simp only[kD,List.mem_append] at a;rcases a with (a | a) | a
  .unfold jE at a;split at a
   .rename_i l;rw[AH0] at a;subst a;exact⟨b,f,rfl,λh=>absurd (j ▸ l) h⟩
   .cases a
  .unfold km at a;obtain⟨n,_,rfl⟩:=List.mem_map.1 a;exact⟨b,f,rfl,λ_=>by simp only;omega⟩
  .exact aex i (b+1) k c a
structure hI(m:Model)(q p:Nat):Prop where
 av:q<(insts m).length
 aC:p<m.procs.length
 eq:(insts m)[q].proc=p
 elem:m.procs[p].over≠0->1<=(insts m)[q].elem
 fR:0<=(insts m)[q].elem/\(insts m)[q].elem<=4
def wh{m:Model}{q:Nat}(h:q<(insts m).length):∃a,hI m q a:=by
 obtain⟨a,b,c,d⟩:=aex m.procs 0 Ah _ (ID h);exact⟨a,h,b,c,d,(qM _ (ID h)).elem⟩
def hI.nth{m:Model}{q p:Nat}(h:hI m q p):o.nth m.procs ((insts m)[q]'(h.av)).proc=some (m.procs[p]'(h.aC)):=by
 rw[h.eq,ir AW (by have:=h.aC;omega)];rfl
theorem hI.CX{m:Model}{q p:Nat}(h:hI m q p):kj m ((insts m)[q]'(h.av))=kX m.scalars (m.procs[p]'(h.aC)):=by
 unfold kj;rw[h.nth]
def hI.room{m:Model}{q p:Nat}(h:hI m q p):b7 m q+(1+(m.procs[p]'(h.aC)).vars.length)<=cG m:=by
 have:=Hx h.av
 rw[h.CX,pt] at this;exact this
def amj{m:Model}{q:Nat}(h:q<(insts m).length):QX m q=((insts m)[q]'h).elem.toNat:=by
 unfold QX;rw[List.getElem?_eq_getElem h]
def BU{m:Model}{v:Nat}(h:v<m.vars.length):zY m v=(cells m.vars[v] m.scalars).toNat:=by
 unfold zY;rw[List.getElem?_eq_getElem h]
def o4{m:Model}{c:Nat}(h:c<m.ay.length):gq m c=m.ay[c].cap.toNat:=by
 unfold gq;rw[List.getElem?_eq_getElem h]
def ayt{m:Model}(a:gm m){v:Nat}(h:v<m.vars.length):dU m v+zY m v<=64:=by
 have:=qZ h
 rw[BU h]
 have:=nu m
 have:cG m<=64:=iq a
 omega
def Z0{m:Model}(a:gm m){c:Nat}(h:c<m.ay.length):bT m c+(1+gq m c)<=64:=by
 have:=ud h
 rw[o4 h]
 have:=nu m
 have:cG m<=64:=iq a
 omega
def hI.awW{m:Model}(a:gm m){q p:Nat}(h:hI m q p):b7 m q+(1+(m.procs[p]'(h.aC)).vars.length)<=64:=by
 have:=h.room
 have:cG m<=64:=iq a
 omega
structure azs(n:Nat)(l:List Int):Prop where
 aQ:∀x∈l,0<=x/\x<80
 len:l.length<=n
def asj{m:Model}(a:gm m):(insts m).length<=30:=by have:=tz m;have:=a.procs;omega
end o
namespace a8
open Go Go.RowKit o
def a4.sub{α:Type}{sz:Nat}{R:A_->Addr->α->Prop}{w:A_}{b:H_ Addr}{n c:Nat}{xs:C_ α}(h:a4 sz R w (.slice b n c) xs)(l a:Nat)(d:l<=a)(e:a<=xs.length) :
  a4 sz R w (.slice (if c=l then b else b.map (·.add (l*sz))) (a - l) (c - l)) ((xs.drop l).take (a - l)) :=
 (h.tail l AW).head (a - l) (by rw[AG5];omega)
section
variable{P:Program}{a9:Value->Prop}{S:Fr}{w:World}
def _Y{α:Type}{sz n cap:Nat}{R:A_->Addr->α->Prop}{b:H_ Addr}{x y:G_}{k k':IntKind}{xs:C_ α}{t}(l a:Nat)(c:a4 sz R w (.slice b n cap) xs)(g:bq S x = .int k (l:Int))(h:bq S y = .int k' (a:Int))(d:l<=a)(i:a<=xs.length)
  (j:∀e f,a4 sz R w (.slice e (a - l) f) ((xs.drop l).take (a - l))->a9 (.slice e (a - l) f)):s0 S sz (.slice b n cap) (some x) (some y) none a9 t:=by
 obtain⟨m,p,q⟩:=c.len;refine _K l a cap (by simp[fb,g]) (by simp[fb,h]) (by simp[fb]) ⟨d,AW,Fy _⟩ Ah ?_;exact j _ _ (c.sub l a d i)
def AA6{b i j:Nat}{c:C_ B_}{a:F_}{f:Nat×Nat}{v:B_}{w0:A_}{t}(d:w0.heap[b]? = some (.cells c.toArray a f))(e:Ext w0 w)(g:c[i+j]? = some v)(h:a9 v):tR (.pointer (some ((Addr.add ⟨b,0,none⟩ i).add j))) w a9 t:=by
 rw[add_add];exact _H d e g h
end
theorem aa{A B:Prop}(k:B)(h:yH B->A:=by
 intro a
 (repeat' first
 | assumption
 | exact Ext.refl _
 | refine Ext.trans ?_ CW
 | simp -dsimp only[c8,cA,Nat.reduceAdd,Nat.reduceEqDiff,reduceIte,reduceCtorEq,dq,yl,yk,x0,xZ,xp,xo,List.cons_append,List.nil_append]
 | refine Q_ AW ?_
 | refine _H CW ?_ rfl ?_
 | refine _C CW ?_ rfl ?_
 | refine _U AW ?_
 | refine _M (by first | assumption | omega) ?_
 | refine _N (by first | assumption | omega) ?_
 | refine _F CW ?_
 | refine _G CW ?_
 | refine _L CW ?_ AW rfl ?_
 | refine _S CW ?_ AW rfl ?_
 | refine _T CW ?_ AW rfl ?_
 | refine AA6 CW ?_ rfl ?_
 | refine _3 CW ?_ rfl ?_
 | refine _4 CW ?_ rfl ?_
 | refine R_ CW ?_ rfl ?_
 | refine _O (λ_=>by (simp -dsimp only[c8,Nat.reduceAdd,Nat.reduceEqDiff,reduceIte,reduceCtorEq,dq]);rfl) rfl rfl (by first | assumption | (simp[Value.oneCell',o.c7.enc,o.Ref.enc,o.Node.enc,o.Scalar.enc,o.Var.enc,o.ed.enc,o.Act.enc,o.et.enc,o.ee.enc,o.nh.enc];done)) ?_
 | refine O_ ?_
 | refine X_ CW rfl rfl (by first | assumption | (simp[Value.oneCell',o.c7.enc,o.Ref.enc,o.Node.enc,o.Scalar.enc,o.Var.enc,o.ed.enc,o.Act.enc,o.et.enc,o.ee.enc,o.nh.enc];done)) ?_
 | refine _B CW (Nat.le_of_ble_eq_true rfl) rfl ?_
 | refine _j CW (Nat.le_of_ble_eq_true rfl) rfl ?_
 | refine _E (by (simp only[gu,lay,o8,dy,bS,Value.cells,Nat.reduceAdd,Nat.reduceEqDiff,reduceIte,List.range,List.range.loop,List.map_cons,List.map_nil]);rfl) ?_
 | refine V_ (by (simp only[gu,lay,o8,dy,bS,Value.cells,Nat.reduceAdd,Nat.reduceEqDiff,reduceIte]);rfl) ?_)
 exact a.out):A:=h ⟨k⟩
end a8
namespace a8
open Go Go.RowKit
section
variable{P:Program}{a9:Value->Prop}{dx dL:Operand}
def AA7{t:F_}{p:H_ Addr}{a}(h:P.underlying t=some (.pointer (P.pointee t)))(b:a9 (.bool p.isNone)):h4 P .eql t dx dL (.pointer p) (.pointer none) a9 a :=
 _Q (v:=.bool p.isNone) (λc=>by simp[eqGuard_at_pointer,binOp,run_equal_pointer_nil c t p h]) b
def AA8{t:F_}{p:H_ Addr}{a}(h:P.underlying t=some (.pointer (P.pointee t)))(b:a9 (.bool (!p.isNone))):h4 P .neq t dx dL (.pointer p) (.pointer none) a9 a :=
 _Q (v:=.bool (!p.isNone)) (λc=>by simp[eqGuard_at_pointer,binOp,run_equal_pointer_nil c t p h]) b
def AD4{t:F_}{a}(h:P.underlying t=some (.pointer (P.pointee t)))(b:a9 (.bool true)):h4 P .eql t dx dL (.pointer none) (.pointer none) a9 a:=AA7 h b
def AD5{t:F_}{a:Addr}{b}(h:P.underlying t=some (.pointer (P.pointee t)))(c:a9 (.bool false)):h4 P .eql t dx dL (.pointer (some a)) (.pointer none) a9 b:=AA7 h c
def AD6{t:F_}{a}(h:P.underlying t=some (.pointer (P.pointee t)))(b:a9 (.bool false)):h4 P .neq t dx dL (.pointer none) (.pointer none) a9 a:=AA8 h b
def AD7{t:F_}{a:Addr}{b}(h:P.underlying t=some (.pointer (P.pointee t)))(c:a9 (.bool true)):h4 P .neq t dx dL (.pointer (some a)) (.pointer none) a9 b:=AA8 h c
end
end a8
namespace o
def ala{c:ed}{s:C_ Scalar}(h:E5 c s)(d:c.scalar≠0):∃b,∃j:b<s.length,c.scalar=(b:Int)+1/\s[b].size=size c.scalar s:=by
 have a:=h.fc.resolve_left d;unfold size at a ⊢;split at a
 .rename_i k e;obtain⟨f,g⟩:=List.getElem?_eq_some_iff.1 e;split at a
  .rename_i i;refine⟨(c.scalar - 1).toNat,f,AW,?_⟩;rw[g,if_pos i]
  .exact absurd rfl a
 .exact absurd rfl a
theorem T3(so a:Int)(l:C_ ec)(b:ec):fv so a (l++[b]) 0=fv so a l 0++[⟨so,a,(l.length:Nat),b.aQ,b.ab,b.kind⟩]:=by
 rw[T2,ZB]
end o
namespace Go.Proofs.R
open Go Go.RowKit a8 o
def Mg{α:Type}{enc:α->C_ B_}{e:F_}{sz base:Nat}{w w':A_}{v:B_}{xs:C_ α}(c:aR enc e sz base w v xs)(d:w.grownBy w' v.ownBlock):eF [e] w w':=eF.mod (A:=λb=>v.ownBlock=some b) (Mod.grown d λb f=>f) λb i j g h=>by
 obtain⟨k,a⟩:=c.b0 b h;rw[g] at a;injection a with a;injection a with _ a;rw[a];simp
def agD(cs:C_ B_)(m:o.Model)(w:A_)(h:eu w cs m)(bx:m.cS)(u:gm m) :
  EG F.Nk #[.agg cs.toArray] w λb H=>aR o.Cell.enc T.tB 6 w.heap.size H b (bD m)/\Ext w H:=by
 obtain⟨cr,ct,cu,bg,cv,bj,cw,cx,cB,cC,rfl,an,aI,a0,a2,cD,cF,cI,cJ,cL,cM⟩:=h.form;have aJ:=u.g2;refine bm E.Nk ?_;refine ad ?_;intro q cN cO V d;refine ad ?_;refine K_ 4 m.vars.length [1] (λb:ef=>[(3,.slice b.1 b.2.1 b.2.2)]) (none,0,0) (λa b e=>Ext q e/\aR o.Cell.enc T.tB 6 q.heap.size e (.slice b.1 b.2.1 b.2.2) (o.cellsOf 1 ((bU m).take a) 0)) aV aV ⟨Ext.refl _,aR.nil _ _ _ _ _⟩ ?_;have X:=d;clear d;rintro a b Y aK a5 ⟨g,i⟩;have d:=g.obj X;have j:=V.trans g;refine ad ?_;apply I_<;>intro cP
 .have n:a<m.vars.length:=AW
  obtain⟨a6,rfl⟩:=aI.addr;have v:=((aI.at a n).cells).ext j;have x:=u.var _ (ID n);have a7:=OX x aJ.1;have I:a<(bU m).length:=by simpa[bU] using n
  have J:=OR m u (a+1);rw[Cq I] at J;have K:(bU m)[a]=q0 m.scalars m.vars[a]:=by simp[bU]
  rw[K,vd] at J;have cQ:=sg m.vars[a] m.scalars;refine ad ?_;refine P_ (.tuple #[.I (o.bounds m.vars[a] m.scalars).1,.I (o.bounds m.vars[a] m.scalars).2]) (λH p=>Vb m.vars[a] _ m.scalars H (an.ext (j.trans p))) ?_;refine ad ?_;intro ax k;have L:=i.ext k;have bz:=k.obj d;have Z:=g.trans k;clear d v;refine ad ?_;refine K_ 7 (o.cells m.vars[a] m.scalars).toNat [1,4,5,6] (λb:ef=>[(3,.slice b.1 b.2.1 b.2.2)]) b (λc b e=>Ext q e/\aR o.Cell.enc T.tB 6 q.heap.size e (.slice b.1 b.2.1 b.2.2) (o.cellsOf 1 ((bU m).take a) 0++fv 1 a (List.replicate c (dM m.vars[a].scalar m.vars[a].aQ m.vars[a].ab m.scalars)) 0)) aV aV ⟨Z,by simpa[fv] using L⟩ ?_;clear bz L i g k Z;rintro c b Y az aM ⟨y,z⟩;have d:=y.obj X;have a9:=V.trans y;have v:=((aI.at a n).cells).ext a9;refine ad ?_;refine P_ _ (λH p=>Ol m.vars[a] _ m.scalars H (an.ext (a9.trans p))) ?_;refine ad ?_;intro aP t;replace d:=t.obj d;replace v:=v.ext t;have r:=z.ext t;have M:=y.trans t;refine ad ?_;apply I_<;>intro bA
  .have ab:c<(o.cells m.vars[a] m.scalars).toNat:=AW
   refine ad ?_;refine J_ (Ve m.vars[a].scalar aP (by unfold eA;omega)) ?_;rintro _ ba ⟨rfl,rfl⟩;refine ad ?_;intro ae cS cT N bB;have O:=r.ext N;have af:=M.trans N;have P:(o.cellsOf 1 ((bU m).take a) 0++fv 1 a (List.replicate c (dM m.vars[a].scalar m.vars[a].aQ m.vars[a].ab m.scalars)) 0).length=o.total ((bU m).take a)+c:=by
    rw[Jv,kb,rN,AG0]
   refine T_ (y:=⟨1,a,c,(o.bounds m.vars[a] m.scalars).1,(o.bounds m.vars[a] m.scalars).2,o.kindOf m.vars[a].scalar⟩) O bB rfl (λ_=>rfl) FW (by rw[P];omega) (by rw[P];unfold maxLen;omega) af.size λA B C ao G bC=>?_;refine ad ?_;refine⟨ab,aZ,(A,B,C),aV,O.hN af bC (Fy _),?_⟩;rw[List.replicate_succ',T3,<-VA,AG0,w3];rw[w3] at G;exact G
  .have bE:c=(o.cells m.vars[a] m.scalars).toNat:=AW
   refine ad ?_;refine⟨n,aZ,b,aV,M,?_⟩;have j:(0+((bU m).take a).length:Nat)=a:=by rw[NU];omega
   rw[NZ I,K,AR,j];rw[bE] at r;exact r
 have bF:m.vars.length<=a:=AW
 rw[Im (by simpa[bU] using bF)] at i;have bG:=OR m u m.vars.length;rw[Im (by simp[bU])] at bG;refine ad ?_;refine K_ 8 m.ay.length [1] (λb:ef=>[(3,.slice b.1 b.2.1 b.2.2)]) b (λa b e=>Ext q e/\aR o.Cell.enc T.tB 6 q.heap.size e (.slice b.1 b.2.1 b.2.2) (o.cellsOf 1 (bU m) 0++o.cellsOf 2 ((cn m).take a) 0)) aV aV ⟨g,by simpa[o.cellsOf] using i⟩ ?_;clear d i g j;rintro a b Y aK a5 ⟨g,i⟩;have d:=g.obj X;have j:=V.trans g;refine ad ?_;apply I_<;>intro bA
 .have n:a<m.ay.length:=AW
  obtain⟨a6,rfl⟩:=a0.addr;have v:=((a0.at a n).cells).ext j;have x:=u.chan _ (ID n);have a7:=Qy x aJ.1;have cU:=x.cap;have I:a<(cn m).length:=by simpa[cn] using n
  have J:=V0 m u (a+1);rw[Cq I] at J;have K:(cn m)[a]=iM m.scalars m.ay[a]:=by simp[cn]
  rw[K,o7] at J;have W:(o.cellsOf 1 (bU m) 0++o.cellsOf 2 ((cn m).take a) 0).length=o.total (bU m)+o.total ((cn m).take a):=by rw[Jv,kb,kb]
  refine ad ?_;intro ax ag aA k l;replace l:ax.heap[ag]? = some (.cells m.ay[a].enc.toArray T.r):=l;replace d:=k.obj d;have L:=i.ext k;clear v;have Z:=g.trans k;refine ad ?_;intro az cW bH y Q;have z:=L.ext y;have aB:=Z.trans y;refine T_ (y:=⟨2,a,0,0,m.ay[a].cap,0⟩) z Q rfl (λ_=>rfl) FW (by rw[W];omega) (by rw[W];unfold maxLen;omega) aB.size λA B C aP r aQ=>?_;have d:=z.box aQ (y.obj d) Ae;have l:=z.box aQ (y.obj l) Ae;have M:=z.hN aB aQ (Fy _);have bI:=V.trans M;have cX:=ca l;clear i L Q bH y k aA;refine eC ?_;simp -dsimp only[cA];refine eC ?_;intro ae N;replace d:=N.obj d;replace l:=N.obj l;have O:=r.ext N;have bJ:=bI.trans N;have af:=M.trans N;refine S_ [1,3,8,9] (λ_:Unit=>[(10,.I (kc m.scalars m.ay[a]).aQ),(11,.I (kc m.scalars m.ay[a]).ab)]) (λ_ e=>Ext ae e) ?_ ?_
  .refine ad ?_;apply I_<;>intro bK
   .obtain⟨aS,bb,cY,bL⟩:=ala x AW;obtain⟨cZ,rfl⟩:=an.addr;have c1:=((an.at aS bb).cells).ext bJ;refine ad ?_;refine M_ aS AW bb ?_;refine ad ?_;intro ao ah;refine ad ?_;have p:kc m.scalars m.ay[a]=⟨0,m.scalars[aS].size,m.ay[a].scalar+1⟩:=by unfold kc dM;rw[if_neg AW,bL]
    rw[p];exact⟨(),aV,ah⟩
   .have bM:m.ay[a].scalar=0:=AW
    refine ad ?_;have p:kc m.scalars m.ay[a]=⟨min 0 m.ay[a].aQ,max 0 m.ay[a].ab,0⟩:=by unfold kc dM;rw[if_pos bM,Int.min_comm,Int.max_comm]
    rw[p];exact⟨(),aV,Ext.refl _⟩
  rintro _ Y ao ah;replace d:=ah.obj d;replace l:=ah.obj l;have G:=O.ext ah;have ai:=af.trans ah;have bN:kc m.scalars m.ay[a]=⟨(kc m.scalars m.ay[a]).aQ,(kc m.scalars m.ay[a]).ab,o.kindOf m.ay[a].scalar⟩:=by
   unfold kc dM o.kindOf;split<;>rfl
  have bf:∀{e:A_},e.heap[ag]? = ao.heap[ag]? -> _:=λp=>p.trans l;refine ad ?_;refine _V [1,8,9,10,11] (λs:ef×Nat=>[(3,.slice s.1.1 s.1.2.1 s.1.2.2),(12,.I ((s.2:Int)+1))]) ((A,B,C),0) (λs e=>(Ext q e/\e.heap[ag]? = ao.heap[ag]? /\ (s.2:Int)<=m.ay[a].cap)/\aR o.Cell.enc T.tB 6 q.heap.size e (.slice s.1.1 s.1.2.1 s.1.2.2) (o.cellsOf 1 (bU m) 0++o.cellsOf 2 ((cn m).take a) 0++fv 2 a (⟨0,m.ay[a].cap,0⟩ :: List.replicate s.2 (kc m.scalars m.ay[a])) 0)) (λs=>(m.ay[a].cap - s.2).toNat) aV ⟨⟨ai,rfl,by simp only;omega⟩,by simpa[fv] using G⟩ ?_;clear d l G O r;rintro⟨b,c⟩ Y aT ⟨⟨aq,aA,aM⟩,ar⟩;have d:=aq.obj X;have l:=bf aA;simp only at aM;refine ad ?_;apply I_<;>intro bO
  .refine ad ?_;refine J_ (Ve m.ay[a].scalar aT (by unfold eA;omega)) ?_;rintro _ ba ⟨rfl,rfl⟩;refine ad ?_;intro bP c2 c3 S bR;have U:=ar.ext S;have au:=aq.trans S;have P:(o.cellsOf 1 (bU m) 0++o.cellsOf 2 ((cn m).take a) 0++fv 2 a (⟨0,m.ay[a].cap,0⟩ :: List.replicate c (kc m.scalars m.ay[a])) 0).length=o.total (bU m)+o.total ((cn m).take a)+(c+1):=by
    rw[Jv,W,rN,AH3,AG0]
   refine T_ (y:=⟨2,a,(c:Int)+1,(kc m.scalars m.ay[a]).aQ,(kc m.scalars m.ay[a]).ab,o.kindOf m.ay[a].scalar⟩) U bR rfl (λ_=>rfl) FW (by rw[P];omega) (by rw[P];unfold maxLen;omega) au.size λA B C bV aC aj=>?_;have bW:=U.box aj (S.obj l) Ae;refine ad ?_;refine⟨((A,B,C),c+1),aV,⟨⟨U.hN au aj (Fy _),bW.trans (bf rfl).symm,by simp only;omega⟩,?_⟩,by simp only;omega⟩;rw[List.replicate_succ',<-List.cons_append,T3,<-VA,AH3,AG0];rw[bN] at aC ⊢;exact aC
  .refine ad ?_;refine⟨n,aZ,b,aV,aq,?_⟩;have j:(0+((cn m).take a).length:Nat)=a:=by rw[NU];omega
   have bX:c=m.ay[a].cap.toNat:=AW
   rw[NZ I,K,AR,j,<-VA];rw[bX] at ar;exact ar
 have bY:m.ay.length<=a:=AW
 rw[Im (by simpa[cn] using bY)] at i;refine ad ?_;refine J_ (Ev _ m aK (h.ext j) bx) ?_;rintro c4 aD ⟨bk,aE⟩;obtain⟨bZ,b0,rfl,_⟩:=bk.form;have b1:∀{e:A_},eF [T.tB] aD e->q6 e (.slice bZ (o.insts m).length b0) (o.insts m):=λa=>aR.kF (enc:=c7.enc) (λ_=>rfl) (bk.ia a Ae);have c5:(o.insts m).length<=30:=by have:=tz m;have:=u.procs;omega
 have bn:=i.ext aE;have bo:=g.trans aE;have c9:=aE.size;refine ad ?_;refine K_ 14 (o.insts m).length [1,13] (λb:ef=>[(3,.slice b.1 b.2.1 b.2.2)]) b (λa b e=>(Ext q e/\eF [T.tB] aD e)/\aR o.Cell.enc T.tB 6 q.heap.size e (.slice b.1 b.2.1 b.2.2) (o.cellsOf 1 (bU m) 0++o.cellsOf 2 (cn m) 0++o.cellsOf 3 ((dH m).take a) 0)) aV aV ⟨⟨bo,eF.refl⟩,by simpa[o.cellsOf] using bn⟩ ?_;clear d i g j bn aE bo;rintro a b Y aK a5 ⟨⟨g,bp⟩,i⟩;have aF:=b1 bp;have d:=g.obj X;have j:=V.trans g;refine ad ?_;apply I_<;>intro bK
 .have n:a<(o.insts m).length:=AW
  obtain⟨db,rfl⟩:=aF.addr;have b3:=qM _ (ID n);obtain⟨f,aU,b4,b5⟩:=uO b3;have x:=u.proc _ (ID aU);have dc:=x.cb;have dd:=x.g2.1;obtain⟨a6,rfl⟩:=a2.addr;obtain⟨de,df,dI,av,aW,b6⟩:=a2.at f aU;obtain⟨b8,b9,rfl,dg⟩:=aW.form;obtain⟨cb,cc,rfl,dh⟩:=b6.form;replace av:=av.ext j;have I:a<(dH m).length:=by simpa[dH] using n
  have J:=aic m u (a+1);rw[Cq I] at J;have K:(dH m)[a]=kX m.scalars m.procs[f]:=by simp[dH,b5]
  rw[K,pt] at J;have W:(o.cellsOf 1 (bU m) 0++o.cellsOf 2 (cn m) 0++o.cellsOf 3 ((dH m).take a) 0).length=o.total (bU m)+o.total (cn m)+o.total ((dH m).take a):=by rw[Jv,Jv,kb,kb,kb]
  refine ad ?_;intro ax k;replace av:=av.ext k;replace d:=k.obj d;replace aF:=aF.ext Flat.ext k;have L:=i.ext k;have Z:=g.trans k;refine ad ?_;refine M_ f b4 aU ?_;refine ad ?_;intro di aw aX aY ch;refine⟨aY,?_⟩;refine ad ?_;intro az br Q;have aG:Ext ax az:=br.ext aY aX;replace Q:az.heap[aw]? = some (.cells (m.procs[f].enc (.slice b8 m.procs[f].vars.length b9) (.slice cb m.procs[f].cL.length cc)).toArray T.af):=Q;unfold ee.enc at Q;replace d:=aG.obj d;have z:=L.ext aG;have aB:=Z.trans aG;clear br aY ch av L i aF;refine ad ?_;intro aP dj dr t cj;have r:=z.ext t;have M:=aB.trans t;refine T_ (y:=⟨3,a,0,0,m.procs[f].cb - 1,0⟩) r cj rfl (λ_=>rfl) FW (by rw[W];omega) (by rw[W];unfold maxLen;omega) M.size λA B C ae O aH=>?_;have d:=r.box aH (t.obj d) Ae;have ak:=r.box aH (t.obj Q) Ae;have af:=r.hN M aH (Fy _);have ck:eF [T.tB] aD ae:=((bp.trans (eF.ext (k.trans aG))).trans (eF.ext t)).trans (Mg r aH);clear Q z;have bt:∀{e:A_},e.heap[aw]? = ae.heap[aw]? -> _:=λp=>p.trans ak;refine ad ?_;refine K_ 16 m.procs[f].vars.length [1,13,14,15] (λb:ef=>[(3,.slice b.1 b.2.1 b.2.2)]) (A,B,C) (λc b e=>((Ext q e/\eF [T.tB] aD e)/\e.heap[aw]? = ae.heap[aw]?)/\aR o.Cell.enc T.tB 6 q.heap.size e (.slice b.1 b.2.1 b.2.2) (o.cellsOf 1 (bU m) 0++o.cellsOf 2 (cn m) 0++o.cellsOf 3 ((dH m).take a) 0++fv 3 a (⟨0,m.procs[f].cb - 1,0⟩ :: (m.procs[f].vars.take c).map λb=>dM b.scalar b.aQ b.ab m.scalars) 0)) aV aV ⟨⟨⟨af,ck⟩,rfl⟩,by simpa[fv] using O⟩ ?_;clear d ak O;rintro c b Y ao aM ⟨⟨⟨ai,bu⟩,aX⟩,G⟩;have d:=ai.obj X;have ak:=bt aX;have bw:=V.trans ai;refine ad ?_;apply I_<;>intro bO
  .have ab:c<m.procs[f].vars.length:=AW
   obtain⟨dt,rfl⟩:=aW.addr;have v:=((aW.at c ab).cells).ext bw;have cm:=x.var _ (ID ab);have a7:=OX cm aJ.1;refine ad ?_;refine P_ (.tuple #[.I (o.bounds m.procs[f].vars[c] m.scalars).1,.I (o.bounds m.procs[f].vars[c] m.scalars).2]) (λH p=>Vb m.procs[f].vars[c] _ m.scalars H (an.ext (bw.trans p))) ?_;refine ad ?_;intro aT al;replace d:=al.obj d;replace ak:=al.obj ak;replace v:=v.ext al;have ar:=G.ext al;have aq:=ai.trans al;refine ad ?_;refine J_ (Ve m.procs[f].vars[c].scalar aT (by unfold eA;omega)) ?_;rintro _ ba ⟨rfl,rfl⟩;refine ad ?_;intro bP ag aA S l;have U:=ar.ext S;have au:=aq.trans S;have P:(o.cellsOf 1 (bU m) 0++o.cellsOf 2 (cn m) 0++o.cellsOf 3 ((dH m).take a) 0++fv 3 a (⟨0,m.procs[f].cb - 1,0⟩ :: (m.procs[f].vars.take c).map λb=>dM b.scalar b.aQ b.ab m.scalars) 0).length=o.total (bU m)+o.total (cn m)+o.total ((dH m).take a)+(c+1):=by
    rw[Jv,W,rN,AH3,AG7,NU];omega
   have cp:((m.procs[f].vars.take c).map λb=>dM b.scalar b.aQ b.ab m.scalars).length=c:=by simp;omega
   refine T_ (y:=⟨3,a,1+(c:Int),(o.bounds m.procs[f].vars[c] m.scalars).1,(o.bounds m.procs[f].vars[c] m.scalars).2,o.kindOf m.procs[f].vars[c].scalar⟩) U l rfl (λ_=>rfl) FW (by rw[P];omega) (by rw[P];unfold maxLen;omega) au.size λA B C bV aC aj=>?_;have cq:=U.box aj (S.obj ak) Ae;refine ad ?_;refine⟨ab,aZ,(A,B,C),aV,⟨⟨U.hN au aj (Fy _),(bu.trans (eF.ext (al.trans S))).trans (Mg U aj)⟩,cq.trans (bt rfl).symm⟩,?_⟩;rw[NZ ab,AF8,<-List.cons_append,AH9,List.map_nil,T3,<-VA,AH3,cp,w3 m.procs[f].vars[c],show((c+1:Nat):Int)=1+(c:Int) from AW];exact aC
  .refine ad ?_;refine⟨n,aZ,b,aV,⟨ai,bu⟩,?_⟩;have j:(0+((dH m).take a).length:Nat)=a:=by rw[NU];omega
   rw[Im (l:=m.procs[f].vars) AW] at G;rw[NZ I,K,AR,j,<-VA];exact G
 .rw[Im (by simp[dH];omega)] at i;refine ad ?_;exact⟨aR.low V.size i,j⟩
end Go.Proofs.R
namespace a8
open Go Go.RowKit
def _r{P:D_}{g:B_->A_->Prop}{α:Type}{enc:α->C_ B_}{e:F_}{sz base n:Nat}{w:A_}{vs:Nat->H_ Addr×Nat×Nat}{xs:Nat->C_ α}{j:F_}{b:Nat}{a:Addr}{c:Nat}{y:α}{t}(i:Nat)(k:i<n)(h:jN enc e sz base w n vs xs)(l:∀m,(enc m).length=sz)(p:fx w a (enc y))(q:∀y,∀r∈enc y,r.oneCell'=true)
  (s:((xs i).length+1)*b<=140737488355328)(u:(xs i).length+1<=maxLen)(v:base<=w.heap.size)
  (x:∀f d,jN enc e sz base d n (fK vs i f) (fK xs i (xs i++[y]))->w.grownBy d (cy (vs i)).ownBlock->g (cy f) d):lQ P j e sz b (cy (vs i)) (.slice (some a) 1 c) w g t:=by
 unfold lQ;exact jN.app i k h l p q s u v λf d a b _=>x f d a b
end a8
namespace o
def Rh{s:Int}{l:C_ Cell}{k:Nat}(h:k<l.length):jQ s (l.take (k+1)) 0=jQ s (l.take k) 0++(if l[k].place=0/\l[k].sort=s then [(k:Int)] else []):=by
 rw[NZ h,Gc];simp only[jQ,List.append_nil,List.length_take,Nat.zero_add];rw[show min k l.length=k from AW]
theorem abq(s:Int):∀(b:C_ Cell) (a:Nat),(jQ s b a).length<=b.length
 | [],_=>by simp[jQ]
 | d :: c,a=>by
  have:=abq s c (a+1)
  simp only[jQ,List.length_append,List.length_cons];split<;>simp<;>omega
def kY(l:C_ Cell)(k:Nat):Nat->C_ Int:=λa=>if a=0 then jQ 1 (l.take k) 0 else if a=1 then jQ 2 (l.take k) 0 else if a=2 then jQ 3 (l.take k) 0 else if a=3 then (l.take k).map (·.aQ) else (l.take k).map (·.ab)
end o
namespace Go.Proofs.R
open Go Go.RowKit a8 o
abbrev l7(R:Nat->C_ Int)(j:Nat)(s:Int)(x:o.Cell)(k:Nat):Nat->C_ Int:=fK R j (R j++if x.place=0/\x.sort=s then [(k:Int)] else [])
def EA:C_ F_:=[T.a,T.e]
def nt(vs:Nat->ef)(n:Int):Array B_:=#[cy (vs 0),cy (vs 1),cy (vs 2),.int .i64 n,cy (vs 3),cy (vs 4)]
structure qk(w1:World)(b:Nat)(xs:Nat->List Int)(n:Int)(W:World):Prop where
 mod:Mod (λk=>k=b) w1 W
 ex:∃vs:Nat->ef,W.heap[b]? = some (.cells (nt vs n) T.e)/\jN da T.a 1 w1.heap.size W 5 vs xs
def qk.congr{w1:A_}{b:Nat}{xs c:Nat->C_ Int}{n:Int}{d:A_}(h:qk w1 b xs n d)(e:∀a,a<5->xs a=c a):qk w1 b c n d :=
 let ⟨f,g,i⟩:=h.ex; ⟨h.mod,f,g,i.congr (λ_ _=>rfl) e⟩
def HL{w1:A_}{b:Nat}{xs:Nat->C_ Int}{n y:Int}{e j7 j8 g:A_}{vs:Nat->ef}{r:ef}{i:Nat}(h:i<5)(w:Mod (λa=>a=b) w1 e)(x:e.heap[b]? = some (.cells (nt vs n) T.e))(j:jN da T.a 1 w1.heap.size e 5 vs xs)
  (f:Ext e j7)(z:j7.grownBy j8 (cy (vs i)).ownBlock)(s:jN da T.a 1 w1.heap.size j8 5 (fK vs i r) (fK xs i (xs i++[y])))(k:dY b j8 g)(l:g.heap[b]? = some (.cells (nt (fK vs i r) n) T.e)) :
  qk w1 b (fK xs i (xs i++[y])) n g/\eF EA e g:=by
 have m:Mod (λa=>(cy (vs i)).ownBlock=some a) j7 j8:=Mod.grown z λa p=>p;have t:=f.obj x;have u:j8.heap[b]? = some (.cells (nt vs n) T.e):=m.obj ((j.ext f).not t Ae i h) t;refine⟨⟨?_,_,l,s.mod (k.mod (A:=λa=>a=b) rfl) λq a v p A=>?_⟩,?_⟩
 .have B:Mod (λa=>a=b) w1 j7:=w.comp (A':=λ_=>False) f.mod (λ_ _ c=>c) λ_ _ c=>c.elim;have C:Mod (λa=>a=b) w1 j8:=B.comp m (λ_ _ c=>c) λq v c=>by have:=(j.lt i q h c).1;omega
  exact C.trans (k.mod rfl)
 .subst A;exact s.not u Ae q v p
 .refine((eF.ext f).trans (eF.mod m λa G H l c=>?_)).trans (eF.wr k u Ae);obtain⟨I,d⟩:=((j.ext f).own i h).b0 a c;rw[l] at d;injection d with d;injection d with _ d;rw[d];decide
def agE(cs:C_ B_)(m:o.Model)(w:A_)(h:eu w cs m)(bb:m.cS)(aD:gm m) :
  EG F.Nl #[.agg cs.toArray] w λbf aS=>(∃z,bf = .agg z.toArray/\ei w (λw=>nf w z (o.layout m)) aS)/\Ext w aS:=by
 have bk:=h;obtain⟨bY,bZ,b0,bg,b1,bj,b3,b4,b5,b6,rfl,_⟩:=h.form;have b8:=iq aD;refine bm E.Nl ?_;refine ad ?_;intro b9 aE cb aT N;have bn:=ca N;refine ad ?_;intro cc aF ch aG x;have bo:=ca x;replace N:=aG.obj N;refine ad ?_;intro q j cj aq I;replace N:=aq.obj N;replace x:=aq.obj x;have bp:=ca I;have ck:=aT.size;have cm:=aG.size;have cp:=aq.size;have br:aE≠j:=AW
 have aU:=(aT.trans aG).trans aq;refine ad ?_;refine J_ (agD _ m q (bk.ext aU) bb aD) ?_;rintro dI O ⟨l,aW⟩;obtain⟨bt,bu,rfl,_⟩:=l.form;have aX:qk q j (kY (bD m) 0) 0 O:=⟨aW.mod,λ_=>(none,0,0),aW.obj I,⟨λt J=>by
   have b:kY (bD m) 0 t=[]:=by unfold kY; (repeat' split)<;>simp[jQ]
   rw[b];exact aR.nil _ _ _ _ _,λt r a _ _ _ b=>by cases b⟩⟩
 have cq:∀{z V e},qk q j z V e->e.heap[aE]? = q.heap[aE]? := λh=>h.mod.block _ AW br;have aY:∀{z V e},qk q j z V e->e.heap[aF]? = q.heap[aF]? := λh=>h.mod.block _ AW AW;have bw:∀{z V e},qk q j z V e->Ext w e:=λh=>h.mod.ext aU λt J b=>AW
 have P:∀{e:A_},eF EA O e->a4 6 (Flat o.Cell.enc) e (.slice bt (bD m).length bu) (bD m):=λa=>aR.kF (enc:=o.Cell.enc) (λ_=>rfl) (l.ia a Ae);rw[x] at aY;clear N x I l;refine ad ?_;refine K_ 5 (bD m).length [1,2,3,4] (λ_:Unit=>[]) () (λa _ e=>qk q j (kY (bD m) a) 0 e/\eF EA O e) aV aV ⟨aX,eF.refl⟩ ?_;clear aX;rintro a _ aH bx s ⟨A,W⟩;have l:=P W;obtain⟨cr,c,f⟩:=A.ex;refine ad ?_;apply I_<;>intro ct
 .have Q:a<(bD m).length:=AW
  obtain⟨u,rfl⟩:=l.addr;clear c f;obtain⟨d,K⟩:∃d,d=(bD m)[a]:=⟨_,rfl⟩;have X:∀t,(kY (bD m) a t).length<=100:=λt=>by
   unfold kY;have aI:=λbz=>abq bz ((bD m).take a) 0;have bn:=aI 1;have bo:=aI 2;have bp:=aI 3
   (repeat' split)<;>simp only[List.length_map,List.length_take] at * <;> omega
  refine eC ?_;simp -dsimp only[cA];refine eC ?_;refine S_ [1,2,3,4,5] (λ_:Unit=>[]) (λ_ e=>qk q j (l7 (kY (bD m) a) 0 1 d a) 0 e/\eF EA O e) ?_ ?_
  .have l:=P W;obtain⟨i,c,f⟩:=A.ex;have k:=c;unfold nt at c;dsimp only[cy] at c;have B:¬(d.place=0/\d.sort=1)->qk q j (l7 (kY (bD m) a) 0 1 d a) 0 bx:=λb=>A.congr λr S=>by
    unfold l7 fK;by_cases u:r=0
    .subst u;simp[b]
    .simp[u]
   refine ad ?_;rw[<-K];apply I_<;>intro C
   .refine ad ?_;rw[<-K];apply I_<;>intro G
    .refine ad ?_;intro ar a0 a2 g Y;have au:=A.mod.size;have av:=g.size;have aw:((kY (bD m) a) 0).length<=100:=X 0;have n:=f.ext g;have p:=g.obj k;refine _r (y:=(a:Int)) 0 Ae n (λ_=>rfl) (gP Y) je AW (by unfold maxLen;omega) AW λax L Z H=>?_;have v:L.heap[j]? = some (.cells (nt i 0) T.e):=(Mod.grown (A:=λa=>(cy (i 0)).ownBlock=some a) H λa s=>s).obj (n.not p Ae 0 Ae) p;have a5:=v;unfold nt at v;refine ad ?_;intro U ab ae;obtain⟨af,ag⟩:=HL Ae A.mod k f g H Z ab ae;refine ad ?_;refine⟨(),trivial,af.congr λr S=>?_,W.trans ag⟩;have b:(if d.place=0/\d.sort=1 then [(a:Int)] else [])=[(a:Int)]:=if_pos ⟨C,G⟩;unfold l7;rw[b]
    .refine ad ?_;exact⟨(),trivial,B λb=>G b.2,W⟩
   .refine ad ?_;exact⟨(),trivial,B λb=>C b.1,W⟩
  rintro _ aH bA ⟨az,aA⟩;refine eC ?_;refine S_ [1,2,3,4,5] (λ_:Unit=>[]) (λ_ e=>qk q j (l7 (l7 (kY (bD m) a) 0 1 d a) 1 2 d a) 0 e/\eF EA O e) ?_ ?_
  .have l:=P aA;obtain⟨i,c,f⟩:=az.ex;have k:=c;unfold nt at c;dsimp only[cy] at c;have B:¬(d.place=0/\d.sort=2)->qk q j (l7 (l7 (kY (bD m) a) 0 1 d a) 1 2 d a) 0 bA:=λb=>az.congr λr S=>by
    unfold l7 fK;by_cases u:r=1
    .subst u;simp[b]
    .simp[u]
   refine ad ?_;rw[<-K];apply I_<;>intro C
   .refine ad ?_;rw[<-K];apply I_<;>intro G
    .refine ad ?_;intro ar a0 a2 g Y;have au:=az.mod.size;have av:=g.size;have aw:((l7 (kY (bD m) a) 0 1 d a) 1).length<=100:=X 1;have n:=f.ext g;have p:=g.obj k;refine _r (y:=(a:Int)) 1 Ae n (λ_=>rfl) (gP Y) je AW (by unfold maxLen;omega) AW λax L Z H=>?_;have v:L.heap[j]? = some (.cells (nt i 0) T.e):=(Mod.grown (A:=λa=>(cy (i 1)).ownBlock=some a) H λa s=>s).obj (n.not p Ae 1 Ae) p;have a5:=v;unfold nt at v;refine ad ?_;intro U ab ae;obtain⟨af,ag⟩:=HL Ae az.mod k f g H Z ab ae;refine ad ?_;refine⟨(),trivial,af.congr λr S=>?_,aA.trans ag⟩;have b:(if d.place=0/\d.sort=2 then [(a:Int)] else [])=[(a:Int)]:=if_pos ⟨C,G⟩;unfold l7;rw[b]
    .refine ad ?_;exact⟨(),trivial,B λb=>G b.2,aA⟩
   .refine ad ?_;exact⟨(),trivial,B λb=>C b.1,aA⟩
  rintro _ aH bB ⟨aB,aC⟩;refine eC ?_;refine S_ [1,2,3,4,5] (λ_:Unit=>[]) (λ_ e=>qk q j (l7 (l7 (l7 (kY (bD m) a) 0 1 d a) 1 2 d a) 2 3 d a) 0 e/\eF EA O e) ?_ ?_
  .have l:=P aC;obtain⟨i,c,f⟩:=aB.ex;have k:=c;unfold nt at c;dsimp only[cy] at c;have B:¬(d.place=0/\d.sort=3)->qk q j (l7 (l7 (l7 (kY (bD m) a) 0 1 d a) 1 2 d a) 2 3 d a) 0 bB:=λb=>aB.congr λr S=>by
    unfold l7 fK;by_cases u:r=2
    .subst u;simp[b]
    .simp[u]
   refine ad ?_;rw[<-K];apply I_<;>intro C
   .refine ad ?_;rw[<-K];apply I_<;>intro G
    .refine ad ?_;intro ar a0 a2 g Y;have au:=aB.mod.size;have av:=g.size;have aw:((l7 (l7 (kY (bD m) a) 0 1 d a) 1 2 d a) 2).length<=100:=X 2;have n:=f.ext g;have p:=g.obj k;refine _r (y:=(a:Int)) 2 Ae n (λ_=>rfl) (gP Y) je AW (by unfold maxLen;omega) AW λax L Z H=>?_;have v:L.heap[j]? = some (.cells (nt i 0) T.e):=(Mod.grown (A:=λa=>(cy (i 2)).ownBlock=some a) H λa s=>s).obj (n.not p Ae 2 Ae) p;have a5:=v;unfold nt at v;refine ad ?_;intro U ab ae;obtain⟨af,ag⟩:=HL Ae aB.mod k f g H Z ab ae;refine ad ?_;refine⟨(),trivial,af.congr λr S=>?_,aC.trans ag⟩;have b:(if d.place=0/\d.sort=3 then [(a:Int)] else [])=[(a:Int)]:=if_pos ⟨C,G⟩;unfold l7;rw[b]
    .refine ad ?_;exact⟨(),trivial,B λb=>G b.2,aC⟩
   .refine ad ?_;exact⟨(),trivial,B λb=>C b.1,aC⟩
  rintro _ aH cu ⟨aJ,a6⟩;have l:=P a6;obtain⟨i,c,f⟩:=aJ.ex;have k:=c;unfold nt at c;dsimp only[cy] at c;refine ad ?_;intro ar g;replace l:=l.ext Flat.ext g;replace c:=g.obj c;refine ad ?_;intro L bC v ah ai;refine⟨ah,?_⟩;have y:=g.trans ah;have au:=aJ.mod.size;have av:=y.size;have aw:(kY (bD m) a 3).length<=100:=X 3;have n:=f.ext y;have p:=y.obj k;refine _r (y:=(bD m)[a].aQ) 3 Ae n (λ_=>rfl) (gP ai) je (by unfold l7;rw[show(fK _ 2 _ 3:C_ Int)=kY (bD m) a 3 from rfl];omega) (by unfold l7;rw[show(fK _ 2 _ 3:C_ Int)=kY (bD m) a 3 from rfl];unfold maxLen;omega) AW λax U aj ak=>?_;have M:U.heap[j]? = some (.cells (nt i 0) T.e):=(Mod.grown (A:=λa=>(cy (i 3)).ownBlock=some a) ak λa s=>s).obj (n.not p Ae 3 Ae) p;have aK:=M;unfold nt at M;refine ad ?_;intro cv aM al;obtain⟨aP,bE⟩:=HL Ae aJ.mod k f y ak aj aM al;clear c f k n p aj M aK al ai l;have a7:=a6.trans bE;have l:=P a7;obtain⟨i,c,f⟩:=aP.ex;have k:=c;unfold nt at c;dsimp only[cy] at c;refine ad ?_;intro ar g;replace l:=l.ext Flat.ext g;replace c:=g.obj c;refine ad ?_;intro L bC v ah ai;refine⟨ah,?_⟩;have y:=g.trans ah;have au:=aP.mod.size;have av:=y.size;have aw:(kY (bD m) a 4).length<=100:=X 4;have n:=f.ext y;have p:=y.obj k;refine _r (y:=(bD m)[a].ab) 4 Ae n (λ_=>rfl) (gP ai) je (by rw[show(fK _ 3 _ 4:C_ Int)=kY (bD m) a 4 from rfl];omega) (by rw[show(fK _ 3 _ 4:C_ Int)=kY (bD m) a 4 from rfl];unfold maxLen;omega) AW λax U aj ak=>?_;have M:U.heap[j]? = some (.cells (nt i 0) T.e):=(Mod.grown (A:=λa=>(cy (i 4)).ownBlock=some a) ak λa s=>s).obj (n.not p Ae 4 Ae) p;have aK:=M;unfold nt at M;refine ad ?_;intro cw aM al;obtain⟨bF,bG⟩:=HL Ae aP.mod k f y ak aj aM al;clear c f k n p aj M aK al ai l;have bH:=a7.trans bG;refine ad ?_;refine⟨Q,aZ,(),trivial,bF.congr λr S=>?_,bH⟩;subst K;have u:r=0\/r=1\/r=2\/r=3\/r=4:=AW
  rcases u with rfl | rfl | rfl | rfl | rfl
  .exact(Rh (s:=1) Q).symm
  .exact(Rh (s:=2) Q).symm
  .exact(Rh (s:=3) Q).symm
  .show(_:C_ Int)=((bD m).take (a+1)).map (·.aQ);rw[NZ Q,AF8];rfl
  .show(_:C_ Int)=((bD m).take (a+1)).map (·.ab);rw[NZ Q,AF8];rfl
 have bI:a=(bD m).length:=AW
 subst bI;have dm:=bw A;have x:=aY A;clear c f;obtain⟨i,c,f⟩:=A.ex;have k:=c;unfold nt at c;dsimp only[cy] at c;refine ad ?_;intro bJ aQ I;have a9:=f.mod (aQ.mod (A:=λa=>a=j) rfl) λt a J s b=>by subst b;exact f.not k Ae t J s
 replace x:=aQ.obj x AW;replace I:bJ.heap[j]? = some (.cells #[cy (i 0),cy (i 1),cy (i 2),.I (bD m).length,cy (i 3),cy (i 4)] T.e):=I;dsimp only[cy] at I;refine ad ?_;intro cx ba cB;have bK:=a9.mod (ba.mod (A:=λa=>a=aF) rfl) λt a J s b=>by subst b;exact a9.not x Ae t J s
 have bL:w.heap.size<=q.heap.size:=AW
 have an:=λ(t:Nat) (J:t<5)=>aR.new (e:=T.a) (enc:=da) (λ_=>rfl) (aR.low bL (bK.own t J));obtain⟨bM,bN,bO⟩:=ank aD;have bP:kY (bD m) (bD m).length 0=(o.layout m).vars:=by show jQ 1 ((bD m).take _) 0=_;rw[AG9,bM];rfl
 have bR:kY (bD m) (bD m).length 1=(o.layout m).ay:=by show jQ 2 ((bD m).take _) 0=_;rw[AG9,bN];rfl
 have bV:kY (bD m) (bD m).length 2=(o.layout m).insts:=by show jQ 3 ((bD m).take _) 0=_;rw[AG9,bO];rfl
 have bW:kY (bD m) (bD m).length 3=(o.layout m).aQ:=by show((bD m).take _).map _=_;rw[AG9];rfl
 have bX:kY (bD m) (bD m).length 4=(o.layout m).ab:=by show((bD m).take _).map _=_;rw[AG9];rfl
 refine ad ?_;refine⟨⟨[_,_,_,_,_,_],rfl,λeT ao=>⟨⟨_,_,_,_,_,rfl,?_,?_,?_,?_,?_⟩⟩⟩,ba.ext (aQ.ext dm AW) AW⟩
 .rw[<-bP];exact an 0 Ae eT ao
 .rw[<-bR];exact an 1 Ae eT ao
 .rw[<-bV];exact an 2 Ae eT ao
 .rw[<-bW];exact an 3 Ae eT ao
 .rw[<-bX];exact an 4 Ae eT ao
abbrev cH(w:A_)(v:B_)(l:C_ Int):Prop:=a4 1 (Flat da) w v l
structure yR(w:World)(b:Nat)(m:o.Model):Prop where
 ex:∃xs cs b5,w.heap[b]? = some (.cells (xs++cs++[b5]).toArray T.ta)/\nf w xs (o.layout m)/\eu w cs m/\q6 w b5 (o.insts m)
theorem yR.ext{w w':A_}{b:Nat}{m:o.Model}(a:Ext w w')(h:yR w b m):yR w' b m :=
 let ⟨xs,cs,c,d,e,f,g⟩:=h.ex; ⟨xs,cs,c,a.obj d,e.ext a,f.ext a,g.ext Flat.ext a⟩
def agB(cs:C_ B_)(m:o.Model)(w:A_)(h:eu w cs m)(f:m.cS)(l:gZ w) :
  EG F.ev #[.agg cs.toArray] w λn p=>((n = .pointer none/\¬(o.check m).bN=0)\/(∃q,n = .pointer (some ⟨q,0,none⟩)/\(o.check m).bN=0/\yR p q m))/\Ext w p:=by
 have b:=h;obtain⟨G,H,I,bg,J,bj,K,L,M,N,rfl,_⟩:=h.form;refine bm E.ev ?_;refine ad ?_;intro y O P g c;refine ad ?_;refine J_ (NS _ m y (b.ext g) f (l.ext g)) ?_;rintro _ Q ⟨rfl,r⟩;replace c:=r.obj c;have s:=g.trans r;refine ad ?_;refine _d (v:=.I (o.check m).bN) rfl ?_;refine ad ?_;refine I_ (λd=>?_) (λd=>?_);rotate_left
 .refine ad ?_;exact⟨.inl ⟨aZ,d⟩,s⟩
 refine ad ?_;intro z t;replace c:=t.obj c;have i:=s.trans t;refine ad ?_;refine J_ (T4 _ m z (b.ext i) f (l.ext i)) ?_;rintro _ A ⟨⟨S,rfl,a⟩,j⟩;replace a:=a.here;rw[Mo d] at a;obtain⟨U,V,W,X,Y,Z,ab,ae,af,ag,rfl,_⟩:=a.form;have u:=i.trans j;refine⟨j,?_⟩;refine ad ?_;refine J_ (L6 _ m A (b.ext u) f) ?_;rintro ah ai ⟨v,k⟩;obtain⟨aj,ak,rfl,_⟩:=v.form;have x:=u.trans k;refine⟨j.trans k,?_⟩;refine ad ?_;intro al B an e C;refine ad ?_;exact⟨.inr ⟨B,rfl,d,⟨_,_,_,C,a.ext (k.trans e),b.ext (x.trans e),aR.kF (enc:=c7.enc) (λ_=>rfl) (v.ext e)⟩⟩,x.trans e⟩
end Go.Proofs.R
namespace o
def agm{s:C_ Scalar}{c:ed}{l:C_ Int}(j:l.length=1+c.cap.toNat)(k:1<=c.cap):mO s c l↔(0<=l[0]' AW/\l[0]' AW<=c.cap/\∀a (f:a+1<l.length),((a:Int)<l[0]' AW->(dM c.scalar c.aQ c.ab s).aQ<=l[a+1]/\l[a+1]<=(dM c.scalar c.aQ c.ab s).ab)/\(l[0]' AW<=a->l[a+1]=0)):=by
 unfold mO;constructor
 .rintro⟨m,g,b,d,e⟩;obtain⟨_,rfl⟩:=List.getElem?_eq_some_iff.1 g;refine⟨b,d,λa f=>?_⟩;obtain⟨n,h,i⟩:=e a AW;obtain⟨_,rfl⟩:=List.getElem?_eq_some_iff.1 h;exact i
 .rintro⟨b,d,e⟩;exact⟨l[0]' AW,List.getElem?_eq_getElem _,b,d,λa f=>⟨l[a+1]' AW,List.getElem?_eq_getElem _,e a AW⟩⟩
end o
namespace Go.Proofs.R
open Go Go.RowKit a8 o
def yR.form{w:A_}{b:Nat}{m:o.Model}(h:yR w b m):∃a c d bg e bj f g i j k l n p q r s t x y u v,
  w.heap[b]? = some (.cells #[.slice a (o.layout m).vars.length c,.slice d (o.layout m).ay.length bg,.slice e (o.layout m).insts.length bj,.I (o.layout m).cells,.slice f (o.layout m).aQ.length g,.slice i (o.layout m).ab.length j,
   .slice k m.scalars.length l,.slice n m.vars.length p,.slice q m.ay.length r,.slice s m.procs.length t,.slice x m.props.length y,.slice u (o.insts m).length v] T.ta) /\
  a4 1 (Flat da) w (.slice a (o.layout m).vars.length c) (o.layout m).vars/\a4 1 (Flat da) w (.slice d (o.layout m).ay.length bg) (o.layout m).ay/\a4 1 (Flat da) w (.slice e (o.layout m).insts.length bj) (o.layout m).insts /\
  a4 1 (Flat da) w (.slice f (o.layout m).aQ.length g) (o.layout m).aQ/\a4 1 (Flat da) w (.slice i (o.layout m).ab.length j) (o.layout m).ab /\
  hC w (.slice k m.scalars.length l) m.scalars/\jO w (.slice n m.vars.length p) m.vars/\ot w (.slice q m.ay.length r) m.ay/\r4 w (.slice s m.procs.length t) m.procs /\
  q6 w (.slice u (o.insts m).length v) (o.insts m):=by
 obtain⟨P,Q,S,A,B,C,z⟩:=h.ex;obtain⟨a,c,d,bg,e,bj,f,g,i,j,rfl,G,H,I,J,K⟩:=B.form;obtain⟨k,l,n,p,q,r,s,t,x,y,rfl,L,M,N,O,U,_⟩:=C.form;obtain⟨u,v,rfl,_⟩:=z.form;exact⟨a,c,d,bg,e,bj,f,g,i,j,k,l,n,p,q,r,s,t,x,y,u,v,A,G,H,I,J,K,L,M,N,O,z⟩
def avR(b i:Nat)(v:B_)(s:C_ Int)(m:o.Model)(w:A_)(L:yR w b m)(z:gm m)(h:i<m.ay.length)(j:cH w v s)(aE:s.length=cG m) :
  EG F.JZ #[.pointer (some ⟨b,0,none⟩),.I i,v] w λZ A=>(∃M:Bool,Z = .bool M/\(M=true↔mO m.scalars m.ay[i] (lU m i m.ay[i] s)))/\Ext w A:=by
 obtain⟨aF,aG,aH,bg,aI,bj,aJ,aK,aM,aP,aQ,aS,aT,aU,aW,aX,aY,a0,a2,a5,a6,a7,t,ab,k,ae,af,ag,B,ah,C,ai,aj⟩:=L.form;obtain⟨a9,ba,rfl,bb⟩:=j.form;have ak:=z.chan _ (ID h);have al:=ak.cap;have bf:=z.g2;obtain⟨bk,N⟩:=AP h;have bn:=ud h;have bo:=nu m;have bp:cG m<=64:=iq z;obtain⟨br,rfl⟩:=C.addr;obtain⟨bt,rfl⟩:=k.addr;have an:=(C.at i h).cells;refine bm E.JZ ?_;refine aa ?_;intro bu bw bx l g;replace t:=l.obj t;replace B:=B.ext l;replace k:=k.ext Flat.ext l;replace j:=j.ext Flat.ext l;clear an ah C ai aj ab ae af ag L;refine aa ?_;refine P_ (.tuple #[.I (dM m.ay[i].scalar m.ay[i].aQ m.ay[i].ab m.scalars).aQ,.I (dM m.ay[i].scalar m.ay[i].aQ m.ay[i].ab m.scalars).ab]) (λA ao=>by
  rw[show dM m.ay[i].scalar m.ay[i].aQ m.ay[i].ab m.scalars=_ from w3 ⟨⟨#[]⟩,m.ay[i].scalar,0,m.ay[i].aQ,m.ay[i].ab,0⟩ m.scalars];exact Jt ⟨⟨#[]⟩,m.ay[i].scalar,0,m.ay[i].aQ,m.ay[i].ab,0⟩ _ m.scalars A (B.ext ao)) ?_
 refine aa ?_;intro aq n;replace t:=n.obj t;replace k:=k.ext Flat.ext n;replace j:=j.ext Flat.ext n;replace g:=n.obj g;have ar:=l.trans n;obtain⟨u,O⟩:∃u,u=(dM m.ay[i].scalar m.ay[i].aQ m.ay[i].ab m.scalars).aQ:=⟨_,rfl⟩;obtain⟨P,Q⟩:∃h,h=(dM m.ay[i].scalar m.ay[i].aQ m.ay[i].ab m.scalars).ab:=⟨_,rfl⟩;rw[<-O,<-Q];refine aa ?_;refine _Y (k:=.i64) (k':=.i64) (bT m i) (bT m i+(1+m.ay[i].cap.toNat)) j (by simp[dy,bS,N]) (by simp[dy,bS,N];omega) AW AW λau S f=>?_;rw[show bT m i+(1+m.ay[i].cap.toNat) - bT m i=1+m.ay[i].cap.toNat from AW] at f ⊢;obtain⟨a,U⟩:∃a,a=lU m i m.ay[i] s:=⟨_,rfl⟩;have f:a4 1 (Flat da) aq (.slice au (1+m.ay[i].cap.toNat) S) a:=by rw[U];exact f
 have av:a.length=1+m.ay[i].cap.toNat:=f.len.1.symm;rw[<-U];obtain⟨V,rfl⟩:=f.addr;refine aa ?_;intro bz G;replace f:=f.ext Flat.ext G;replace g:=G.obj g;have p:=ar.trans G;have q:=agm (s:=m.scalars) (c:=m.ay[i]) (l:=a) av al.1;rw[<-O,<-Q] at q;refine aa ?_;refine M_ 0 rfl AW ?_;refine aa ?_;apply I_<;>intro bA
 .refine aa ?_;intro W r;exact⟨⟨false,rfl,by simp only[Bool.false_eq_true,false_iff];intro c;exact absurd (q.1 c).1 AW⟩,p.trans r⟩
 refine aa ?_;refine M_ 0 rfl AW ?_;refine aa ?_;intro W r;replace f:=f.ext Flat.ext r;replace g:=r.obj g;replace p:=p.trans r;apply I_<;>intro bB
 .refine aa ?_;exact⟨⟨false,rfl,by simp only[Bool.false_eq_true,false_iff];intro c;exact absurd (q.1 c).2.1 AW⟩,p⟩
 have H:=f.tail 1 AW;refine aa ?_;refine _9 (k:=.i64) 1 (by simp[o8]) ⟨AW,f.len.2.1⟩ ?_;obtain⟨X,aw⟩:∃X,X=(if S=1 then some V else (some V).map (·.add (1*1))):=⟨_,rfl⟩;rw[<-aw] at H ⊢;have bC:(a.drop 1).length=m.ay[i].cap.toNat:=by rw[AG5];omega
 rw[show 1+m.ay[i].cap.toNat - 1=m.ay[i].cap.toNat from AW] at H ⊢;refine aa ?_;refine K_ 74 m.ay[i].cap.toNat [7,8,9,10,72,73] (λ_:Unit=>[]) () (λe _ ax=>Ext W ax/\∀d (c:d+1<a.length),d<e->((d:Int)<a[0]->u<=a[d+1]/\a[d+1]<=P)/\(a[0]<=d->a[d+1]=0)) aV aV ⟨Ext.refl _,λd _ c=>absurd c (Og _)⟩ ?_;have az:=g;clear g;rintro e _ bE bF bG ⟨x,I⟩;have g:=x.obj az;have y:=p.trans x;refine aa ?_;apply I_<;>intro bH
 .have bI:e<(a.drop 1).length:=AW
  have aA:e+1<a.length:=AW
  obtain⟨bJ,rfl⟩:=H.addr;have bK:(a.drop 1)[e]=a[e+1]:=by simp[Nat.add_comm]
  have J:¬(((e:Int)<a[0]->u<=a[e+1]/\a[e+1]<=P)/\(a[0]<=e->a[e+1]=0))->(false=true↔mO m.scalars m.ay[i] a):=λc=>by
   simp only[Bool.false_eq_true,false_iff];exact λaB=>c ((q.1 aB).2.2 e aA)
  refine aa ?_;refine M_ 0 rfl AW ?_;refine aa ?_;apply I_<;>intro Y
  .refine aa ?_;apply I_<;>intro aC
   .refine aa ?_;exact⟨⟨false,rfl,J λc=>by have:=c.1 Y;omega⟩,y⟩
   refine aa ?_;apply I_<;>intro bL
   .refine aa ?_;exact⟨⟨false,rfl,J λc=>by have:=c.1 Y;omega⟩,y⟩
   refine aa ?_;refine M_ 0 rfl AW ?_;refine aa ?_;refine⟨AW,aZ,(),trivial,x,λd c aD=>?_⟩;by_cases K:d=e
   .subst K;exact⟨λ_=>AW,λ_=>AW⟩
   .exact I d c AW
  .refine aa ?_;refine M_ 0 rfl AW ?_;refine aa ?_;apply I_<;>intro aC
   .refine aa ?_;refine⟨AW,aZ,(),trivial,x,λd c aD=>?_⟩;by_cases K:d=e
    .subst K;exact⟨λ_=>AW,λ_=>AW⟩
    .exact I d c AW
   .refine aa ?_;exact⟨⟨false,rfl,J λc=>by have:=c.2 AW;omega⟩,y⟩
 .refine aa ?_;exact⟨⟨true,rfl,by simp only[true_iff];exact q.2 ⟨AW,AW,λd c=>I d c AW⟩⟩,y⟩
def BT(c d:B_)(a b:C_ Int)(w:A_)(f:a4 1 (Flat da) w c a)(g:a4 1 (Flat da) w d b) :
  EG F.d #[c,d] w λh i=>(∃e:Bool,h = .bool e/\(e=true↔a=b))/\Ext w i :=
 amC kB E.d _ _ a b w f g
end Go.Proofs.R
namespace o
def Ms(m:Model):(layout m).aQ.length=(bD m).length:=by simp[layout,BS]
def Mq(m:Model):(layout m).ab.length=(bD m).length:=by simp[layout,BS]
def Mr{m:Model}{c:Nat}(h:c<(layout m).aQ.length)(a:c<(bD m).length):(layout m).aQ[c]=(bD m)[c].aQ:=by simp[layout,BS]
def Mp{m:Model}{c:Nat}(h:c<(layout m).ab.length)(a:c<(bD m).length):(layout m).ab[c]=(bD m)[c].ab:=by simp[layout,BS]
def uR(m:Model):(layout m).vars.length=m.vars.length/\(layout m).ay.length=m.ay.length/\(layout m).insts.length=(insts m).length:=by
 refine⟨?_,?_,?_⟩<;>simp[layout,BS,rU,bU,cn,dH]
end o
namespace Go.Proofs.R
open Go Go.RowKit a8 o
def awN(b:Nat)(v:B_)(s:C_ Int)(m:o.Model)(w:A_)(r:yR w b m)(j:gm m)(k:cH w v s) :
  EG F.JP #[.pointer (some ⟨b,0,none⟩),v] w λC G=>(∃h:Bool,C = .bool h/\(h=true↔o.Fits m s))/\Ext w G:=by
 obtain⟨W,X,Y,bg,Z,bj,ab,ae,af,ag,ah,ai,aj,ak,al,an,ao,aq,ar,au,av,aw,t,H,I,J,K,L,M,N,ax,O,P⟩:=r.form;obtain⟨az,aA,rfl,aB⟩:=k.form;have aC:(o.layout m).cells=(cG m:Int):=rfl;have aD:=Ms m;have aE:=Mq m;have aF:cG m<=64:=iq j;have aG:=j.g2;refine bm E.JP ?_;refine aa ?_;apply I_<;>intro aH;rotate_left
 .refine aa ?_;exact⟨⟨false,rfl,by simp only[Bool.false_eq_true,false_iff];intro c;have:=c.len;omega⟩,Ext.refl _⟩
 have l:s.length=cG m:=AW
 clear M N O P H I J;refine aa ?_;refine K_ 22 m.ay.length [0,1,20,21] (λ_:Unit=>[]) () (λe _ n=>Ext w n/\∀a (c:a<m.ay.length),a<e->mO m.scalars m.ay[a] (lU m a m.ay[a] s)) aV aV ⟨Ext.refl _,λa _ c=>absurd c (Og _)⟩ ?_;rintro e _ aI u aJ ⟨f,x⟩;refine aa ?_;apply I_<;>intro aK
 .have g:e<m.ay.length:=AW
  refine aa ?_;refine J_ (avR b e _ s m u (r.ext f) j g (k.ext Flat.ext f) l) ?_;rintro _ Q ⟨⟨h,rfl,y⟩,z⟩;cases h with
  | false =>
   refine aa ?_;exact⟨⟨false,rfl,by simp only[Bool.false_eq_true,false_iff];intro c;exact absurd (y.2 (c.queue e g)) Ah⟩,f.trans z⟩
  | true =>
   refine aa ?_;refine⟨g,aZ,(),trivial,f.trans z,λa c S=>?_⟩;by_cases p:a=e
   .subst p;exact y.1 rfl
   .exact x a c AW
 have U:∀a (c:a<m.ay.length),mO m.scalars m.ay[a] (lU m a m.ay[a] s):=λa c=>x a c AW;have aM:=f.obj t;refine aa ?_;refine K_ 33 s.length [0,1,31,32] (λ_:Unit=>[]) () (λe _ n=>n=u/\∀a (c:a<s.length) (i:a<(bD m).length),a<e->(bD m)[a].aQ<=s[a]/\s[a]<=(bD m)[a].ab) aV aV ⟨rfl,λa _ _ c=>absurd c (Og _)⟩ ?_;clear t;rintro d _ aP Q aQ ⟨rfl,A⟩;refine aa ?_;apply I_<;>intro aS
 .have g:d<s.length:=AW
  have q:d<(bD m).length:=by unfold cG at l;omega
  have aT:(o.layout m).aQ[d]' AW=(bD m)[d].aQ:=Mr _ q;have aU:(o.layout m).ab[d]' AW=(bD m)[d].ab:=Mp _ q;obtain⟨aW,rfl⟩:=k.addr;obtain⟨aX,rfl⟩:=K.addr;obtain⟨aY,rfl⟩:=L.addr;have B:¬((bD m)[d].aQ<=s[d]/\s[d]<=(bD m)[d].ab)->(false=true↔o.Fits m s):=λc=>by
   simp only[Bool.false_eq_true,false_iff];exact λV=>c (V.cell d g q)
  refine aa ?_;apply I_<;>intro a0
  .refine aa ?_;exact⟨⟨false,rfl,B AW⟩,f⟩
  refine aa ?_;apply I_<;>intro a2
  .refine aa ?_;exact⟨⟨false,rfl,B AW⟩,f⟩
  refine aa ?_;refine⟨g,aZ,(),trivial,aZ,λa c i S=>?_⟩;by_cases p:a=d
  .subst p;omega
  .exact A a c i AW
 .refine aa ?_;exact⟨⟨true,rfl,by simp only[true_iff];exact⟨l,U,λa c i=>A a c i AW⟩⟩,f⟩
end Go.Proofs.R
namespace o
open Classical in
noncomputable def H6(s:C_ Scalar)(c:ed)(l:C_ Int):Bool:=decide (mO s c l)
def U6{s:C_ Scalar}{c:ed}{l:C_ Int}:H6 s c l=true↔mO s c l:=by unfold H6;simp
def avP{s:C_ Scalar}{c:ed}{l:C_ Int}{t:Bool}(h:t=true↔mO s c l):t=H6 s c l:=by
 rw[<-U6] at h;cases t<;>cases a:H6 s c l<;>simp_all
end o
namespace Go.Proofs.R
open Go Go.RowKit a8 o
def VH(cs:C_ B_)(m:o.Model)(v:B_)(s:C_ Int)(w:A_)(h:eu w cs m)(f:m.cS)(g:gZ w)(i:cH w v s) :
  EG F.bV #[.agg cs.toArray,v] w λj k=>(∃a:Bool,j = .bool a/\(a=true↔nm m s))/\Ext w k:=by
 have l:=h;obtain⟨x,y,z,bg,A,bj,B,C,G,H,rfl,_⟩:=h.form;refine bm E.bV ?_;refine aa ?_;intro n I J c K;refine aa ?_;refine J_ (agB _ m n (l.ext c) f (g.ext c)) ?_;rintro _ p ⟨d,q⟩;have e:=c.trans q;rcases d with ⟨rfl,b⟩ | ⟨r,rfl,b,d⟩
 .refine aa ?_;refine AD6 Cg ?_;refine aa ?_;exact⟨⟨false,rfl,by simp only[Bool.false_eq_true,false_iff];exact λh=>b h.1⟩,e⟩
 .refine aa ?_;refine AD7 Cg ?_;refine aa ?_;refine J_ (awN r _ s m p d (g6 b) (i.ext Flat.ext e)) ?_;rintro _ L ⟨⟨a,rfl,t⟩,u⟩;refine aa ?_;exact⟨⟨a,by cases a<;>rfl,t.trans ⟨λh=>⟨b,h⟩,λh=>h.2⟩⟩,e.trans u⟩
def atB(cs:C_ B_)(m:o.Model)(w:A_)(h:eu w cs m)(b:m.cS) :
  EG F.Nc #[.agg cs.toArray] w λc d=>c = .bool (decide ((o.check m).bN=0))/\Ext w d:=by
 obtain⟨g,i,j,bg,k,bj,l,n,p,q,rfl,_⟩:=h.form;refine bm E.Nc ?_;refine aa ?_;intro e r s a t;refine aa ?_;refine J_ (Vc _ m e (h.ext a) b) ?_;rintro _ u ⟨rfl,f⟩;unfold zh;refine aa ?_;refine _d (v:=.I (o.check m).bN) rfl ?_;refine aa ?_;exact⟨aZ,a.trans f⟩
def awg(cs:C_ B_)(m:o.Model)(v:B_)(l:C_ Int)(i:Nat)(w:A_)(h:eu w cs m)(B:gm m)(p:i<m.ay.length)(c:cH w v l)(N:l.length=1+m.ay[i].cap.toNat) :
  EG F.Nr #[.agg cs.toArray,v,.I i] w λO P=>(∃C:Bool,O = .bool C/\(C=true↔mO m.scalars m.ay[i] l))/\Ext w P:=by
 obtain⟨ag,ah,ai,bg,aj,bj,ak,al,an,ao,rfl,Q,aq,G,ar,au,av,aw,ax,az,aA⟩:=h.form;obtain⟨aB,aC,rfl,aD⟩:=c.form;have S:=B.chan _ (ID p);have U:=S.cap;have aE:=B.g2;obtain⟨aF,rfl⟩:=G.addr;obtain⟨aG,rfl⟩:=c.addr;have r:=(G.at i p).cells;have f:=agm (s:=m.scalars) (c:=m.ay[i]) (l:=l) N U.1;obtain⟨g,H⟩:∃g,g=(dM m.ay[i].scalar m.ay[i].aQ m.ay[i].ab m.scalars).aQ:=⟨_,rfl⟩;obtain⟨s,I⟩:∃p,p=(dM m.ay[i].scalar m.ay[i].aQ m.ay[i].ab m.scalars).ab:=⟨_,rfl⟩;rw[<-H,<-I] at f;refine bm E.Nr ?_;refine aa ?_;intro aH aI aJ J j;replace r:=r.ext J;refine aa ?_;intro aK aM aP K k;replace j:=K.obj j;have t:=J.trans K;replace c:=c.ext Flat.ext t;clear r;refine aa ?_;refine M_ 0 rfl AW ?_;refine aa ?_;apply I_<;>intro aQ
 .refine aa ?_;intro L d;refine aa ?_;exact⟨⟨false,rfl,by simp only[Bool.false_eq_true,false_iff];intro h;exact absurd (f.1 h).1 AW⟩,t.trans d⟩
 refine aa ?_;refine M_ 0 rfl AW ?_;refine aa ?_;intro L d;replace j:=d.obj j;replace k:=d.obj k;replace c:=c.ext Flat.ext d;have u:=t.trans d;apply I_<;>intro aS
 .refine aa ?_;exact⟨⟨false,rfl,by simp only[Bool.false_eq_true,false_iff];intro h;exact absurd (f.1 h).2.1 AW⟩,u⟩
 refine aa ?_;refine J_ (Vb ⟨⟨#[]⟩,m.ay[i].scalar,0,m.ay[i].aQ,m.ay[i].ab,0⟩ _ m.scalars L (Q.ext u)) ?_;rintro _ V ⟨rfl,x⟩;have M:((o.bounds ⟨⟨#[]⟩,m.ay[i].scalar,0,m.ay[i].aQ,m.ay[i].ab,0⟩ m.scalars).1=g)/\(o.bounds ⟨⟨#[]⟩,m.ay[i].scalar,0,m.ay[i].aQ,m.ay[i].ab,0⟩ m.scalars).2=s:=by
  rw[H,I,show dM m.ay[i].scalar m.ay[i].aQ m.ay[i].ab m.scalars=_ from w3 ⟨⟨#[]⟩,m.ay[i].scalar,0,m.ay[i].aQ,m.ay[i].ab,0⟩ m.scalars];exact⟨rfl,rfl⟩
 rw[M.1,M.2];have W:=x.obj k;replace c:=c.ext Flat.ext x;have X:=u.trans x;refine aa ?_;refine _V [1,7,8,9] (λe:Nat=>[(10,.I ((e:Int)+1))]) 0 (λe Y=>Ext V Y/\(e:Int)<=m.ay[i].cap/\∀a (h:a+1<l.length),a<e->((a:Int)<l[0]->g<=l[a+1]/\l[a+1]<=s)/\(l[0]<=a->l[a+1]=0)) (λe=>(m.ay[i].cap - e).toNat) aV ⟨Ext.refl _,AW,λa _ h=>absurd h (Og _)⟩ ?_;clear j k;rintro b aT aU ⟨n,aW,y⟩;have k:=n.obj W;have q:=X.trans n;replace c:=c.ext Flat.ext n;refine aa ?_;apply I_<;>intro aX
 .have Z:b+1<l.length:=AW
  have z:¬(((b:Int)<l[0]->g<=l[b+1]/\l[b+1]<=s)/\(l[0]<=b->l[b+1]=0))->(false=true↔mO m.scalars m.ay[i] l):=λh=>by
   simp only[Bool.false_eq_true,false_iff];exact λab=>h ((f.1 ab).2.2 b Z)
  refine aa ?_;refine M_ 0 rfl AW ?_;refine aa ?_;apply I_<;>intro aY
  .refine aa ?_;apply I_<;>intro ae
   .refine aa ?_;exact⟨⟨false,rfl,z λh=>by have:=h.1 AW;omega⟩,q⟩
   refine aa ?_;apply I_<;>intro a0
   .refine aa ?_;exact⟨⟨false,rfl,z λh=>by have:=h.1 AW;omega⟩,q⟩
   refine aa ?_;refine M_ 0 rfl AW ?_;refine aa ?_;exact⟨b+1,aV,⟨n,AW,λa h af=>by
    by_cases A:a=b
    .subst A;exact⟨λ_=>AW,λ_=>AW⟩
    .exact y a h AW⟩,AW⟩
  .refine aa ?_;refine M_ 0 rfl AW ?_;refine aa ?_;apply I_<;>intro ae
   .refine aa ?_;exact⟨b+1,aV,⟨n,AW,λa h af=>by
     by_cases A:a=b
     .subst A;exact⟨λ_=>AW,λ_=>AW⟩
     .exact y a h AW⟩,AW⟩
   .refine aa ?_;exact⟨⟨false,rfl,z λh=>by have:=h.2 AW;omega⟩,q⟩
 .refine aa ?_;exact⟨⟨true,rfl,by simp only[true_iff];exact f.2 ⟨AW,AW,λa h=>y a h AW⟩⟩,q⟩
def awM(xs:C_ B_)(m:o.Model)(v:B_)(s:C_ Int)(w:A_)(x:nf w xs (o.layout m))(y:gm m)(g:cH w v s)(z:s.length=cG m) :
  EG F.Ns #[.agg xs.toArray,v] w λA B=>(∃p:Bool,A = .bool p/\(p=true↔∀b (d:b<s.length) (e:b<(bD m).length),(bD m)[b].aQ<=s[b]/\s[b]<=(bD m)[b].ab))/\Ext w B:=by
 obtain⟨L,M,N,O,P,Q,S,U,V,W,rfl,X,Y,Z,j,k⟩:=x.form;obtain⟨ab,ae,rfl,af⟩:=g.form;have ag:(o.layout m).cells=(cG m:Int):=rfl;have ah:=Ms m;have ai:=Mq m;have aj:cG m<=64:=iq y;have ak:(bD m).length=s.length:=z.symm;refine bm E.Ns ?_;refine aa ?_;intro C al an f l;have G:=l;clear l;replace g:=g.ext Flat.ext f;replace j:=j.ext Flat.ext f;replace k:=k.ext Flat.ext f;refine aa ?_;refine K_ 5 s.length [1,2] (λ_:Unit=>[]) () (λa _ H=>Ext C H/\∀c (d:c<s.length) (e:c<(bD m).length),c<a->(bD m)[c].aQ<=s[c]/\s[c]<=(bD m)[c].ab) aV aV ⟨Ext.refl _,λc _ _ d=>absurd d (Og _)⟩ ?_;rintro a _ ao aq ar ⟨h,q⟩;have l:=h.obj G;refine aa ?_;apply I_<;>intro au
 .have r:a<s.length:=AW
  have n:a<(bD m).length:=AW
  have av:(o.layout m).aQ[a]' AW=(bD m)[a].aQ:=Mr _ n;have aw:(o.layout m).ab[a]' AW=(bD m)[a].ab:=Mp _ n;obtain⟨ax,rfl⟩:=g.addr;obtain⟨az,rfl⟩:=j.addr;obtain⟨aA,rfl⟩:=k.addr;have t:¬((bD m)[a].aQ<=s[a]/\s[a]<=(bD m)[a].ab)->(false=true↔∀b (d:b<s.length) (e:b<(bD m).length),(bD m)[b].aQ<=s[b]/\s[b]<=(bD m)[b].ab):=λd=>by
   simp only[Bool.false_eq_true,false_iff];exact λI=>d (I a r n)
  have u:=f.trans h;refine aa ?_;apply I_<;>intro aB
  .refine aa ?_;intro J i;refine aa ?_;exact⟨⟨false,rfl,t AW⟩,u.trans i⟩
  refine aa ?_;intro J i;apply I_<;>intro aC
  .refine aa ?_;exact⟨⟨false,rfl,t AW⟩,u.trans i⟩
  refine aa ?_;refine⟨r,aZ,(),trivial,h.trans i,λc d e aD=>?_⟩;by_cases K:c=a
  .subst K;omega
  .exact q c d e AW
 .refine aa ?_;exact⟨⟨true,rfl,by simp only[true_iff];exact λc d e=>q c d e AW⟩,f.trans h⟩
def av1(cs xs:C_ B_)(m:o.Model)(v:B_)(s:C_ Int)(w:A_)(h:eu w cs m)(u:nf w xs (o.layout m))(e:gm m)(l:cH w v s) :
  EG F.No #[.agg cs.toArray,.agg xs.toArray,v] w λx p=>(∃f:Bool,x = .bool f/\(f=true↔o.Fits m s))/\Ext w p:=by
 have L:=h;have M:=u;obtain⟨Y,Z,ab,bg,ae,bj,af,ag,ah,ai,rfl,aj,ak,y,al,an,ao,aq,ar,au,av⟩:=h.form;obtain⟨aw,ax,az,aA,aB,aC,aD,aE,aF,aG,rfl,aH,z,aI,aJ,aK⟩:=u.form;obtain⟨aM,aP,rfl,aQ⟩:=l.form;have aS:(o.layout m).cells=(cG m:Int):=rfl;have aT:cG m<=64:=iq e;have aU:=e.g2;refine bm E.No ?_;refine aa ?_;intro aW aX aY N g;refine aa ?_;intro O a0 a2 A q;replace g:=A.obj g;have r:=N.trans A;replace l:=l.ext Flat.ext r;refine aa ?_;apply I_<;>intro a5;rotate_left
 .refine aa ?_;exact⟨⟨false,rfl,by simp only[Bool.false_eq_true,false_iff];intro h;have:=h.len;omega⟩,r⟩
 have B:s.length=cG m:=AW
 have P:=g;have Q:=q;clear g q;refine aa ?_;refine K_ 7 m.ay.length [2,3,4] (λ_:Unit=>[]) () (λa _ S=>Ext O S/\∀b (h:b<m.ay.length),b<a->mO m.scalars m.ay[b] (lU m b m.ay[b] s)) aV aV ⟨Ext.refl _,λb _ h=>absurd h (Og _)⟩ ?_;rintro a _ a6 C a7 ⟨i,G⟩;have g:=i.obj P;have q:=i.obj Q;have d:=r.trans i;have H:=l.ext Flat.ext i;refine aa ?_;apply I_<;>intro a9
 .have c:a<m.ay.length:=AW
  obtain⟨ba,I⟩:=AP c;have bb:=ud c;have bf:=nu m;have bk:=(e.chan _ (ID c)).cap;obtain⟨bn,rfl⟩:=z.addr;obtain⟨bo,rfl⟩:=y.addr;have bp:=z.ext Flat.ext d;have br:=((y.at a c).cells).ext d;refine aa ?_;refine _Y (k:=.i64) (k':=.i64) (bT m a) (bT m a+(1+m.ay[a].cap.toNat)) H (by simp[dy,bS,I]) (by simp[dy,bS,I];omega) AW AW λU V j=>?_;rw[show bT m a+(1+m.ay[a].cap.toNat) - bT m a=1+m.ay[a].cap.toNat from AW] at j ⊢;replace j:a4 1 (Flat da) C (.slice U (1+m.ay[a].cap.toNat) V) (lU m a m.ay[a] s):=j;refine aa ?_;refine P_ (.bool (H6 m.scalars m.ay[a] (lU m a m.ay[a] s))) (λp J=>(awg _ m _ _ a p (L.ext (d.trans J)) e c (j.ext Flat.ext J) j.len.1.symm).mono λx bt ⟨⟨f,t,k⟩,he⟩=>⟨by rw[t,avP k],he⟩) ?_;refine aa ?_;intro W n;refine N_ (λk=>?_) (λk=>?_)
  .refine aa ?_;refine⟨c,aZ,(),trivial,i.trans n,λb h K=>?_⟩;by_cases X:b=a
   .subst X;exact U6.1 k
   .exact G b h AW
  .refine aa ?_;exact⟨⟨false,rfl,by simp only[Bool.false_eq_true,false_iff];intro h;have:=U6.2 (h.queue a c);rw[k] at this;cases this⟩,d.trans n⟩
 .refine aa ?_;refine J_ (awM _ m _ s C (M.ext d) e H B) ?_;rintro _ W ⟨⟨f,rfl,t⟩,n⟩;refine aa ?_;exact⟨⟨f,rfl,t.trans ⟨λh=>⟨B,λb K=>G b K AW,h⟩,λh=>h.cell⟩⟩,d.trans n⟩
end Go.Proofs.R
namespace a8
open Go Go.RowKit
def fB(l:C_ Int):C_ B_:=l.map (Value.int .i64)
theorem xW(l:C_ Int):(fB l).length=l.length:=by simp[fB]
def L7{l:C_ Int}{d j:Nat}{x:Int}(a:j=d)(h:j<(fB l).toArray.size):(fB l).toArray.set j (.I x) h=(fB (l.set d x)).toArray:=by
 subst a;simp[fB,List.map_set]
def azf(n:Nat):qe (Value.int .i64 0).cells (n*1)=(fB (List.replicate n 0)).toArray:=by
 apply Array.ext_getElem?;intro b;by_cases a:b<n
 .simp[qe,fB,Value.cells,a,Nat.mod_one]
 .simp[qe,fB,a]
def _Z{d:B_->A_->Prop}{w:A_}{e:F_}{n:Int}{t}(a:Nat)(f:n=a)(i:a<=1000000)(g:∀b c,w.heap.size<=c->Ext w b->b.heap[c]? = some (.cells (fB (List.replicate a 0)).toArray e)->d (.slice (some ⟨c,0,none⟩) a a) b) :
  Fg e 1 8 (.I 0) (.I n) (.I n) w d t:=by
 subst f;refine _7 ⟨AW,AW,AW,AW⟩ ?_;have h:=g (w.alloc (.cells (fB (List.replicate a 0)).toArray e)) _ (Fy _) ((Ext.refl w).alloc _) (heap_alloc_new w _);rw[AG4,azf];exact h
theorem zS:∀a:C_ Int,fB a=a.flatMap da
 | []=>rfl
 | c :: b=>by
  have:=zS b
  simp only[fB,List.map_cons,List.flatMap_cons] at this ⊢;rw[this];rfl
def UF{w:A_}{b n:Nat}{e:F_}{l:C_ Int}(h:w.heap[b]? = some (.cells (fB l).toArray e))(a:n=l.length)(c:l.length<=maxLen):a4 1 (Flat da) w (.slice (some ⟨b,0,none⟩) n n) l :=
 a4.b0 (enc:=da) (λ_=>rfl) (by rw[h,zS]) a c λ_ _ _ h=>h
def aR.Js{e:F_}{base b n:Nat}{w:A_}{l:C_ Int}(h:w.heap[b]? = some (.cells (fB l).toArray e))(a:base<=b)(c:n=l.length)(d:l.length<=maxLen):aR da e 1 base w (.slice (some ⟨b,0,none⟩) n n) l:=by
 subst c;refine⟨by rw[<-zS,xW,AH5],.inr ⟨b,l.length,(fB l).toArray,rfl,a,h,Fy _,d,by simp[fB],?_⟩⟩;rw[<-zS,Im (by simp[fB])]
end a8
namespace Go.Proofs.R
open Go Go.RowKit a8 o
def Rd(cs:C_ B_)(m:o.Model)(w:A_)(h:eu w cs m)(aW:m.cS)(aX:gZ w) :
  EG F.ap #[.agg cs.toArray] w λax az=>(((o.check m).bN=0->aR da T.a 1 w.heap.size az ax (dp m))/\(¬(o.check m).bN=0->ax = .slice none 0 0))/\Ext w az:=by
 have aY:=h;obtain⟨b3,b4,b5,bg,b6,bj,b8,b9,cb,cc,rfl,a0,N,aA,aB,ch,cj,ck,cm,cp,cq⟩:=h.form;refine bm E.ap ?_;refine aa ?_;intro a2 y cr Z d;refine aa ?_;refine J_ (agB _ m a2 (aY.ext Z) aW (aX.ext Z)) ?_;rintro _ a5 ⟨ab,aC⟩;replace d:=aC.obj d;have z:=Z.trans aC;rcases ab with ⟨rfl,O⟩ | ⟨A,rfl,O,ab⟩
 .refine aa ?_;refine AD4 Cg ?_;refine aa ?_;exact⟨⟨λh=>absurd h O,λ_=>aZ⟩,z⟩
 have P:=g6 O;have C:=Re m;have ct:cG m<=64:=iq P;obtain⟨cu,cv,cw⟩:=uR m;have cx:=P.g2;have cB:(o.insts m).length<=30:=by have:=tz m;have:=P.procs;omega
 obtain⟨cC,cD,cF,cI,cJ,cL,cM,cN,cO,cP,cQ,cS,cT,aD,cU,aE,cW,cX,cY,cZ,c1,c2,e,ae,a6,aF,a7,a9,ba,bb,bf,bk,bn⟩:=ab.form;clear a6 a7 a9 ba bb bf bk;refine aa ?_;refine AD5 Cg ?_;refine aa ?_;refine _Z (cG m) rfl AW ?_;intro t f c3 Q c;rw[<-C,<-avv] at c;have bo:=d;have bp:=e;replace d:=Q.obj d;replace e:=Q.obj e;have c4:=z.trans Q;have c5:=ca c;have br:=ca d;have c9:=z.size;have af:f≠A:=by
  intro S;subst S
  have:=ca bp
  omega
 have ag:f≠y:=by
  intro S;subst S
  have:=ca bo
  omega
 have ah:∀{b},Mod (λa=>a=f) t b->b.heap[y]? = t.heap[y]? := λh=>h.block _ br (Ne.symm ag);have ai:∀{b},Mod (λa=>a=f) t b->b.heap[A]? = t.heap[A]? := λh=>h.block _ (ca e) (Ne.symm af);have B:∀{b},Mod (λa=>a=f) t b->Ext a5 b:=λh=>h.ext Q λn db S=>AW
 rw[d] at ah;rw[e] at ai;clear d e;refine aa ?_;refine K_ 25 m.vars.length [1,3,4,23,24] (λ_:Unit=>[]) () (λa _ b=>Mod (λn=>n=f) t b/\b.heap[f]? = some (.cells (fB (o.pre (dp m) (dU m a))).toArray T.a)) aV aV ⟨Mod.refl _ _,by simpa[dU,o.total] using c⟩ ?_;clear c;rintro a _ aj ak bt ⟨j,c⟩;have d:=ah j;have e:=ai j;have dO:=z.trans (B j);refine aa ?_;apply I_<;>intro aD
 .have k:a<m.vars.length:=AW
  obtain⟨bu,rfl⟩:=N.addr;have al:=((N.at a k).cells).ext dO;have dc:=sg m.vars[a] m.scalars;have bw:=qZ k;have dd:=nu m;obtain⟨bx,an⟩:=Al k;refine aa ?_;intro aG U bz v bA;refine aa ?_;intro l H p;have q:Ext ak l:=H.ext v bz;replace p:l.heap[U]? = some (.cells m.vars[a].enc.toArray T.i):=p;replace d:=q.obj d;replace e:=q.obj e;replace c:=q.obj c;have hg:=dO.trans q;have de:=ca p;have bB:=j.size;have bC:f≠U:=AW
  clear H v bA al;refine aa ?_;refine J_ (C5 m.vars[a] _ m.scalars l (a0.ext hg)) ?_;rintro _ x ⟨rfl,I⟩;replace d:=I.obj d;replace e:=I.obj e;replace p:=I.obj p;replace c:=I.obj c;have ao:Mod (λn=>n=f) t x:=(j.trans q.mod).trans I.mod;have J:∀{b},Mod (λa=>a=f) x b->b.heap[y]? = x.heap[y]? := λh=>h.block _ (ca d) (Ne.symm ag);have K:∀{b},Mod (λa=>a=f) x b->b.heap[A]? = x.heap[A]? := λh=>h.block _ (ca e) (Ne.symm af);have aH:∀{b},Mod (λa=>a=f) x b->b.heap[U]? = x.heap[U]? := λh=>h.block _ (ca p) (Ne.symm bC);rw[d] at J;rw[e] at K;rw[p] at aH;clear d e p;refine aa ?_;refine K_ 34 (o.cells m.vars[a] m.scalars).toNat [1,3,4,5,6,23,24,25,33] (λ_:Unit=>[]) () (λg _ b=>Mod (λn=>n=f) x b/\b.heap[f]? = some (.cells (fB (o.pre (dp m) (dU m a+g))).toArray T.a)) aV aV ⟨Mod.refl _ _,by simpa using c⟩ ?_;clear c;rintro g _ aj aI bE ⟨i,c⟩;have d:=J i;have e:=K i;have p:=aH i;refine aa ?_;apply I_<;>intro aE
  .have V:=Rg k (j:=g) AW;have aq:dU m a+g<cG m:=AW
   have bF:=ae.ext Flat.ext ((B ao).trans (Ext.refl _));obtain⟨df,rfl⟩:=ae.addr;replace bF:=ae.ext Flat.ext (B (ao.trans i));refine aa ?_;intro ar r;replace d:=r.obj d;replace e:=r.obj e;replace p:=r.obj p;replace c:=r.obj c;have L:=xW (o.pre (dp m) (dU m a+g));rw[o.N8 AW,C] at L;refine aa ?_;refine M_ (dU m a+g) (by rw[an];omega) aq ?_;refine aa ?_;refine _B c (by rw[AK7,L];omega) rfl λbG bH u=>?_;rw[L7 (AH5 _),UY V] at u;refine aa ?_;exact⟨AW,aZ,(),trivial,(i.trans r.mod).trans (bH.mod rfl),u⟩
  .have au:g=(o.cells m.vars[a] m.scalars).toNat:=AW
   rw[au,<-ait k] at c;refine aa ?_;exact⟨k,aZ,(),trivial,ao.trans i,c⟩
 have bI:m.vars.length<=a:=AW
 rw[ais bI,agb (o.total (cn m)) λn N aA=>Kl N aA,<-aem] at c;refine aa ?_;refine K_ 58 (o.insts m).length [1,3,4,56,57] (λ_:Unit=>[]) () (λa _ b=>Mod (λn=>n=f) t b/\b.heap[f]? = some (.cells (fB (o.pre (dp m) (b7 m a))).toArray T.a)) aV aV ⟨j,c⟩ ?_;clear c d e j dO;rintro a _ aj ak bt ⟨j,c⟩;have d:=ah j;have e:=ai j;have dO:=z.trans (B j);have aJ:=bn.ext Flat.ext (B j);refine aa ?_;apply I_<;>intro aD
 .have k:a<(o.insts m).length:=AW
  obtain⟨dg,rfl⟩:=aJ.addr;have bJ:=qM _ (ID k);obtain⟨s,aK,aM,bK⟩:=uO bJ;have bL:=P.proc _ (ID aK);have dh:=bL.g2.1;have G:pj m (o.insts m)[a]=0 :: m.procs[s].vars.map (·.init):=by
   unfold pj;rw[aM,ir AW AW];simp
  have bw:=Hx k;have bM:(kj m (o.insts m)[a]).length=1+m.procs[s].vars.length:=by rw[bK,pt]
  have aP:=Gb k (j:=0) (by rw[G];simp);have bN:(pj m (o.insts m)[a])[0]'(by rw[G];simp)=0:=by simp[G]
  rw[bN,AH1] at aP;rw[agc aP] at c;obtain⟨bx,an⟩:=qK k;refine aa ?_;intro aG W bO v bP;refine aa ?_;intro l H u;have q:Ext ak l:=H.ext v bO;replace u:l.heap[W]? = some (.cells #[.I s,.I (o.insts m)[a].elem] T.c):=by rw[<-aM];exact u
  replace d:=q.obj d;replace e:=q.obj e;replace c:=q.obj c;have hg:=dO.trans q;have bB:=j.size;have bR:f≠W:=AW
  have X:Mod (λn=>n=f) t l:=j.trans q.mod;clear H v bP aJ;obtain⟨bu,rfl⟩:=aB.addr;obtain⟨di,dj,dI,av,aw,bV⟩:=aB.at s aK;obtain⟨dr,dt,rfl,du⟩:=aw.form;obtain⟨dv,dw,rfl,dx⟩:=bV.form;replace av:=av.ext hg;refine aa ?_;have J:∀{b},Mod (λa=>a=f) l b->b.heap[y]? = l.heap[y]? := λh=>h.block _ (ca d) (Ne.symm ag);have K:∀{b},Mod (λa=>a=f) l b->b.heap[A]? = l.heap[A]? := λh=>h.block _ (ca e) (Ne.symm af);have aQ:∀{b},Mod (λa=>a=f) l b->b.heap[W]? = l.heap[W]? := λh=>h.block _ (ca u) (Ne.symm bR);rw[d] at J;rw[e] at K;rw[u] at aQ;clear d e u av;refine K_ 71 m.procs[s].vars.length [1,3,4,8,9,56,57,58,69,70] (λ_:Unit=>[]) () (λg _ b=>Mod (λn=>n=f) l b/\b.heap[f]? = some (.cells (fB (o.pre (dp m) (b7 m a+1+g))).toArray T.a)) aV aV ⟨Mod.refl _ _,by simpa using c⟩ ?_;clear c;rintro g _ aj aI bE ⟨i,c⟩;have d:=J i;have e:=K i;have u:=aQ i;have hh:=z.trans (B (X.trans i));refine aa ?_;apply I_<;>intro aE
  .have bW:g<m.procs[s].vars.length:=AW
   obtain⟨dz,rfl⟩:=aw.addr;have al:=((aw.at g bW).cells).ext hh;have V:=Gb k (j:=1+g) (by rw[G];simp;omega);have bX:(pj m (o.insts m)[a])[1+g]'(by rw[G];simp;omega)=m.procs[s].vars[g].init:=by
    simp only[G];rw[List.getElem_cons,dif_neg AW];simp
   rw[bX,<-AH6] at V;have aq:b7 m a+1+g<cG m:=AW
   obtain⟨dB,rfl⟩:=aF.addr;refine aa ?_;intro aG aS bY v bZ;refine aa ?_;intro ar aT Y;have r:Ext aI ar:=aT.ext v bY;replace Y:ar.heap[aS]? = some (.cells m.procs[s].vars[g].enc.toArray T.i):=Y;have dC:=aF.ext Flat.ext ((B (X.trans i)).trans r);have dF:f≠aS:=by have:=(X.trans i).size;omega
   replace d:=r.obj d;replace e:=r.obj e;replace c:=r.obj c;clear aT v bZ al;have L:=xW (o.pre (dp m) (b7 m a+1+g));rw[o.N8 AW,C] at L;refine aa ?_;intro bG M;replace d:=M.obj d;replace e:=M.obj e;replace c:=M.obj c;replace Y:=M.obj Y;refine aa ?_;refine M_ (b7 m a+1+g) (by rw[an];omega) aq ?_;refine aa ?_;refine _B c (by rw[AK7,L];omega) rfl λdG b0 aU=>?_;rw[L7 (AH5 _),UY V] at aU;refine aa ?_;exact⟨AW,aZ,(),trivial,((i.trans r.mod).trans M.mod).trans (b0.mod rfl),aU⟩
  .have au:g=m.procs[s].vars.length:=AW
   rw[au,show b7 m a+1+m.procs[s].vars.length=b7 m (a+1) from by rw[ael k,bM];omega] at c;refine aa ?_;exact⟨k,aZ,(),trivial,X.trans i,c⟩
 have b1:(o.insts m).length<=a:=AW
 rw[aek b1,<-C,avu] at c;refine aa ?_;exact⟨⟨λ_=>aR.Js c (by have:=z.size;omega) C.symm (by rw[C];unfold maxLen;omega),λh=>absurd O h⟩,dO⟩
def anj(cs:C_ B_)(m:o.Model)(w:A_)(h:eu w cs m)(c:m.cS)(d:gZ w) :
  EG F.ap #[.agg cs.toArray] w λa b=>(((o.check m).bN=0->cH b a (dp m))/\(¬(o.check m).bN=0->a = .slice none 0 0))/\Ext w b :=
 (Rd cs m w h c d).mono λa b h=>⟨⟨λe=>aR.kF (enc:=da) (λ_=>rfl) (h.1.1 e),h.1.2⟩,h.2⟩
def awL(cs:C_ B_)(m:o.Model)(w:A_)(h:eu w cs m)(al:m.cS) :
  EG F.Nn #[.agg cs.toArray] w λa N=>(((o.check m).bN=0->cH N a (dp m))/\(¬(o.check m).bN=0->a = .slice none 0 0))/\Ext w N:=by
 have an:=h;obtain⟨bG,bH,bI,bg,bJ,bj,bK,bL,bM,bN,rfl,a0,ao,aq,ar,bO,bP,bR,bV,bW,bX⟩:=h.form;refine bm E.Nn ?_;refine aa ?_;intro a2 a5 bY au f;refine aa ?_;refine J_ (atB _ m a2 (an.ext au) al) ?_;rintro _ g ⟨rfl,av⟩;replace f:=av.obj f;have t:=au.trans av;by_cases G:(o.check m).bN=0;rotate_left
 .rw[decide_eq_false G];refine aa ?_;exact⟨⟨λh=>absurd h G,λ_=>aZ⟩,t⟩
 rw[decide_eq_true G];have H:=g6 G;have a6:=Re m;have bZ:cG m<=64:=iq H;have b0:=H.g2;have b1:=nu m;have b3:(o.insts m).length<=30:=by have:=tz m;have:=H.procs;omega
 have I:∀J:Nat,((dp m).take J).length<=64:=λJ=>by rw[NU];omega
 have a7:=f;clear f;have z:∀{c},Ext g c->c.heap[a5]? = _:=λV=>V.obj a7;refine aa ?_;refine K_ 4 m.vars.length [1] (λa:ef=>[(3,.slice a.1 a.2.1 a.2.2)]) (none,0,0) (λb a c=>Ext g c/\aR da T.a 1 g.heap.size c (.slice a.1 a.2.1 a.2.2) ((dp m).take (dU m b))) aV aV ⟨Ext.refl _,by simpa[dU,o.total] using aR.nil _ _ _ _ _⟩ ?_;rintro b a K aw ax ⟨n,l⟩;have f:=z n;refine aa ?_;apply I_<;>intro az
 .have e:b<m.vars.length:=AW
  obtain⟨aA,rfl⟩:=ao.addr;have b4:=sg m.vars[b] m.scalars;have aB:=qZ e;refine aa ?_;refine K_ 5 (o.cells m.vars[b] m.scalars).toNat [1,4] (λa:ef=>[(3,.slice a.1 a.2.1 a.2.2)]) a (λd a c=>Ext g c/\aR da T.a 1 g.heap.size c (.slice a.1 a.2.1 a.2.2) ((dp m).take (dU m b+d))) aV aV ⟨n,by simpa using l⟩ ?_;clear f l;rintro d a K aC W ⟨i,j⟩;have f:=z i;have A:=t.trans i;have O:=((ao.at b e).cells).ext A;refine aa ?_;refine P_ _ (λN V=>Ol m.vars[b] _ m.scalars N (a0.ext (A.trans V))) ?_;refine aa ?_;intro a9 p;replace f:=p.obj f;replace O:=O.ext p;apply I_<;>intro aD
  .have B:=Rg e (j:=d) AW;refine aa ?_;intro P ba bb r X;have s:=j.ext (p.trans r);have L:=(i.trans p).trans r;have Y:=I (dU m b+d);refine T_ (y:=m.vars[b].init) s X rfl (λ_=>rfl) je AW (by unfold maxLen;omega) L.size λu v x aE y Z=>?_;refine aa ?_;exact⟨AW,aZ,(u,v,x),aV,s.hN L Z (Fy _),by rw[<-AH6,o.wE B];exact y⟩
  .have M:d=(o.cells m.vars[b] m.scalars).toNat:=AW
   rw[M,<-ait e] at j;refine aa ?_;exact⟨e,aZ,a,aV,i.trans p,j.ext p⟩
 have bf:m.vars.length<=b:=AW
 rw[ais bf,<-ZZ] at l;clear f;refine aa ?_;refine K_ 6 m.ay.length [1] (λa:ef=>[(3,.slice a.1 a.2.1 a.2.2)]) a (λb a c=>Ext g c/\aR da T.a 1 g.heap.size c (.slice a.1 a.2.1 a.2.2) ((dp m).take (bT m b))) aV aV ⟨n,l⟩ ?_;clear l n;rintro b a K aw ax ⟨n,l⟩;have f:=z n;refine aa ?_;apply I_<;>intro az
 .have e:b<m.ay.length:=AW
  obtain⟨aA,rfl⟩:=aq.addr;have b5:=(H.chan _ (ID e)).cap;have aB:=ud e;refine aa ?_;refine _V [1,6] (λk:ef×Nat=>[(3,.slice k.1.1 k.1.2.1 k.1.2.2),(7,.I k.2)]) (a,0) (λk c=>(Ext g c/\(k.2:Int)<=m.ay[b].cap+1)/\aR da T.a 1 g.heap.size c (.slice k.1.1 k.1.2.1 k.1.2.2) ((dp m).take (bT m b+k.2))) (λk=>(m.ay[b].cap+1 - k.2).toNat) aV ⟨⟨n,by simp only;omega⟩,by simpa using l⟩ ?_;clear f l;rintro⟨a,d⟩ K aC ⟨⟨i,W⟩,j⟩;have f:=z i;have A:=t.trans i;have O:=((aq.at b e).cells).ext A;simp only at W j;refine aa ?_;apply I_<;>intro aD
  .have B:=Kl (m:=m) (c:=bT m b+d) (by unfold bT;omega) AW;refine aa ?_;intro P ba bb r X;have s:=j.ext r;have L:=i.trans r;have Y:=I (bT m b+d);refine T_ (y:=(0:Int)) s X rfl (λ_=>rfl) je AW (by unfold maxLen;omega) L.size λu v x aE y Z=>?_;refine aa ?_;exact⟨((u,v,x),d+1),aV,⟨⟨s.hN L Z (Fy _),by simp only;omega⟩,by rw[<-AH6,o.wE B];exact y⟩,by simp only;omega⟩
  .have M:d=1+m.ay[b].cap.toNat:=AW
   rw[M,<-ZY e] at j;refine aa ?_;exact⟨e,aZ,a,aV,i,j⟩
 have bk:m.ay.length<=b:=AW
 rw[aku bk,<-aem] at l;refine aa ?_;refine J_ (Ev _ m aw (an.ext (t.trans n)) al) ?_;rintro b6 Q ⟨aF,ab⟩;obtain⟨bn,bo,rfl,_⟩:=aF.form;have aG:∀{c:A_},eF [T.a] Q c->q6 c (.slice bn (o.insts m).length bo) (o.insts m):=λb=>aR.kF (enc:=c7.enc) (λ_=>rfl) (aF.ia b Ae);have aH:=l.ext ab;have aI:=n.trans ab;have I:∀J:Nat,((dp m).take J).length<=64:=λJ=>by rw[NU];omega
 clear f;refine aa ?_;refine K_ 9 (o.insts m).length [1,8] (λa:ef=>[(3,.slice a.1 a.2.1 a.2.2)]) a (λb a c=>(Ext g c/\eF [T.a] Q c)/\aR da T.a 1 g.heap.size c (.slice a.1 a.2.1 a.2.2) ((dp m).take (b7 m b))) aV aV ⟨⟨aI,eF.refl⟩,aH⟩ ?_;clear l aH n ab aI;rintro b a K aC ax ⟨⟨i,aJ⟩,j⟩;have f:=z i;have ae:=aG aJ;have A:=t.trans i;refine aa ?_;apply I_<;>intro az
 .have e:b<(o.insts m).length:=AW
  obtain⟨b8,rfl⟩:=ae.addr;have bp:=qM _ (ID e);obtain⟨q,af,aK,br⟩:=uO bp;have bt:=H.proc _ (ID af);have b9:=bt.g2.1;have C:pj m (o.insts m)[b]=0 :: m.procs[q].vars.map (·.init):=by
   unfold pj;rw[aK,ir AW AW];simp
  have aB:=Hx e;have bu:(kj m (o.insts m)[b]).length=1+m.procs[q].vars.length:=by rw[br,pt]
  have aM:=Gb e (j:=0) (by rw[C];simp);have bw:(pj m (o.insts m)[b])[0]'(by rw[C];simp)=0:=by simp[C]
  rw[bw,AH1] at aM;obtain⟨aA,rfl⟩:=ar.addr;obtain⟨cb,cc,dI,S,ag,bx⟩:=ar.at q af;obtain⟨ch,cj,rfl,ck⟩:=ag.form;obtain⟨cm,cp,rfl,cq⟩:=bx.form;refine aa ?_;intro a9 cr ct p aP;have U:=j.ext p;have aQ:=i.trans p;have Y:=I (b7 m b);refine T_ (y:=(0:Int)) U aP rfl (λ_=>rfl) je AW (by unfold maxLen;omega) aQ.size λu v x P s aS=>?_;rw[<-o.wE aM] at s;have r:Ext g P:=U.hN aQ aS (Fy _);have aT:eF [T.a] Q P:=(aJ.trans (eF.ext p)).trans (Mg U aS);replace ae:=aG aT;replace f:=z r;have bz:=t.trans r;replace S:=S.ext bz;unfold ee.enc at S;clear j U aP;refine aa ?_;refine M_ q aK af ?_;refine aa ?_;intro cu ah;refine K_ 11 m.procs[q].vars.length [1,8,9,10] (λa:ef=>[(3,.slice a.1 a.2.1 a.2.2)]) (u,v,x) (λd a c=>(Ext g c/\eF [T.a] Q c)/\aR da T.a 1 g.heap.size c (.slice a.1 a.2.1 a.2.2) ((dp m).take (b7 m b+1+d))) aV aV ⟨⟨r.trans ah,aT.trans (eF.ext ah)⟩,by simpa using s.ext ah⟩ ?_;clear f s S ae;rintro d a K aE W ⟨⟨ai,aU⟩,y⟩;have bA:=t.trans ai;refine aa ?_;apply I_<;>intro aD
  .have aW:d<m.procs[q].vars.length:=AW
   obtain⟨cv,rfl⟩:=ag.addr;have O:=((ag.at d aW).cells).ext bA;have B:=Gb e (j:=1+d) (by rw[C];simp;omega);have bB:(pj m (o.insts m)[b])[1+d]'(by rw[C];simp;omega)=m.procs[q].vars[d].init:=by
    simp only[C];rw[List.getElem_cons,dif_neg AW];simp
   rw[bB,<-AH6] at B;refine aa ?_;intro cw cx cB aj bC;have ak:=y.ext aj;have aX:=ai.trans aj;have Y:=I (b7 m b+1+d);refine T_ (y:=m.procs[q].vars[d].init) ak bC rfl (λ_=>rfl) je AW (by unfold maxLen;omega) aX.size λu v x cC bE aY=>?_;refine aa ?_;exact⟨aW,aZ,(u,v,x),aV,⟨ak.hN aX aY (Fy _),(aU.trans (eF.ext aj)).trans (Mg ak aY)⟩,by rw[<-AH6,o.wE B];exact bE⟩
  .have M:d=m.procs[q].vars.length:=AW
   rw[M,show b7 m b+1+m.procs[q].vars.length=b7 m (b+1) from by rw[ael e,bu];omega] at y;refine aa ?_;exact⟨e,aZ,a,aV,⟨ai,aU⟩,y⟩
 .have bF:(o.insts m).length<=b:=AW
  rw[aek bF,<-a6,AG9] at j;refine aa ?_;exact⟨⟨λ_=>aR.kF (enc:=da) (λ_=>rfl) j,λh=>absurd G h⟩,A⟩
def oY(w:A_)(a:Addr)(l:C_ Int):Prop := ∃b,w.cell? a=some b/\cH w b l
theorem oY.ext(w w':A_)(a:Addr)(l:C_ Int)(b:Ext w w')(h:oY w a l):oY w' a l:=let ⟨c,d,e⟩:=h; ⟨c,b.cell d,e.ext Flat.ext b⟩
abbrev hB(w:A_)(v:B_)(l:C_ (C_ Int)):Prop:=a4 1 oY w v l
end Go.Proofs.R