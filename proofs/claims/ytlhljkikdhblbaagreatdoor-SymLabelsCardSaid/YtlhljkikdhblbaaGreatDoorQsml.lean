/- Parts. -/
import Derived.Test.YtlhljkikdhblbaaGreatDoorQsmk
import Derived.Laws.Pointers
set_option linter.all false
set_option maxRecDepth 8000
set_option maxHeartbeats 16000000
namespace o
def Ee{m:Model}(h:(check m).bK=0):lyz m=layout m:=by unfold lyz;rw[if_pos h]
def aft{m:Model}(h:¬(check m).bK=0):lyz m=UM:=by unfold lyz;rw[if_neg h]
def as4{m:Model}(h:(check m).bK=0):kinds m=(bF m).map (·.kind):=by unfold kinds;rw[if_pos h]
def as3{m:Model}(h:¬(check m).bK=0):kinds m=[]:=by unfold kinds;rw[if_neg h]
def ij{m:Model}(h:gh m):(bF m).length<=64:=by
 have:=MB h
 have:=h.cells
 omega
open Go Go.RowKit ba in
def lM.zero(w:A_):lM w [.slice none 0 0,.slice none 0 0,.slice none 0 0,.I 0,.slice none 0 0,.slice none 0 0] UM:=⟨_,_,_,_,_,rfl,a6.nil,a6.nil,a6.nil,a6.nil,a6.nil⟩
end o
namespace Go.Proofs.R
open Go Go.RowKit ba o
def Ue(cs:C_ B_)(m:o.Model)(w:A_)(h:dU w cs m)(k:m.cB)(t:gi w) :
  EL F.xb #[.agg cs.toArray] w λu l=>(∃f,u = .agg f.toArray/\ec w (λw=>lM w f (lyz m)) l)/\Ext w l:=by
 have n:=h;obtain⟨G,H,I,bg,J,bj,K,L,M,N,rfl,_⟩:=h.form;refine bn E.xb ?_;refine ad ?_;intro O P Q p b;refine ad ?_;intro v S U q a;have V:=cf b;replace b:=q.obj b;have W:=cf a;have X:=p.size;have g:=p.trans q;refine ad ?_;refine J_ (afQ _ m v (n.ext g) k (t.ext g)) ?_;rintro _ x ⟨rfl,d⟩;replace b:=d.obj b;replace a:=d.obj a;have e:=g.trans d;by_cases c:(o.check m).bK=0
 .rw[decide_eq_true c];refine ad ?_;refine J_ (afu _ m x (n.ext e) k (gA c)) ?_;rintro _ y ⟨⟨f,Y,rfl,r,z⟩,i⟩;obtain⟨Z,ab,ae,af,ag,ah,ai,aj,ak,al,rfl,_⟩:=r.here.form;obtain⟨an,ao,rfl,_⟩:=z.here.form;replace a:=i.obj a;have A:=e.trans i;have aq:=d.size;refine ad ?_;intro ar au av j aw;replace a:=j.obj a;refine ad ?_;intro ax s ay;have B:=(r.ext j i.size).wr s AY;refine ad ?_;exact⟨⟨_,rfl,by rw[Ee c];exact B.low e.size⟩,s.ext (A.trans j) AY⟩
 .rw[decide_eq_false c];refine ad ?_;intro y C az;refine ad ?_;exact⟨⟨[_,_,_,_,_,_],rfl,by rw[aft c];exact gJ.of λ_=>lM.zero _⟩,C.ext e AY⟩
def ats(cs:C_ B_)(m:o.Model)(w:A_)(h:dU w cs m)(i:m.cB)(B:gi w) :
  EL F.hc #[.agg cs.toArray] w λa j=>aT da T.a 1 w.heap.size j a (o.kinds m)/\Ext w j:=by
 have k:=h;obtain⟨Q,S,U,bg,V,bj,W,X,Y,Z,rfl,_⟩:=h.form;refine bn E.hc ?_;refine ad ?_;intro C ab ae e l;refine ad ?_;refine J_ (afQ _ m C (k.ext e) i (B.ext e)) ?_;rintro _ G ⟨rfl,n⟩;replace l:=n.obj l;have f:=e.trans n;by_cases c:(o.check m).bK=0
 .rw[decide_eq_true c,as4 c];have af:=ij (gA c);refine ad ?_;refine J_ (afu _ m G (k.ext f) i (gA c)) ?_;rintro _ ag ⟨⟨ah,ai,rfl,H,d⟩,I⟩;obtain⟨aj,ak,al,an,ao,aq,ar,au,av,aw,rfl,_⟩:=H.here.form;have d:=d.here;obtain⟨ax,ay,rfl,_⟩:=d.form;have J:=f.trans I;refine ad ?_;intro p az aB q aC;have r:=J.trans q;replace d:=d.ext Flat.ext q;refine ad ?_;refine K_ 18 (bF m).length [5,16,17] (λa:ez=>[(3,.slice a.1 a.2.1 a.2.2)]) (none,0,0) (λb a s=>Ext p s/\aT da T.a 1 p.heap.size s (.slice a.1 a.2.1 a.2.2) (((bF m).take b).map (·.kind))) aW aW ⟨Ext.refl _,aT.nil _ _ _ _ _⟩ ?_;rintro b a aD aE aF ⟨t,g⟩;refine ad ?_;apply I_<;>intro aG
  .have u:b<(bF m).length:=AY
   obtain⟨aH,rfl⟩:=d.addr;have aI:=aic (bF m)[b];refine ad ?_;intro aJ aK aL v aP;refine ad ?_;intro aQ aR aS x K;have y:=t.trans (v.trans x);have z:=g.ext (v.trans x);have A:(((bF m).take b).map (·.kind)).length=b:=by simp;omega
   refine T_ (y:=(bF m)[b].kind) z K rfl (λ_=>rfl) j8 (by rw[A];omega) (by rw[A];unfold maxLen;omega) y.size λL M N aU O P=>?_;refine ad ?_;exact⟨u,aV,(L,M,N),aW,z.h9 y P (EM _),by rw[Oi u,AF9];exact O⟩
  .rw[IA AY] at g;refine ad ?_;exact⟨aT.low r.size g,r.trans t⟩
 .rw[decide_eq_false c,as3 c];refine ad ?_;exact⟨aT.nil _ _ _ _ _,f⟩
end Go.Proofs.R
namespace o
open Go
theorem aeW{m:Model}:∀(g:C_ ed) (b:Nat),g=m.procs.drop b->∀c∈ky m g b,∃(e:Nat) (d:e<m.procs.length),c.proc=e/\(m.procs[e].over≠0->1<=c.elem)
 | [],_,_,c,a=>by simp[ky] at a
 | e :: i,b,d,c,a=>by
  have f:b<m.procs.length:=by
   apply Classical.byContradiction;intro h;rw[VQ AY] at d;cases d
  rw[AG0 f] at d;injection d with j k
  simp only[ky,List.mem_append] at a;rcases a with (a | a) | a
  .unfold jw at a;split at a
   .rename_i l;rw[AH0] at a;subst a;exact⟨b,f,rfl,λh=>absurd (j ▸ l) h⟩
   .cases a
  .unfold ki at a;obtain⟨n,_,rfl⟩:=List.mem_map.1 a;exact⟨b,f,rfl,λ_=>by simp only;omega⟩
  .exact aeW i (b+1) k c a
structure hF(m:Model)(q p:Nat):Prop where
 ax:q<(insts m).length
 aB:p<m.procs.length
 eq:(insts m)[q].proc=p
 elem:m.procs[p].over≠0->1<=(insts m)[q].elem
 fR:0<=(insts m)[q].elem/\(insts m)[q].elem<=4
def wg{m:Model}{q:Nat}(h:q<(insts m).length):∃a,hF m q a:=by
 obtain⟨a,b,c,d⟩:=aeW m.procs 0 Ah _ (FA h);exact⟨a,h,b,c,d,(qJ _ (FA h)).elem⟩
def hF.nth{m:Model}{q p:Nat}(h:hF m q p):o.nth m.procs ((insts m)[q]'(h.ax)).proc=some (m.procs[p]'(h.aB)):=by
 rw[h.eq,ik AY (by have:=h.aB;omega)];rfl
theorem hF.C7{m:Model}{q p:Nat}(h:hF m q p):kf m ((insts m)[q]'(h.ax))=kR m.scalars (m.procs[p]'(h.aB)):=by
 unfold kf;rw[h.nth]
def hF.room{m:Model}{q p:Nat}(h:hF m q p):b7 m q+(1+(m.procs[p]'(h.aB)).vars.length)<=cH m:=by
 have:=HD h.ax
 rw[h.C7,py] at this;exact this
def amT{m:Model}{q:Nat}(h:q<(insts m).length):Rg m q=((insts m)[q]'h).elem.toNat:=by
 unfold Rg;rw[List.getElem?_eq_getElem h]
def BY{m:Model}{v:Nat}(h:v<m.vars.length):zY m v=(cells m.vars[v] m.scalars).toNat:=by
 unfold zY;rw[List.getElem?_eq_getElem h]
def o0{m:Model}{c:Nat}(h:c<m.aA.length):gq m c=m.aA[c].cap.toNat:=by
 unfold gq;rw[List.getElem?_eq_getElem h]
def ayW{m:Model}(a:gh m){v:Nat}(h:v<m.vars.length):dS m v+zY m v<=64:=by
 have:=qV h
 rw[BY h]
 have:=ni m
 have:cH m<=64:=ij a
 omega
def aah{m:Model}(a:gh m){c:Nat}(h:c<m.aA.length):bS m c+(1+gq m c)<=64:=by
 have:=ub h
 rw[o0 h]
 have:=ni m
 have:cH m<=64:=ij a
 omega
def hF.axp{m:Model}(a:gh m){q p:Nat}(h:hF m q p):b7 m q+(1+(m.procs[p]'(h.aB)).vars.length)<=64:=by
 have:=h.room
 have:cH m<=64:=ij a
 omega
structure azS(n:Nat)(l:List Int):Prop where
 aQ:∀x∈l,0<=x/\x<80
 len:l.length<=n
def aeZ{m:Model}(a:gh m):(insts m).length<=30:=by have:=ts m;have:=a.procs;omega
end o
namespace ba
open Go Go.RowKit o
def a6.sub{α:Type}{sz:Nat}{R:A_->Addr->α->Prop}{w:A_}{b:H_ Addr}{n c:Nat}{xs:C_ α}(h:a6 sz R w (.slice b n c) xs)(l a:Nat)(d:l<=a)(e:a<=xs.length) :
  a6 sz R w (.slice (if c=l then b else b.map (·.add (l*sz))) (a - l) (c - l)) ((xs.drop l).take (a - l)) :=
 (h.tail l AY).head (a - l) (by rw[AG7];omega)
section
variable{P:Program}{bb:Value->Prop}{S:Fr}{w:World}
def _X{α:Type}{sz n cap:Nat}{R:A_->Addr->α->Prop}{b:H_ Addr}{x y:G_}{k k':IntKind}{xs:C_ α}{t}(l a:Nat)(c:a6 sz R w (.slice b n cap) xs)(g:br S x = .int k (l:Int))(h:br S y = .int k' (a:Int))(d:l<=a)(i:a<=xs.length)
  (j:∀e f,a6 sz R w (.slice e (a - l) f) ((xs.drop l).take (a - l))->bb (.slice e (a - l) f)):sR S sz (.slice b n cap) (some x) (some y) none bb t:=by
 obtain⟨m,p,q⟩:=c.len;refine _K l a cap (by simp[e6,g]) (by simp[e6,h]) (by simp[e6]) ⟨d,AY,EM _⟩ Ah ?_;exact j _ _ (c.sub l a d i)
def AA6{b i j:Nat}{c:C_ B_}{a:F_}{f:Nat×Nat}{v:B_}{w0:A_}{t}(d:w0.heap[b]? = some (.cells c.toArray a f))(e:Ext w0 w)(g:c[i+j]? = some v)(h:bb v):tM (.pointer (some ((Addr.add ⟨b,0,none⟩ i).add j))) w bb t:=by
 rw[add_add];exact _G d e g h
end
theorem aa{A B:Prop}(k:B)(h:yK B->A:=by
 intro a
 (repeat' first
 | assumption
 | exact Ext.refl _
 | refine Ext.trans ?_ Aq
 | simp -dsimp only[c7,cD,Nat.reduceAdd,Nat.reduceEqDiff,reduceIte,reduceCtorEq,dt,yr,yq,x8,x7,xt,xr,List.cons_append,List.nil_append]
 | refine Q_ AY ?_
 | refine _G Aq ?_ rfl ?_
 | refine _C Aq ?_ rfl ?_
 | refine _T AY ?_
 | refine _M (by first | assumption | omega) ?_
 | refine _N (by first | assumption | omega) ?_
 | refine _E Aq ?_
 | refine _F Aq ?_
 | refine _L Aq ?_ AY rfl ?_
 | refine _R Aq ?_ AY rfl ?_
 | refine _S Aq ?_ AY rfl ?_
 | refine AA6 Aq ?_ rfl ?_
 | refine _2 Aq ?_ rfl ?_
 | refine _3 Aq ?_ rfl ?_
 | refine S_ Aq ?_ rfl ?_
 | refine _O (λ_=>by (simp -dsimp only[c7,Nat.reduceAdd,Nat.reduceEqDiff,reduceIte,reduceCtorEq,dt]);rfl) rfl rfl (by first | assumption | (simp[Value.oneCell',o.c9.enc,o.Ref.enc,o.Node.enc,o.Scalar.enc,o.Var.enc,o.eb.enc,o.Act.enc,o.ew.enc,o.ed.enc,o.mL.enc];done)) ?_
 | refine O_ ?_
 | refine X_ Aq rfl rfl (by first | assumption | (simp[Value.oneCell',o.c9.enc,o.Ref.enc,o.Node.enc,o.Scalar.enc,o.Var.enc,o.eb.enc,o.Act.enc,o.ew.enc,o.ed.enc,o.mL.enc];done)) ?_
 | refine _B Aq (Nat.le_of_ble_eq_true rfl) rfl ?_
 | refine _i Aq (Nat.le_of_ble_eq_true rfl) rfl ?_
 | refine _D (by (simp only[gv,lay,o6,dE,bR,Value.cells,Nat.reduceAdd,Nat.reduceEqDiff,reduceIte,List.range,List.range.loop,List.map_cons,List.map_nil]);rfl) ?_
 | refine V_ (by (simp only[gv,lay,o6,dE,bR,Value.cells,Nat.reduceAdd,Nat.reduceEqDiff,reduceIte]);rfl) ?_)
 exact a.out):A:=h ⟨k⟩
end ba
namespace ba
open Go Go.RowKit
section
variable{P:Program}{bb:Value->Prop}{dy dO:Operand}
def AA7{t:F_}{p:H_ Addr}{a}(h:P.underlying t=some (.pointer (P.pointee t)))(b:bb (.bool p.isNone)):h6 P .eql t dy dO (.pointer p) (.pointer none) bb a :=
 _J (v:=.bool p.isNone) (λc=>by simp[eqGuard_at_pointer,binOp,run_equal_pointer_nil c t p h]) b
def AA8{t:F_}{p:H_ Addr}{a}(h:P.underlying t=some (.pointer (P.pointee t)))(b:bb (.bool (!p.isNone))):h6 P .neq t dy dO (.pointer p) (.pointer none) bb a :=
 _J (v:=.bool (!p.isNone)) (λc=>by simp[eqGuard_at_pointer,binOp,run_equal_pointer_nil c t p h]) b
def AD2{t:F_}{a}(h:P.underlying t=some (.pointer (P.pointee t)))(b:bb (.bool true)):h6 P .eql t dy dO (.pointer none) (.pointer none) bb a:=AA7 h b
def AD3{t:F_}{a:Addr}{b}(h:P.underlying t=some (.pointer (P.pointee t)))(c:bb (.bool false)):h6 P .eql t dy dO (.pointer (some a)) (.pointer none) bb b:=AA7 h c
def AD4{t:F_}{a}(h:P.underlying t=some (.pointer (P.pointee t)))(b:bb (.bool false)):h6 P .neq t dy dO (.pointer none) (.pointer none) bb a:=AA8 h b
def AD5{t:F_}{a:Addr}{b}(h:P.underlying t=some (.pointer (P.pointee t)))(c:bb (.bool true)):h6 P .neq t dy dO (.pointer (some a)) (.pointer none) bb b:=AA8 h c
end
end ba
namespace o
def alM{c:eb}{s:C_ Scalar}(h:Fa c s)(d:c.scalar≠0):∃b,∃j:b<s.length,c.scalar=(b:Int)+1/\s[b].size=size c.scalar s:=by
 have a:=h.fa.resolve_left d;unfold size at a ⊢;split at a
 .rename_i k e;obtain⟨f,g⟩:=List.getElem?_eq_some_iff.1 e;split at a
  .rename_i i;refine⟨(c.scalar - 1).toNat,f,AY,?_⟩;rw[g,if_pos i]
  .exact absurd rfl a
 .exact absurd rfl a
theorem Ud(so a:Int)(l:C_ ea)(b:ea):fz so a (l++[b]) 0=fz so a l 0++[⟨so,a,(l.length:Nat),b.aQ,b.ab,b.kind⟩]:=by
 rw[Uc,ZQ]
end o
namespace Go.Proofs.R
open Go Go.RowKit ba o
def Mw{α:Type}{enc:α->C_ B_}{e:F_}{sz base:Nat}{w w':A_}{v:B_}{xs:C_ α}(c:aT enc e sz base w v xs)(d:w.grownBy w' v.ownBlock):eI [e] w w':=eI.mod (A:=λb=>v.ownBlock=some b) (Mod.grown d λb f=>f) λb i j g h=>by
 obtain⟨k,a⟩:=c.b0 b h;rw[g] at a;injection a with a;injection a with _ a;rw[a];simp
def awS(cs:C_ B_)(m:o.Model)(w:A_)(h:dU w cs m)(bx:m.cB)(u:gh m) :
  EL F.Nz #[.agg cs.toArray] w λb H=>aT o.Cell.enc T.uQ 6 w.heap.size H b (bF m)/\Ext w H:=by
 obtain⟨ct,cu,cv,bg,cw,bj,cx,cy,cz,cB,rfl,an,aI,a0,a1,cE,cF,cG,cI,cK,cL⟩:=h.form;have aJ:=u.gT;refine bn E.Nz ?_;refine ad ?_;intro q cM cN V d;refine ad ?_;refine K_ 4 m.vars.length [1] (λb:ez=>[(3,.slice b.1 b.2.1 b.2.2)]) (none,0,0) (λa b e=>Ext q e/\aT o.Cell.enc T.uQ 6 q.heap.size e (.slice b.1 b.2.1 b.2.2) (o.cellsOf 1 ((bT m).take a) 0)) aW aW ⟨Ext.refl _,aT.nil _ _ _ _ _⟩ ?_;have X:=d;clear d;rintro a b Y aK a3 ⟨g,i⟩;have d:=g.obj X;have j:=V.trans g;refine ad ?_;apply I_<;>intro cP
 .have n:a<m.vars.length:=AY
  obtain⟨a5,rfl⟩:=aI.addr;have v:=((aI.at a n).cells).ext j;have x:=u.var _ (FA n);have a7:=Pf x aJ.1;have I:a<(bT m).length:=by simpa[bT] using n
  have J:=Pa m u (a+1);rw[Cu I] at J;have K:(bT m)[a]=qW m.scalars m.vars[a]:=by simp[bT]
  rw[K,vb] at J;have cQ:=r3 m.vars[a] m.scalars;refine ad ?_;refine P_ (.tuple #[.I (o.bounds m.vars[a] m.scalars).1,.I (o.bounds m.vars[a] m.scalars).2]) (λH p=>Vq m.vars[a] _ m.scalars H (an.ext (j.trans p))) ?_;refine ad ?_;intro ax k;have L:=i.ext k;have bz:=k.obj d;have Z:=g.trans k;clear d v;refine ad ?_;refine K_ 7 (o.cells m.vars[a] m.scalars).toNat [1,4,5,6] (λb:ez=>[(3,.slice b.1 b.2.1 b.2.2)]) b (λc b e=>Ext q e/\aT o.Cell.enc T.uQ 6 q.heap.size e (.slice b.1 b.2.1 b.2.2) (o.cellsOf 1 ((bT m).take a) 0++fz 1 a (List.replicate c (dJ m.vars[a].scalar m.vars[a].aQ m.vars[a].ab m.scalars)) 0)) aW aW ⟨Z,by simpa[fz] using L⟩ ?_;clear bz L i g k Z;rintro c b Y ay aL ⟨y,z⟩;have d:=y.obj X;have a8:=V.trans y;have v:=((aI.at a n).cells).ext a8;refine ad ?_;refine P_ _ (λH p=>OI m.vars[a] _ m.scalars H (an.ext (a8.trans p))) ?_;refine ad ?_;intro aP t;replace d:=t.obj d;replace v:=v.ext t;have r:=z.ext t;have M:=y.trans t;refine ad ?_;apply I_<;>intro bA
  .have ab:c<(o.cells m.vars[a] m.scalars).toNat:=AY
   refine ad ?_;refine J_ (Vs m.vars[a].scalar aP (by unfold ev;omega)) ?_;rintro _ a9 ⟨rfl,rfl⟩;refine ad ?_;intro ae cS cU N bB;have O:=r.ext N;have af:=M.trans N;have P:(o.cellsOf 1 ((bT m).take a) 0++fz 1 a (List.replicate c (dJ m.vars[a].scalar m.vars[a].aQ m.vars[a].ab m.scalars)) 0).length=o.total ((bT m).take a)+c:=by
    rw[JM,j5,rD,AG1]
   refine T_ (y:=⟨1,a,c,(o.bounds m.vars[a] m.scalars).1,(o.bounds m.vars[a] m.scalars).2,o.kindOf m.vars[a].scalar⟩) O bB rfl (λ_=>rfl) FZ (by rw[P];omega) (by rw[P];unfold maxLen;omega) af.size λA B C ao G bC=>?_;refine ad ?_;refine⟨ab,aV,(A,B,C),aW,O.h9 af bC (EM _),?_⟩;rw[List.replicate_succ',Ud,<-Vh,AG1,w6];rw[w6] at G;exact G
  .have bD:c=(o.cells m.vars[a] m.scalars).toNat:=AY
   refine ad ?_;refine⟨n,aV,b,aW,M,?_⟩;have j:(0+((bT m).take a).length:Nat)=a:=by rw[IP];omega
   rw[Oi I,K,AV,j];rw[bD] at r;exact r
 have bE:m.vars.length<=a:=AY
 rw[IA (by simpa[bT] using bE)] at i;have bG:=Pa m u m.vars.length;rw[IA (by simp[bT])] at bG;refine ad ?_;refine K_ 8 m.aA.length [1] (λb:ez=>[(3,.slice b.1 b.2.1 b.2.2)]) b (λa b e=>Ext q e/\aT o.Cell.enc T.uQ 6 q.heap.size e (.slice b.1 b.2.1 b.2.2) (o.cellsOf 1 (bT m) 0++o.cellsOf 2 ((cn m).take a) 0)) aW aW ⟨g,by simpa[o.cellsOf] using i⟩ ?_;clear d i g j;rintro a b Y aK a3 ⟨g,i⟩;have d:=g.obj X;have j:=V.trans g;refine ad ?_;apply I_<;>intro bA
 .have n:a<m.aA.length:=AY
  obtain⟨a5,rfl⟩:=a0.addr;have v:=((a0.at a n).cells).ext j;have x:=u.chan _ (FA n);have a7:=QO x aJ.1;have cV:=x.cap;have I:a<(cn m).length:=by simpa[cn] using n
  have J:=Wh m u (a+1);rw[Cu I] at J;have K:(cn m)[a]=iH m.scalars m.aA[a]:=by simp[cn]
  rw[K,o3] at J;have W:(o.cellsOf 1 (bT m) 0++o.cellsOf 2 ((cn m).take a) 0).length=o.total (bT m)+o.total ((cn m).take a):=by rw[JM,j5,j5]
  refine ad ?_;intro ax ag az k l;replace l:ax.heap[ag]? = some (.cells m.aA[a].enc.toArray T.r):=l;replace d:=k.obj d;have L:=i.ext k;clear v;have Z:=g.trans k;refine ad ?_;intro ay cW bH y Q;have z:=L.ext y;have aB:=Z.trans y;refine T_ (y:=⟨2,a,0,0,m.aA[a].cap,0⟩) z Q rfl (λ_=>rfl) FZ (by rw[W];omega) (by rw[W];unfold maxLen;omega) aB.size λA B C aP r aQ=>?_;have d:=z.box aQ (y.obj d) Ae;have l:=z.box aQ (y.obj l) Ae;have M:=z.h9 aB aQ (EM _);have bI:=V.trans M;have cX:=cf l;clear i L Q bH y k az;refine eA ?_;simp -dsimp only[cD];refine eA ?_;intro ae N;replace d:=N.obj d;replace l:=N.obj l;have O:=r.ext N;have bJ:=bI.trans N;have af:=M.trans N;refine R_ [1,3,8,9] (λ_:Unit=>[(10,.I (j6 m.scalars m.aA[a]).aQ),(11,.I (j6 m.scalars m.aA[a]).ab)]) (λ_ e=>Ext ae e) ?_ ?_
  .refine ad ?_;apply I_<;>intro bK
   .obtain⟨aR,bb,cY,bL⟩:=alM x AY;obtain⟨c0,rfl⟩:=an.addr;have c1:=((an.at aR bb).cells).ext bJ;refine ad ?_;refine M_ aR AY bb ?_;refine ad ?_;intro ao ah;refine ad ?_;have p:j6 m.scalars m.aA[a]=⟨0,m.scalars[aR].size,m.aA[a].scalar+1⟩:=by unfold j6 dJ;rw[if_neg AY,bL]
    rw[p];exact⟨(),aW,ah⟩
   .have bM:m.aA[a].scalar=0:=AY
    refine ad ?_;have p:j6 m.scalars m.aA[a]=⟨min 0 m.aA[a].aQ,max 0 m.aA[a].ab,0⟩:=by unfold j6 dJ;rw[if_pos bM,Int.min_comm,Int.max_comm]
    rw[p];exact⟨(),aW,Ext.refl _⟩
  rintro _ Y ao ah;replace d:=ah.obj d;replace l:=ah.obj l;have G:=O.ext ah;have ai:=af.trans ah;have bN:j6 m.scalars m.aA[a]=⟨(j6 m.scalars m.aA[a]).aQ,(j6 m.scalars m.aA[a]).ab,o.kindOf m.aA[a].scalar⟩:=by
   unfold j6 dJ o.kindOf;split<;>rfl
  have bf:∀{e:A_},e.heap[ag]? = ao.heap[ag]? -> _:=λp=>p.trans l;refine ad ?_;refine _W [1,8,9,10,11] (λs:ez×Nat=>[(3,.slice s.1.1 s.1.2.1 s.1.2.2),(12,.I ((s.2:Int)+1))]) ((A,B,C),0) (λs e=>(Ext q e/\e.heap[ag]? = ao.heap[ag]? /\ (s.2:Int)<=m.aA[a].cap)/\aT o.Cell.enc T.uQ 6 q.heap.size e (.slice s.1.1 s.1.2.1 s.1.2.2) (o.cellsOf 1 (bT m) 0++o.cellsOf 2 ((cn m).take a) 0++fz 2 a (⟨0,m.aA[a].cap,0⟩ :: List.replicate s.2 (j6 m.scalars m.aA[a])) 0)) (λs=>(m.aA[a].cap - s.2).toNat) aW ⟨⟨ai,rfl,by simp only;omega⟩,by simpa[fz] using G⟩ ?_;clear d l G O r;rintro⟨b,c⟩ Y aS ⟨⟨aq,az,aL⟩,ar⟩;have d:=aq.obj X;have l:=bf az;simp only at aL;refine ad ?_;apply I_<;>intro bO
  .refine ad ?_;refine J_ (Vs m.aA[a].scalar aS (by unfold ev;omega)) ?_;rintro _ a9 ⟨rfl,rfl⟩;refine ad ?_;intro bQ c2 c3 S bU;have U:=ar.ext S;have au:=aq.trans S;have P:(o.cellsOf 1 (bT m) 0++o.cellsOf 2 ((cn m).take a) 0++fz 2 a (⟨0,m.aA[a].cap,0⟩ :: List.replicate c (j6 m.scalars m.aA[a])) 0).length=o.total (bT m)+o.total ((cn m).take a)+(c+1):=by
    rw[JM,W,rD,AH5,AG1]
   refine T_ (y:=⟨2,a,(c:Int)+1,(j6 m.scalars m.aA[a]).aQ,(j6 m.scalars m.aA[a]).ab,o.kindOf m.aA[a].scalar⟩) U bU rfl (λ_=>rfl) FZ (by rw[P];omega) (by rw[P];unfold maxLen;omega) au.size λA B C bV aC aj=>?_;have bW:=U.box aj (S.obj l) Ae;refine ad ?_;refine⟨((A,B,C),c+1),aW,⟨⟨U.h9 au aj (EM _),bW.trans (bf rfl).symm,by simp only;omega⟩,?_⟩,by simp only;omega⟩;rw[List.replicate_succ',<-List.cons_append,Ud,<-Vh,AH5,AG1];rw[bN] at aC ⊢;exact aC
  .refine ad ?_;refine⟨n,aV,b,aW,aq,?_⟩;have j:(0+((cn m).take a).length:Nat)=a:=by rw[IP];omega
   have bX:c=m.aA[a].cap.toNat:=AY
   rw[Oi I,K,AV,j,<-Vh];rw[bX] at ar;exact ar
 have bY:m.aA.length<=a:=AY
 rw[IA (by simpa[cn] using bY)] at i;refine ad ?_;refine J_ (EA _ m aK (h.ext j) bx) ?_;rintro c4 aD ⟨bk,aE⟩;obtain⟨b0,b1,rfl,_⟩:=bk.form;have b3:∀{e:A_},eI [T.uQ] aD e->rS e (.slice b0 (o.insts m).length b1) (o.insts m):=λa=>aT.lF (enc:=c9.enc) (λ_=>rfl) (bk.h1 a Ae);have c5:(o.insts m).length<=30:=by have:=ts m;have:=u.procs;omega
 have bl:=i.ext aE;have bo:=g.trans aE;have c8:=aE.size;refine ad ?_;refine K_ 14 (o.insts m).length [1,13] (λb:ez=>[(3,.slice b.1 b.2.1 b.2.2)]) b (λa b e=>(Ext q e/\eI [T.uQ] aD e)/\aT o.Cell.enc T.uQ 6 q.heap.size e (.slice b.1 b.2.1 b.2.2) (o.cellsOf 1 (bT m) 0++o.cellsOf 2 (cn m) 0++o.cellsOf 3 ((dH m).take a) 0)) aW aW ⟨⟨bo,eI.refl⟩,by simpa[o.cellsOf] using bl⟩ ?_;clear d i g j bl aE bo;rintro a b Y aK a3 ⟨⟨g,bp⟩,i⟩;have aF:=b3 bp;have d:=g.obj X;have j:=V.trans g;refine ad ?_;apply I_<;>intro bK
 .have n:a<(o.insts m).length:=AY
  obtain⟨db,rfl⟩:=aF.addr;have b4:=qJ _ (FA n);obtain⟨f,aU,b5,b6⟩:=uL b4;have x:=u.proc _ (FA aU);have dc:=x.cb;have dd:=x.gT.1;obtain⟨a5,rfl⟩:=a1.addr;obtain⟨de,df,dN,av,aX,b8⟩:=a1.at f aU;obtain⟨b9,ca,rfl,di⟩:=aX.form;obtain⟨cb,cc,rfl,dj⟩:=b8.form;replace av:=av.ext j;have I:a<(dH m).length:=by simpa[dH] using n
  have J:=aiJ m u (a+1);rw[Cu I] at J;have K:(dH m)[a]=kR m.scalars m.procs[f]:=by simp[dH,b6]
  rw[K,py] at J;have W:(o.cellsOf 1 (bT m) 0++o.cellsOf 2 (cn m) 0++o.cellsOf 3 ((dH m).take a) 0).length=o.total (bT m)+o.total (cn m)+o.total ((dH m).take a):=by rw[JM,JM,j5,j5,j5]
  refine ad ?_;intro ax k;replace av:=av.ext k;replace d:=k.obj d;replace aF:=aF.ext Flat.ext k;have L:=i.ext k;have Z:=g.trans k;refine ad ?_;refine M_ f b5 aU ?_;refine ad ?_;intro dk aw aY aZ ch;refine⟨aZ,?_⟩;refine ad ?_;intro ay bq Q;have aG:Ext ax ay:=bq.ext aZ aY;replace Q:ay.heap[aw]? = some (.cells (m.procs[f].enc (.slice b9 m.procs[f].vars.length ca) (.slice cb m.procs[f].cP.length cc)).toArray T.af):=Q;unfold ed.enc at Q;replace d:=aG.obj d;have z:=L.ext aG;have aB:=Z.trans aG;clear bq aZ ch av L i aF;refine ad ?_;intro aP dp dq t cj;have r:=z.ext t;have M:=aB.trans t;refine T_ (y:=⟨3,a,0,0,m.procs[f].cb - 1,0⟩) r cj rfl (λ_=>rfl) FZ (by rw[W];omega) (by rw[W];unfold maxLen;omega) M.size λA B C ae O aH=>?_;have d:=r.box aH (t.obj d) Ae;have ak:=r.box aH (t.obj Q) Ae;have af:=r.h9 M aH (EM _);have cm:eI [T.uQ] aD ae:=((bp.trans (eI.ext (k.trans aG))).trans (eI.ext t)).trans (Mw r aH);clear Q z;have bt:∀{e:A_},e.heap[aw]? = ae.heap[aw]? -> _:=λp=>p.trans ak;refine ad ?_;refine K_ 16 m.procs[f].vars.length [1,13,14,15] (λb:ez=>[(3,.slice b.1 b.2.1 b.2.2)]) (A,B,C) (λc b e=>((Ext q e/\eI [T.uQ] aD e)/\e.heap[aw]? = ae.heap[aw]?)/\aT o.Cell.enc T.uQ 6 q.heap.size e (.slice b.1 b.2.1 b.2.2) (o.cellsOf 1 (bT m) 0++o.cellsOf 2 (cn m) 0++o.cellsOf 3 ((dH m).take a) 0++fz 3 a (⟨0,m.procs[f].cb - 1,0⟩ :: (m.procs[f].vars.take c).map λb=>dJ b.scalar b.aQ b.ab m.scalars) 0)) aW aW ⟨⟨⟨af,cm⟩,rfl⟩,by simpa[fz] using O⟩ ?_;clear d ak O;rintro c b Y ao aL ⟨⟨⟨ai,bu⟩,aY⟩,G⟩;have d:=ai.obj X;have ak:=bt aY;have bw:=V.trans ai;refine ad ?_;apply I_<;>intro bO
  .have ab:c<m.procs[f].vars.length:=AY
   obtain⟨dr,rfl⟩:=aX.addr;have v:=((aX.at c ab).cells).ext bw;have cp:=x.var _ (FA ab);have a7:=Pf cp aJ.1;refine ad ?_;refine P_ (.tuple #[.I (o.bounds m.procs[f].vars[c] m.scalars).1,.I (o.bounds m.procs[f].vars[c] m.scalars).2]) (λH p=>Vq m.procs[f].vars[c] _ m.scalars H (an.ext (bw.trans p))) ?_;refine ad ?_;intro aS al;replace d:=al.obj d;replace ak:=al.obj ak;replace v:=v.ext al;have ar:=G.ext al;have aq:=ai.trans al;refine ad ?_;refine J_ (Vs m.procs[f].vars[c].scalar aS (by unfold ev;omega)) ?_;rintro _ a9 ⟨rfl,rfl⟩;refine ad ?_;intro bQ ag az S l;have U:=ar.ext S;have au:=aq.trans S;have P:(o.cellsOf 1 (bT m) 0++o.cellsOf 2 (cn m) 0++o.cellsOf 3 ((dH m).take a) 0++fz 3 a (⟨0,m.procs[f].cb - 1,0⟩ :: (m.procs[f].vars.take c).map λb=>dJ b.scalar b.aQ b.ab m.scalars) 0).length=o.total (bT m)+o.total (cn m)+o.total ((dH m).take a)+(c+1):=by
    rw[JM,W,rD,AH5,AG8,IP];omega
   have cq:((m.procs[f].vars.take c).map λb=>dJ b.scalar b.aQ b.ab m.scalars).length=c:=by simp;omega
   refine T_ (y:=⟨3,a,1+(c:Int),(o.bounds m.procs[f].vars[c] m.scalars).1,(o.bounds m.procs[f].vars[c] m.scalars).2,o.kindOf m.procs[f].vars[c].scalar⟩) U l rfl (λ_=>rfl) FZ (by rw[P];omega) (by rw[P];unfold maxLen;omega) au.size λA B C bV aC aj=>?_;have cr:=U.box aj (S.obj ak) Ae;refine ad ?_;refine⟨ab,aV,(A,B,C),aW,⟨⟨U.h9 au aj (EM _),(bu.trans (eI.ext (al.trans S))).trans (Mw U aj)⟩,cr.trans (bt rfl).symm⟩,?_⟩;rw[Oi ab,AF9,<-List.cons_append,AH8,List.map_nil,Ud,<-Vh,AH5,cq,w6 m.procs[f].vars[c],show((c+1:Nat):Int)=1+(c:Int) from AY];exact aC
  .refine ad ?_;refine⟨n,aV,b,aW,⟨ai,bu⟩,?_⟩;have j:(0+((dH m).take a).length:Nat)=a:=by rw[IP];omega
   rw[IA (l:=m.procs[f].vars) AY] at G;rw[Oi I,K,AV,j,<-Vh];exact G
 .rw[IA (by simp[dH];omega)] at i;refine ad ?_;exact⟨aT.low V.size i,j⟩
end Go.Proofs.R
namespace ba
open Go Go.RowKit
def _r{P:D_}{g:B_->A_->Prop}{α:Type}{enc:α->C_ B_}{e:F_}{sz base n:Nat}{w:A_}{vs:Nat->H_ Addr×Nat×Nat}{xs:Nat->C_ α}{j:F_}{b:Nat}{a:Addr}{c:Nat}{y:α}{t}(i:Nat)(k:i<n)(h:jH enc e sz base w n vs xs)(l:∀m,(enc m).length=sz)(p:fy w a (enc y))(q:∀y,∀r∈enc y,r.oneCell'=true)
  (s:((xs i).length+1)*b<=140737488355328)(u:(xs i).length+1<=maxLen)(v:base<=w.heap.size)
  (x:∀f d,jH enc e sz base d n (fL vs i f) (fL xs i (xs i++[y]))->w.grownBy d (cA (vs i)).ownBlock->g (cA f) d):lJ P j e sz b (cA (vs i)) (.slice (some a) 1 c) w g t:=by
 unfold lJ;exact jH.app i k h l p q s u v λf d a b _=>x f d a b
end ba
namespace o
def Ry{s:Int}{l:C_ Cell}{k:Nat}(h:k<l.length):jK s (l.take (k+1)) 0=jK s (l.take k) 0++(if l[k].place=0/\l[k].sort=s then [(k:Int)] else []):=by
 rw[Oi h,Gf];simp only[jK,List.append_nil,List.length_take,Nat.zero_add];rw[show min k l.length=k from AY]
theorem abG(s:Int):∀(b:C_ Cell) (a:Nat),(jK s b a).length<=b.length
 | [],_=>by simp[jK]
 | d :: c,a=>by
  have:=abG s c (a+1)
  simp only[jK,List.length_append,List.length_cons];split<;>simp<;>omega
def kS(l:C_ Cell)(k:Nat):Nat->C_ Int:=λa=>if a=0 then jK 1 (l.take k) 0 else if a=1 then jK 2 (l.take k) 0 else if a=2 then jK 3 (l.take k) 0 else if a=3 then (l.take k).map (·.aQ) else (l.take k).map (·.ab)
end o
namespace Go.Proofs.R
open Go Go.RowKit ba o
abbrev l5(R:Nat->C_ Int)(j:Nat)(s:Int)(x:o.Cell)(k:Nat):Nat->C_ Int:=fL R j (R j++if x.place=0/\x.sort=s then [(k:Int)] else [])
def EF:C_ F_:=[T.a,T.h]
def nh(vs:Nat->ez)(n:Int):Array B_:=#[cA (vs 0),cA (vs 1),cA (vs 2),.int .i64 n,cA (vs 3),cA (vs 4)]
structure qi(w1:World)(b:Nat)(xs:Nat->List Int)(n:Int)(W:World):Prop where
 mod:Mod (λk=>k=b) w1 W
 ex:∃vs:Nat->ez,W.heap[b]? = some (.cells (nh vs n) T.h)/\jH da T.a 1 w1.heap.size W 5 vs xs
def qi.congr{w1:A_}{b:Nat}{xs c:Nat->C_ Int}{n:Int}{d:A_}(h:qi w1 b xs n d)(e:∀a,a<5->xs a=c a):qi w1 b c n d :=
 let ⟨f,g,i⟩:=h.ex; ⟨h.mod,f,g,i.congr (λ_ _=>rfl) e⟩
def HU{w1:A_}{b:Nat}{xs:Nat->C_ Int}{n y:Int}{e j2 j3 g:A_}{vs:Nat->ez}{r:ez}{i:Nat}(h:i<5)(w:Mod (λa=>a=b) w1 e)(x:e.heap[b]? = some (.cells (nh vs n) T.h))(j:jH da T.a 1 w1.heap.size e 5 vs xs)
  (f:Ext e j2)(z:j2.grownBy j3 (cA (vs i)).ownBlock)(s:jH da T.a 1 w1.heap.size j3 5 (fL vs i r) (fL xs i (xs i++[y])))(k:dX b j3 g)(l:g.heap[b]? = some (.cells (nh (fL vs i r) n) T.h)) :
  qi w1 b (fL xs i (xs i++[y])) n g/\eI EF e g:=by
 have m:Mod (λa=>(cA (vs i)).ownBlock=some a) j2 j3:=Mod.grown z λa p=>p;have t:=f.obj x;have u:j3.heap[b]? = some (.cells (nh vs n) T.h):=m.obj ((j.ext f).not t Ae i h) t;refine⟨⟨?_,_,l,s.mod (k.mod (A:=λa=>a=b) rfl) λq a v p A=>?_⟩,?_⟩
 .have B:Mod (λa=>a=b) w1 j2:=w.comp (A':=λ_=>False) f.mod (λ_ _ c=>c) λ_ _ c=>c.elim;have C:Mod (λa=>a=b) w1 j3:=B.comp m (λ_ _ c=>c) λq v c=>by have:=(j.lt i q h c).1;omega
  exact C.trans (k.mod rfl)
 .subst A;exact s.not u Ae q v p
 .refine((eI.ext f).trans (eI.mod m λa G H l c=>?_)).trans (eI.wr k u Ae);obtain⟨I,d⟩:=((j.ext f).own i h).b0 a c;rw[l] at d;injection d with d;injection d with _ d;rw[d];decide
def ahg(cs:C_ B_)(m:o.Model)(w:A_)(h:dU w cs m)(bb:m.cB)(aD:gh m) :
  EL F.NA #[.agg cs.toArray] w λbf aR=>(∃z,bf = .agg z.toArray/\ec w (λw=>lM w z (o.layout m)) aR)/\Ext w aR:=by
 have bk:=h;obtain⟨bY,b0,b1,bg,b3,bj,b4,b5,b6,b8,rfl,_⟩:=h.form;have b9:=ij aD;refine bn E.NA ?_;refine ad ?_;intro ca aE cb aS N;have bl:=cf N;refine ad ?_;intro cc aF ch aG x;have bo:=cf x;replace N:=aG.obj N;refine ad ?_;intro q j cj aq I;replace N:=aq.obj N;replace x:=aq.obj x;have bp:=cf I;have cm:=aS.size;have cp:=aG.size;have cq:=aq.size;have bq:aE≠j:=AY
 have aU:=(aS.trans aG).trans aq;refine ad ?_;refine J_ (awS _ m q (bk.ext aU) bb aD) ?_;rintro dN O ⟨l,aX⟩;obtain⟨bt,bu,rfl,_⟩:=l.form;have aY:qi q j (kS (bF m) 0) 0 O:=⟨aX.mod,λ_=>(none,0,0),aX.obj I,⟨λt J=>by
   have b:kS (bF m) 0 t=[]:=by unfold kS; (repeat' split)<;>simp[jK]
   rw[b];exact aT.nil _ _ _ _ _,λt r a _ _ _ b=>by cases b⟩⟩
 have cr:∀{z V e},qi q j z V e->e.heap[aE]? = q.heap[aE]? := λh=>h.mod.block _ AY bq;have aZ:∀{z V e},qi q j z V e->e.heap[aF]? = q.heap[aF]? := λh=>h.mod.block _ AY AY;have bw:∀{z V e},qi q j z V e->Ext w e:=λh=>h.mod.ext aU λt J b=>AY
 have P:∀{e:A_},eI EF O e->a6 6 (Flat o.Cell.enc) e (.slice bt (bF m).length bu) (bF m):=λa=>aT.lF (enc:=o.Cell.enc) (λ_=>rfl) (l.h1 a Ae);rw[x] at aZ;clear N x I l;refine ad ?_;refine K_ 5 (bF m).length [1,2,3,4] (λ_:Unit=>[]) () (λa _ e=>qi q j (kS (bF m) a) 0 e/\eI EF O e) aW aW ⟨aY,eI.refl⟩ ?_;clear aY;rintro a _ aH bx s ⟨A,W⟩;have l:=P W;obtain⟨ct,c,f⟩:=A.ex;refine ad ?_;apply I_<;>intro cu
 .have Q:a<(bF m).length:=AY
  obtain⟨u,rfl⟩:=l.addr;clear c f;obtain⟨d,K⟩:∃d,d=(bF m)[a]:=⟨_,rfl⟩;have X:∀t,(kS (bF m) a t).length<=100:=λt=>by
   unfold kS;have aI:=λbz=>abG bz ((bF m).take a) 0;have bl:=aI 1;have bo:=aI 2;have bp:=aI 3
   (repeat' split)<;>simp only[List.length_map,List.length_take] at * <;> omega
  refine eA ?_;simp -dsimp only[cD];refine eA ?_;refine R_ [1,2,3,4,5] (λ_:Unit=>[]) (λ_ e=>qi q j (l5 (kS (bF m) a) 0 1 d a) 0 e/\eI EF O e) ?_ ?_
  .have l:=P W;obtain⟨i,c,f⟩:=A.ex;have k:=c;unfold nh at c;dsimp only[cA] at c;have B:¬(d.place=0/\d.sort=1)->qi q j (l5 (kS (bF m) a) 0 1 d a) 0 bx:=λb=>A.congr λr S=>by
    unfold l5 fL;by_cases u:r=0
    .subst u;simp[b]
    .simp[u]
   refine ad ?_;rw[<-K];apply I_<;>intro C
   .refine ad ?_;rw[<-K];apply I_<;>intro G
    .refine ad ?_;intro ar a0 a1 g Y;have au:=A.mod.size;have av:=g.size;have aw:((kS (bF m) a) 0).length<=100:=X 0;have n:=f.ext g;have p:=g.obj k;refine _r (y:=(a:Int)) 0 Ae n (λ_=>rfl) (g5 Y) j8 AY (by unfold maxLen;omega) AY λax L Z H=>?_;have v:L.heap[j]? = some (.cells (nh i 0) T.h):=(Mod.grown (A:=λa=>(cA (i 0)).ownBlock=some a) H λa s=>s).obj (n.not p Ae 0 Ae) p;have a3:=v;unfold nh at v;refine ad ?_;intro U ab ae;obtain⟨af,ag⟩:=HU Ae A.mod k f g H Z ab ae;refine ad ?_;refine⟨(),trivial,af.congr λr S=>?_,W.trans ag⟩;have b:(if d.place=0/\d.sort=1 then [(a:Int)] else [])=[(a:Int)]:=if_pos ⟨C,G⟩;unfold l5;rw[b]
    .refine ad ?_;exact⟨(),trivial,B λb=>G b.2,W⟩
   .refine ad ?_;exact⟨(),trivial,B λb=>C b.1,W⟩
  rintro _ aH bA ⟨ay,az⟩;refine eA ?_;refine R_ [1,2,3,4,5] (λ_:Unit=>[]) (λ_ e=>qi q j (l5 (l5 (kS (bF m) a) 0 1 d a) 1 2 d a) 0 e/\eI EF O e) ?_ ?_
  .have l:=P az;obtain⟨i,c,f⟩:=ay.ex;have k:=c;unfold nh at c;dsimp only[cA] at c;have B:¬(d.place=0/\d.sort=2)->qi q j (l5 (l5 (kS (bF m) a) 0 1 d a) 1 2 d a) 0 bA:=λb=>ay.congr λr S=>by
    unfold l5 fL;by_cases u:r=1
    .subst u;simp[b]
    .simp[u]
   refine ad ?_;rw[<-K];apply I_<;>intro C
   .refine ad ?_;rw[<-K];apply I_<;>intro G
    .refine ad ?_;intro ar a0 a1 g Y;have au:=ay.mod.size;have av:=g.size;have aw:((l5 (kS (bF m) a) 0 1 d a) 1).length<=100:=X 1;have n:=f.ext g;have p:=g.obj k;refine _r (y:=(a:Int)) 1 Ae n (λ_=>rfl) (g5 Y) j8 AY (by unfold maxLen;omega) AY λax L Z H=>?_;have v:L.heap[j]? = some (.cells (nh i 0) T.h):=(Mod.grown (A:=λa=>(cA (i 1)).ownBlock=some a) H λa s=>s).obj (n.not p Ae 1 Ae) p;have a3:=v;unfold nh at v;refine ad ?_;intro U ab ae;obtain⟨af,ag⟩:=HU Ae ay.mod k f g H Z ab ae;refine ad ?_;refine⟨(),trivial,af.congr λr S=>?_,az.trans ag⟩;have b:(if d.place=0/\d.sort=2 then [(a:Int)] else [])=[(a:Int)]:=if_pos ⟨C,G⟩;unfold l5;rw[b]
    .refine ad ?_;exact⟨(),trivial,B λb=>G b.2,az⟩
   .refine ad ?_;exact⟨(),trivial,B λb=>C b.1,az⟩
  rintro _ aH bB ⟨aB,aC⟩;refine eA ?_;refine R_ [1,2,3,4,5] (λ_:Unit=>[]) (λ_ e=>qi q j (l5 (l5 (l5 (kS (bF m) a) 0 1 d a) 1 2 d a) 2 3 d a) 0 e/\eI EF O e) ?_ ?_
  .have l:=P aC;obtain⟨i,c,f⟩:=aB.ex;have k:=c;unfold nh at c;dsimp only[cA] at c;have B:¬(d.place=0/\d.sort=3)->qi q j (l5 (l5 (l5 (kS (bF m) a) 0 1 d a) 1 2 d a) 2 3 d a) 0 bB:=λb=>aB.congr λr S=>by
    unfold l5 fL;by_cases u:r=2
    .subst u;simp[b]
    .simp[u]
   refine ad ?_;rw[<-K];apply I_<;>intro C
   .refine ad ?_;rw[<-K];apply I_<;>intro G
    .refine ad ?_;intro ar a0 a1 g Y;have au:=aB.mod.size;have av:=g.size;have aw:((l5 (l5 (kS (bF m) a) 0 1 d a) 1 2 d a) 2).length<=100:=X 2;have n:=f.ext g;have p:=g.obj k;refine _r (y:=(a:Int)) 2 Ae n (λ_=>rfl) (g5 Y) j8 AY (by unfold maxLen;omega) AY λax L Z H=>?_;have v:L.heap[j]? = some (.cells (nh i 0) T.h):=(Mod.grown (A:=λa=>(cA (i 2)).ownBlock=some a) H λa s=>s).obj (n.not p Ae 2 Ae) p;have a3:=v;unfold nh at v;refine ad ?_;intro U ab ae;obtain⟨af,ag⟩:=HU Ae aB.mod k f g H Z ab ae;refine ad ?_;refine⟨(),trivial,af.congr λr S=>?_,aC.trans ag⟩;have b:(if d.place=0/\d.sort=3 then [(a:Int)] else [])=[(a:Int)]:=if_pos ⟨C,G⟩;unfold l5;rw[b]
    .refine ad ?_;exact⟨(),trivial,B λb=>G b.2,aC⟩
   .refine ad ?_;exact⟨(),trivial,B λb=>C b.1,aC⟩
  rintro _ aH cv ⟨aJ,a5⟩;have l:=P a5;obtain⟨i,c,f⟩:=aJ.ex;have k:=c;unfold nh at c;dsimp only[cA] at c;refine ad ?_;intro ar g;replace l:=l.ext Flat.ext g;replace c:=g.obj c;refine ad ?_;intro L bC v ah ai;refine⟨ah,?_⟩;have y:=g.trans ah;have au:=aJ.mod.size;have av:=y.size;have aw:(kS (bF m) a 3).length<=100:=X 3;have n:=f.ext y;have p:=y.obj k;refine _r (y:=(bF m)[a].aQ) 3 Ae n (λ_=>rfl) (g5 ai) j8 (by unfold l5;rw[show(fL _ 2 _ 3:C_ Int)=kS (bF m) a 3 from rfl];omega) (by unfold l5;rw[show(fL _ 2 _ 3:C_ Int)=kS (bF m) a 3 from rfl];unfold maxLen;omega) AY λax U aj ak=>?_;have M:U.heap[j]? = some (.cells (nh i 0) T.h):=(Mod.grown (A:=λa=>(cA (i 3)).ownBlock=some a) ak λa s=>s).obj (n.not p Ae 3 Ae) p;have aK:=M;unfold nh at M;refine ad ?_;intro cw aL al;obtain⟨aP,bD⟩:=HU Ae aJ.mod k f y ak aj aL al;clear c f k n p aj M aK al ai l;have a7:=a5.trans bD;have l:=P a7;obtain⟨i,c,f⟩:=aP.ex;have k:=c;unfold nh at c;dsimp only[cA] at c;refine ad ?_;intro ar g;replace l:=l.ext Flat.ext g;replace c:=g.obj c;refine ad ?_;intro L bC v ah ai;refine⟨ah,?_⟩;have y:=g.trans ah;have au:=aP.mod.size;have av:=y.size;have aw:(kS (bF m) a 4).length<=100:=X 4;have n:=f.ext y;have p:=y.obj k;refine _r (y:=(bF m)[a].ab) 4 Ae n (λ_=>rfl) (g5 ai) j8 (by rw[show(fL _ 3 _ 4:C_ Int)=kS (bF m) a 4 from rfl];omega) (by rw[show(fL _ 3 _ 4:C_ Int)=kS (bF m) a 4 from rfl];unfold maxLen;omega) AY λax U aj ak=>?_;have M:U.heap[j]? = some (.cells (nh i 0) T.h):=(Mod.grown (A:=λa=>(cA (i 4)).ownBlock=some a) ak λa s=>s).obj (n.not p Ae 4 Ae) p;have aK:=M;unfold nh at M;refine ad ?_;intro cx aL al;obtain⟨bE,bG⟩:=HU Ae aP.mod k f y ak aj aL al;clear c f k n p aj M aK al ai l;have bH:=a7.trans bG;refine ad ?_;refine⟨Q,aV,(),trivial,bE.congr λr S=>?_,bH⟩;subst K;have u:r=0\/r=1\/r=2\/r=3\/r=4:=AY
  rcases u with rfl | rfl | rfl | rfl | rfl
  .exact(Ry (s:=1) Q).symm
  .exact(Ry (s:=2) Q).symm
  .exact(Ry (s:=3) Q).symm
  .show(_:C_ Int)=((bF m).take (a+1)).map (·.aQ);rw[Oi Q,AF9];rfl
  .show(_:C_ Int)=((bF m).take (a+1)).map (·.ab);rw[Oi Q,AF9];rfl
 have bI:a=(bF m).length:=AY
 subst bI;have dh:=bw A;have x:=aZ A;clear c f;obtain⟨i,c,f⟩:=A.ex;have k:=c;unfold nh at c;dsimp only[cA] at c;refine ad ?_;intro bJ aQ I;have a8:=f.mod (aQ.mod (A:=λa=>a=j) rfl) λt a J s b=>by subst b;exact f.not k Ae t J s
 replace x:=aQ.obj x AY;replace I:bJ.heap[j]? = some (.cells #[cA (i 0),cA (i 1),cA (i 2),.I (bF m).length,cA (i 3),cA (i 4)] T.h):=I;dsimp only[cA] at I;refine ad ?_;intro cy a9 cz;have bK:=a8.mod (a9.mod (A:=λa=>a=aF) rfl) λt a J s b=>by subst b;exact a8.not x Ae t J s
 have bL:w.heap.size<=q.heap.size:=AY
 have an:=λ(t:Nat) (J:t<5)=>aT.new (e:=T.a) (enc:=da) (λ_=>rfl) (aT.low bL (bK.own t J));obtain⟨bM,bN,bO⟩:=anW aD;have bQ:kS (bF m) (bF m).length 0=(o.layout m).vars:=by show jK 1 ((bF m).take _) 0=_;rw[AG9,bM];rfl
 have bU:kS (bF m) (bF m).length 1=(o.layout m).aA:=by show jK 2 ((bF m).take _) 0=_;rw[AG9,bN];rfl
 have bV:kS (bF m) (bF m).length 2=(o.layout m).insts:=by show jK 3 ((bF m).take _) 0=_;rw[AG9,bO];rfl
 have bW:kS (bF m) (bF m).length 3=(o.layout m).aQ:=by show((bF m).take _).map _=_;rw[AG9];rfl
 have bX:kS (bF m) (bF m).length 4=(o.layout m).ab:=by show((bF m).take _).map _=_;rw[AG9];rfl
 refine ad ?_;refine⟨⟨[_,_,_,_,_,_],rfl,λeT ao=>⟨⟨_,_,_,_,_,rfl,?_,?_,?_,?_,?_⟩⟩⟩,a9.ext (aQ.ext dh AY) AY⟩
 .rw[<-bQ];exact an 0 Ae eT ao
 .rw[<-bU];exact an 1 Ae eT ao
 .rw[<-bV];exact an 2 Ae eT ao
 .rw[<-bW];exact an 3 Ae eT ao
 .rw[<-bX];exact an 4 Ae eT ao
def ahf(cs:C_ B_)(m:o.Model)(w:A_)(h:dU w cs m)(g:m.cB) :
  EL F.NB #[.agg cs.toArray] w λs i=>(∃f,s = .agg f.toArray/\ec w (λw=>lM w f (lyz m)) i)/\Ext w i:=by
 have j:=h;obtain⟨A,B,C,bg,G,bj,H,I,J,K,rfl,_⟩:=h.form;refine bn E.NB ?_;refine ad ?_;intro L M N k a;refine ad ?_;intro t O P l b;have Q:=cf a;replace a:=l.obj a;have S:=cf b;have U:=k.size;have n:=k.trans l;refine ad ?_;refine J_ (aoo _ m t (j.ext n) g) ?_;rintro _ u ⟨rfl,d⟩;replace a:=d.obj a;replace b:=d.obj b;have e:=n.trans d;by_cases c:(o.check m).bK=0
 .rw[decide_eq_true c];refine ad ?_;refine J_ (ahg _ m u (j.ext e) g (gA c)) ?_;rintro _ v ⟨⟨f,rfl,p⟩,q⟩;obtain⟨V,W,X,Y,Z,ab,ae,af,ag,ah,rfl,_⟩:=p.here.form;replace b:=q.obj b;have x:=e.trans q;have ai:=d.size;refine ad ?_;intro aj r ak;have y:=p.wr r AY;refine ad ?_;exact⟨⟨_,rfl,by rw[Ee c];exact y.low e.size⟩,r.ext x AY⟩
 .rw[decide_eq_false c];refine ad ?_;intro v z al;refine ad ?_;exact⟨⟨[_,_,_,_,_,_],rfl,by rw[aft c];exact gJ.of λ_=>lM.zero _⟩,z.ext e AY⟩
abbrev cl(w:A_)(v:B_)(l:C_ Int):Prop:=a6 1 (Flat da) w v l
structure yT(w:World)(b:Nat)(m:o.Model):Prop where
 ex:∃xs cs b5,w.heap[b]? = some (.cells (xs++cs++[b5]).toArray T.vu)/\lM w xs (o.layout m)/\dU w cs m/\rS w b5 (o.insts m)
theorem yT.ext{w w':A_}{b:Nat}{m:o.Model}(a:Ext w w')(h:yT w b m):yT w' b m :=
 let ⟨xs,cs,c,d,e,f,g⟩:=h.ex; ⟨xs,cs,c,a.obj d,e.ext a,f.ext a,g.ext Flat.ext a⟩
def ahd(cs:C_ B_)(m:o.Model)(w:A_)(h:dU w cs m)(f:m.cB)(l:gi w) :
  EL F.bG #[.agg cs.toArray] w λn p=>((n = .pointer none/\¬(o.check m).bK=0)\/(∃q,n = .pointer (some ⟨q,0,none⟩)/\(o.check m).bK=0/\yT p q m))/\Ext w p:=by
 have b:=h;obtain⟨G,H,I,bg,J,bj,K,L,M,N,rfl,_⟩:=h.form;refine bn E.bG ?_;refine ad ?_;intro y O P g c;refine ad ?_;refine J_ (N9 _ m y (b.ext g) f (l.ext g)) ?_;rintro _ Q ⟨rfl,r⟩;replace c:=r.obj c;have s:=g.trans r;refine ad ?_;refine _d (v:=.I (o.check m).bK) rfl ?_;refine ad ?_;refine I_ (λd=>?_) (λd=>?_);rotate_left
 .refine ad ?_;exact⟨.inl ⟨aV,d⟩,s⟩
 refine ad ?_;intro z t;replace c:=t.obj c;have i:=s.trans t;refine ad ?_;refine J_ (Ue _ m z (b.ext i) f (l.ext i)) ?_;rintro _ A ⟨⟨S,rfl,a⟩,j⟩;replace a:=a.here;rw[Ee d] at a;obtain⟨U,V,W,X,Y,Z,ab,ae,af,ag,rfl,_⟩:=a.form;have u:=i.trans j;refine⟨j,?_⟩;refine ad ?_;refine J_ (Mm _ m A (b.ext u) f) ?_;rintro ah ai ⟨v,k⟩;obtain⟨aj,ak,rfl,_⟩:=v.form;have x:=u.trans k;refine⟨j.trans k,?_⟩;refine ad ?_;intro al B an e C;refine ad ?_;exact⟨.inr ⟨B,rfl,d,⟨_,_,_,C,a.ext (k.trans e),b.ext (x.trans e),aT.lF (enc:=c9.enc) (λ_=>rfl) (v.ext e)⟩⟩,x.trans e⟩
end Go.Proofs.R
namespace o
def agV{s:C_ Scalar}{c:eb}{l:C_ Int}(j:l.length=1+c.cap.toNat)(k:1<=c.cap):mM s c l↔(0<=l[0]' AY/\l[0]' AY<=c.cap/\∀a (f:a+1<l.length),((a:Int)<l[0]' AY->(dJ c.scalar c.aQ c.ab s).aQ<=l[a+1]/\l[a+1]<=(dJ c.scalar c.aQ c.ab s).ab)/\(l[0]' AY<=a->l[a+1]=0)):=by
 unfold mM;constructor
 .rintro⟨m,g,b,d,e⟩;obtain⟨_,rfl⟩:=List.getElem?_eq_some_iff.1 g;refine⟨b,d,λa f=>?_⟩;obtain⟨n,h,i⟩:=e a AY;obtain⟨_,rfl⟩:=List.getElem?_eq_some_iff.1 h;exact i
 .rintro⟨b,d,e⟩;exact⟨l[0]' AY,List.getElem?_eq_getElem _,b,d,λa f=>⟨l[a+1]' AY,List.getElem?_eq_getElem _,e a AY⟩⟩
end o
namespace Go.Proofs.R
open Go Go.RowKit ba o
def yT.form{w:A_}{b:Nat}{m:o.Model}(h:yT w b m):∃a c d bg e bj f g i j k l n p q r s t x y u v,
  w.heap[b]? = some (.cells #[.slice a (o.layout m).vars.length c,.slice d (o.layout m).aA.length bg,.slice e (o.layout m).insts.length bj,.I (o.layout m).cells,.slice f (o.layout m).aQ.length g,.slice i (o.layout m).ab.length j,
   .slice k m.scalars.length l,.slice n m.vars.length p,.slice q m.aA.length r,.slice s m.procs.length t,.slice x m.props.length y,.slice u (o.insts m).length v] T.vu) /\
  a6 1 (Flat da) w (.slice a (o.layout m).vars.length c) (o.layout m).vars/\a6 1 (Flat da) w (.slice d (o.layout m).aA.length bg) (o.layout m).aA/\a6 1 (Flat da) w (.slice e (o.layout m).insts.length bj) (o.layout m).insts /\
  a6 1 (Flat da) w (.slice f (o.layout m).aQ.length g) (o.layout m).aQ/\a6 1 (Flat da) w (.slice i (o.layout m).ab.length j) (o.layout m).ab /\
  hI w (.slice k m.scalars.length l) m.scalars/\j1 w (.slice n m.vars.length p) m.vars/\oc w (.slice q m.aA.length r) m.aA/\sP w (.slice s m.procs.length t) m.procs /\
  rS w (.slice u (o.insts m).length v) (o.insts m):=by
 obtain⟨P,Q,S,A,B,C,z⟩:=h.ex;obtain⟨a,c,d,bg,e,bj,f,g,i,j,rfl,G,H,I,J,K⟩:=B.form;obtain⟨k,l,n,p,q,r,s,t,x,y,rfl,L,M,N,O,U,_⟩:=C.form;obtain⟨u,v,rfl,_⟩:=z.form;exact⟨a,c,d,bg,e,bj,f,g,i,j,k,l,n,p,q,r,s,t,x,y,u,v,A,G,H,I,J,K,L,M,N,O,z⟩
def awl(b i:Nat)(v:B_)(s:C_ Int)(m:o.Model)(w:A_)(L:yT w b m)(z:gh m)(h:i<m.aA.length)(j:cl w v s)(aE:s.length=cH m) :
  EL F.d4 #[.pointer (some ⟨b,0,none⟩),.I i,v] w λZ A=>(∃M:Bool,Z = .bool M/\(M=true↔mM m.scalars m.aA[i] (lO m i m.aA[i] s)))/\Ext w A:=by
 obtain⟨aF,aG,aH,bg,aI,bj,aJ,aK,aL,aP,aQ,aR,aS,aU,aX,aY,aZ,a0,a1,a3,a5,a7,t,ab,k,ae,af,ag,B,ah,C,ai,aj⟩:=L.form;obtain⟨a8,a9,rfl,bb⟩:=j.form;have ak:=z.chan _ (FA h);have al:=ak.cap;have bf:=z.gT;obtain⟨bk,N⟩:=AS h;have bl:=ub h;have bo:=ni m;have bp:cH m<=64:=ij z;obtain⟨bq,rfl⟩:=C.addr;obtain⟨bt,rfl⟩:=k.addr;have an:=(C.at i h).cells;refine bn E.d4 ?_;refine aa ?_;intro bu bw bx l g;replace t:=l.obj t;replace B:=B.ext l;replace k:=k.ext Flat.ext l;replace j:=j.ext Flat.ext l;clear an ah C ai aj ab ae af ag L;refine aa ?_;refine P_ (.tuple #[.I (dJ m.aA[i].scalar m.aA[i].aQ m.aA[i].ab m.scalars).aQ,.I (dJ m.aA[i].scalar m.aA[i].aQ m.aA[i].ab m.scalars).ab]) (λA ao=>by
  rw[show dJ m.aA[i].scalar m.aA[i].aQ m.aA[i].ab m.scalars=_ from w6 ⟨⟨#[]⟩,m.aA[i].scalar,0,m.aA[i].aQ,m.aA[i].ab,0⟩ m.scalars];exact JI ⟨⟨#[]⟩,m.aA[i].scalar,0,m.aA[i].aQ,m.aA[i].ab,0⟩ _ m.scalars A (B.ext ao)) ?_
 refine aa ?_;intro aq n;replace t:=n.obj t;replace k:=k.ext Flat.ext n;replace j:=j.ext Flat.ext n;replace g:=n.obj g;have ar:=l.trans n;obtain⟨u,O⟩:∃u,u=(dJ m.aA[i].scalar m.aA[i].aQ m.aA[i].ab m.scalars).aQ:=⟨_,rfl⟩;obtain⟨P,Q⟩:∃h,h=(dJ m.aA[i].scalar m.aA[i].aQ m.aA[i].ab m.scalars).ab:=⟨_,rfl⟩;rw[<-O,<-Q];refine aa ?_;refine _X (k:=.i64) (k':=.i64) (bS m i) (bS m i+(1+m.aA[i].cap.toNat)) j (by simp[dE,bR,N]) (by simp[dE,bR,N];omega) AY AY λau S f=>?_;rw[show bS m i+(1+m.aA[i].cap.toNat) - bS m i=1+m.aA[i].cap.toNat from AY] at f ⊢;obtain⟨a,U⟩:∃a,a=lO m i m.aA[i] s:=⟨_,rfl⟩;have f:a6 1 (Flat da) aq (.slice au (1+m.aA[i].cap.toNat) S) a:=by rw[U];exact f
 have av:a.length=1+m.aA[i].cap.toNat:=f.len.1.symm;rw[<-U];obtain⟨V,rfl⟩:=f.addr;refine aa ?_;intro bz G;replace f:=f.ext Flat.ext G;replace g:=G.obj g;have p:=ar.trans G;have q:=agV (s:=m.scalars) (c:=m.aA[i]) (l:=a) av al.1;rw[<-O,<-Q] at q;refine aa ?_;refine M_ 0 rfl AY ?_;refine aa ?_;apply I_<;>intro bA
 .refine aa ?_;intro W r;exact⟨⟨false,rfl,by simp only[Bool.false_eq_true,false_iff];intro c;exact absurd (q.1 c).1 AY⟩,p.trans r⟩
 refine aa ?_;refine M_ 0 rfl AY ?_;refine aa ?_;intro W r;replace f:=f.ext Flat.ext r;replace g:=r.obj g;replace p:=p.trans r;apply I_<;>intro bB
 .refine aa ?_;exact⟨⟨false,rfl,by simp only[Bool.false_eq_true,false_iff];intro c;exact absurd (q.1 c).2.1 AY⟩,p⟩
 have H:=f.tail 1 AY;refine aa ?_;refine _9 (k:=.i64) 1 (by simp[o6]) ⟨AY,f.len.2.1⟩ ?_;obtain⟨X,aw⟩:∃X,X=(if S=1 then some V else (some V).map (·.add (1*1))):=⟨_,rfl⟩;rw[<-aw] at H ⊢;have bC:(a.drop 1).length=m.aA[i].cap.toNat:=by rw[AG7];omega
 rw[show 1+m.aA[i].cap.toNat - 1=m.aA[i].cap.toNat from AY] at H ⊢;refine aa ?_;refine K_ 74 m.aA[i].cap.toNat [7,8,9,10,72,73] (λ_:Unit=>[]) () (λe _ ax=>Ext W ax/\∀d (c:d+1<a.length),d<e->((d:Int)<a[0]->u<=a[d+1]/\a[d+1]<=P)/\(a[0]<=d->a[d+1]=0)) aW aW ⟨Ext.refl _,λd _ c=>absurd c (Od _)⟩ ?_;have ay:=g;clear g;rintro e _ bD bE bG ⟨x,I⟩;have g:=x.obj ay;have y:=p.trans x;refine aa ?_;apply I_<;>intro bH
 .have bI:e<(a.drop 1).length:=AY
  have az:e+1<a.length:=AY
  obtain⟨bJ,rfl⟩:=H.addr;have bK:(a.drop 1)[e]=a[e+1]:=by simp[Nat.add_comm]
  have J:¬(((e:Int)<a[0]->u<=a[e+1]/\a[e+1]<=P)/\(a[0]<=e->a[e+1]=0))->(false=true↔mM m.scalars m.aA[i] a):=λc=>by
   simp only[Bool.false_eq_true,false_iff];exact λaB=>c ((q.1 aB).2.2 e az)
  refine aa ?_;refine M_ 0 rfl AY ?_;refine aa ?_;apply I_<;>intro Y
  .refine aa ?_;apply I_<;>intro aC
   .refine aa ?_;exact⟨⟨false,rfl,J λc=>by have:=c.1 Y;omega⟩,y⟩
   refine aa ?_;apply I_<;>intro bL
   .refine aa ?_;exact⟨⟨false,rfl,J λc=>by have:=c.1 Y;omega⟩,y⟩
   refine aa ?_;refine M_ 0 rfl AY ?_;refine aa ?_;refine⟨AY,aV,(),trivial,x,λd c aD=>?_⟩;by_cases K:d=e
   .subst K;exact⟨λ_=>AY,λ_=>AY⟩
   .exact I d c AY
  .refine aa ?_;refine M_ 0 rfl AY ?_;refine aa ?_;apply I_<;>intro aC
   .refine aa ?_;refine⟨AY,aV,(),trivial,x,λd c aD=>?_⟩;by_cases K:d=e
    .subst K;exact⟨λ_=>AY,λ_=>AY⟩
    .exact I d c AY
   .refine aa ?_;exact⟨⟨false,rfl,J λc=>by have:=c.2 AY;omega⟩,y⟩
 .refine aa ?_;exact⟨⟨true,rfl,by simp only[true_iff];exact q.2 ⟨AY,AY,λd c=>I d c AY⟩⟩,y⟩
def BX(c d:B_)(a b:C_ Int)(w:A_)(f:a6 1 (Flat da) w c a)(g:a6 1 (Flat da) w d b) :
  EL F.c #[c,d] w λh i=>(∃e:Bool,h = .bool e/\(e=true↔a=b))/\Ext w i :=
 anf kv E.c _ _ a b w f g
end Go.Proofs.R
namespace o
def MH(m:Model):(layout m).aQ.length=(bF m).length:=by simp[layout,BW]
def MF(m:Model):(layout m).ab.length=(bF m).length:=by simp[layout,BW]
def MG{m:Model}{c:Nat}(h:c<(layout m).aQ.length)(a:c<(bF m).length):(layout m).aQ[c]=(bF m)[c].aQ:=by simp[layout,BW]
def ME{m:Model}{c:Nat}(h:c<(layout m).ab.length)(a:c<(bF m).length):(layout m).ab[c]=(bF m)[c].ab:=by simp[layout,BW]
def uO(m:Model):(layout m).vars.length=m.vars.length/\(layout m).aA.length=m.aA.length/\(layout m).insts.length=(insts m).length:=by
 refine⟨?_,?_,?_⟩<;>simp[layout,BW,rK,bT,cn,dH]
end o
namespace Go.Proofs.R
open Go Go.RowKit ba o
def axg(b:Nat)(v:B_)(s:C_ Int)(m:o.Model)(w:A_)(r:yT w b m)(j:gh m)(k:cl w v s) :
  EL F.bg #[.pointer (some ⟨b,0,none⟩),v] w λC G=>(∃h:Bool,C = .bool h/\(h=true↔o.Fits m s))/\Ext w G:=by
 obtain⟨W,X,Y,bg,Z,bj,ab,ae,af,ag,ah,ai,aj,ak,al,an,ao,aq,ar,au,av,aw,t,H,I,J,K,L,M,N,ax,O,P⟩:=r.form;obtain⟨ay,az,rfl,aB⟩:=k.form;have aC:(o.layout m).cells=(cH m:Int):=rfl;have aD:=MH m;have aE:=MF m;have aF:cH m<=64:=ij j;have aG:=j.gT;refine bn E.bg ?_;refine aa ?_;apply I_<;>intro aH;rotate_left
 .refine aa ?_;exact⟨⟨false,rfl,by simp only[Bool.false_eq_true,false_iff];intro c;have:=c.len;omega⟩,Ext.refl _⟩
 have l:s.length=cH m:=AY
 clear M N O P H I J;refine aa ?_;refine K_ 22 m.aA.length [0,1,20,21] (λ_:Unit=>[]) () (λe _ n=>Ext w n/\∀a (c:a<m.aA.length),a<e->mM m.scalars m.aA[a] (lO m a m.aA[a] s)) aW aW ⟨Ext.refl _,λa _ c=>absurd c (Od _)⟩ ?_;rintro e _ aI u aJ ⟨f,x⟩;refine aa ?_;apply I_<;>intro aK
 .have g:e<m.aA.length:=AY
  refine aa ?_;refine J_ (awl b e _ s m u (r.ext f) j g (k.ext Flat.ext f) l) ?_;rintro _ Q ⟨⟨h,rfl,y⟩,z⟩;cases h with
  | false =>
   refine aa ?_;exact⟨⟨false,rfl,by simp only[Bool.false_eq_true,false_iff];intro c;exact absurd (y.2 (c.queue e g)) Ah⟩,f.trans z⟩
  | true =>
   refine aa ?_;refine⟨g,aV,(),trivial,f.trans z,λa c S=>?_⟩;by_cases p:a=e
   .subst p;exact y.1 rfl
   .exact x a c AY
 have U:∀a (c:a<m.aA.length),mM m.scalars m.aA[a] (lO m a m.aA[a] s):=λa c=>x a c AY;have aL:=f.obj t;refine aa ?_;refine K_ 33 s.length [0,1,31,32] (λ_:Unit=>[]) () (λe _ n=>n=u/\∀a (c:a<s.length) (i:a<(bF m).length),a<e->(bF m)[a].aQ<=s[a]/\s[a]<=(bF m)[a].ab) aW aW ⟨rfl,λa _ _ c=>absurd c (Od _)⟩ ?_;clear t;rintro d _ aP Q aQ ⟨rfl,A⟩;refine aa ?_;apply I_<;>intro aR
 .have g:d<s.length:=AY
  have q:d<(bF m).length:=by unfold cH at l;omega
  have aS:(o.layout m).aQ[d]' AY=(bF m)[d].aQ:=MG _ q;have aU:(o.layout m).ab[d]' AY=(bF m)[d].ab:=ME _ q;obtain⟨aX,rfl⟩:=k.addr;obtain⟨aY,rfl⟩:=K.addr;obtain⟨aZ,rfl⟩:=L.addr;have B:¬((bF m)[d].aQ<=s[d]/\s[d]<=(bF m)[d].ab)->(false=true↔o.Fits m s):=λc=>by
   simp only[Bool.false_eq_true,false_iff];exact λV=>c (V.cell d g q)
  refine aa ?_;apply I_<;>intro a0
  .refine aa ?_;exact⟨⟨false,rfl,B AY⟩,f⟩
  refine aa ?_;apply I_<;>intro a1
  .refine aa ?_;exact⟨⟨false,rfl,B AY⟩,f⟩
  refine aa ?_;refine⟨g,aV,(),trivial,aV,λa c i S=>?_⟩;by_cases p:a=d
  .subst p;omega
  .exact A a c i AY
 .refine aa ?_;exact⟨⟨true,rfl,by simp only[true_iff];exact⟨l,U,λa c i=>A a c i AY⟩⟩,f⟩
end Go.Proofs.R
namespace o
open Classical in
noncomputable def Il(s:C_ Scalar)(c:eb)(l:C_ Int):Bool:=decide (mM s c l)
def Vg{s:C_ Scalar}{c:eb}{l:C_ Int}:Il s c l=true↔mM s c l:=by unfold Il;simp
def awj{s:C_ Scalar}{c:eb}{l:C_ Int}{t:Bool}(h:t=true↔mM s c l):t=Il s c l:=by
 rw[<-Vg] at h;cases t<;>cases a:Il s c l<;>simp_all
end o
namespace Go.Proofs.R
open Go Go.RowKit ba o
def VX(cs:C_ B_)(m:o.Model)(v:B_)(s:C_ Int)(w:A_)(h:dU w cs m)(f:m.cB)(g:gi w)(i:cl w v s) :
  EL F.k0 #[.agg cs.toArray,v] w λj k=>(∃a:Bool,j = .bool a/\(a=true↔hH m s))/\Ext w k:=by
 have l:=h;obtain⟨x,y,z,bg,A,bj,B,C,G,H,rfl,_⟩:=h.form;refine bn E.k0 ?_;refine aa ?_;intro n I J c K;refine aa ?_;refine J_ (ahd _ m n (l.ext c) f (g.ext c)) ?_;rintro _ p ⟨d,q⟩;have e:=c.trans q;rcases d with ⟨rfl,b⟩ | ⟨r,rfl,b,d⟩
 .refine aa ?_;refine AD4 Cl ?_;refine aa ?_;exact⟨⟨false,rfl,by simp only[Bool.false_eq_true,false_iff];exact λh=>b h.1⟩,e⟩
 .refine aa ?_;refine AD5 Cl ?_;refine aa ?_;refine J_ (axg r _ s m p d (gA b) (i.ext Flat.ext e)) ?_;rintro _ L ⟨⟨a,rfl,t⟩,u⟩;refine aa ?_;exact⟨⟨a,by cases a<;>rfl,t.trans ⟨λh=>⟨b,h⟩,λh=>h.2⟩⟩,e.trans u⟩
def Uz(cs:C_ B_)(m:o.Model)(w:A_)(h:dU w cs m)(b:m.cB) :
  EL F.Ns #[.agg cs.toArray] w λc d=>c = .bool (decide ((o.check m).bK=0))/\Ext w d:=by
 obtain⟨g,i,j,bg,k,bj,l,n,p,q,rfl,_⟩:=h.form;refine bn E.Ns ?_;refine aa ?_;intro e r s a t;refine aa ?_;refine J_ (Vr _ m e (h.ext a) b) ?_;rintro _ u ⟨rfl,f⟩;unfold zn;refine aa ?_;refine _d (v:=.I (o.check m).bK) rfl ?_;refine aa ?_;exact⟨aV,a.trans f⟩
def awI(cs:C_ B_)(m:o.Model)(v:B_)(l:C_ Int)(i:Nat)(w:A_)(h:dU w cs m)(B:gh m)(p:i<m.aA.length)(c:cl w v l)(N:l.length=1+m.aA[i].cap.toNat) :
  EL F.NK #[.agg cs.toArray,v,.I i] w λO P=>(∃C:Bool,O = .bool C/\(C=true↔mM m.scalars m.aA[i] l))/\Ext w P:=by
 obtain⟨ag,ah,ai,bg,aj,bj,ak,al,an,ao,rfl,Q,aq,G,ar,au,av,aw,ax,ay,az⟩:=h.form;obtain⟨aB,aC,rfl,aD⟩:=c.form;have S:=B.chan _ (FA p);have U:=S.cap;have aE:=B.gT;obtain⟨aF,rfl⟩:=G.addr;obtain⟨aG,rfl⟩:=c.addr;have r:=(G.at i p).cells;have f:=agV (s:=m.scalars) (c:=m.aA[i]) (l:=l) N U.1;obtain⟨g,H⟩:∃g,g=(dJ m.aA[i].scalar m.aA[i].aQ m.aA[i].ab m.scalars).aQ:=⟨_,rfl⟩;obtain⟨s,I⟩:∃p,p=(dJ m.aA[i].scalar m.aA[i].aQ m.aA[i].ab m.scalars).ab:=⟨_,rfl⟩;rw[<-H,<-I] at f;refine bn E.NK ?_;refine aa ?_;intro aH aI aJ J j;replace r:=r.ext J;refine aa ?_;intro aK aL aP K k;replace j:=K.obj j;have t:=J.trans K;replace c:=c.ext Flat.ext t;clear r;refine aa ?_;refine M_ 0 rfl AY ?_;refine aa ?_;apply I_<;>intro aQ
 .refine aa ?_;intro L d;refine aa ?_;exact⟨⟨false,rfl,by simp only[Bool.false_eq_true,false_iff];intro h;exact absurd (f.1 h).1 AY⟩,t.trans d⟩
 refine aa ?_;refine M_ 0 rfl AY ?_;refine aa ?_;intro L d;replace j:=d.obj j;replace k:=d.obj k;replace c:=c.ext Flat.ext d;have u:=t.trans d;apply I_<;>intro aR
 .refine aa ?_;exact⟨⟨false,rfl,by simp only[Bool.false_eq_true,false_iff];intro h;exact absurd (f.1 h).2.1 AY⟩,u⟩
 refine aa ?_;refine J_ (Vq ⟨⟨#[]⟩,m.aA[i].scalar,0,m.aA[i].aQ,m.aA[i].ab,0⟩ _ m.scalars L (Q.ext u)) ?_;rintro _ V ⟨rfl,x⟩;have M:((o.bounds ⟨⟨#[]⟩,m.aA[i].scalar,0,m.aA[i].aQ,m.aA[i].ab,0⟩ m.scalars).1=g)/\(o.bounds ⟨⟨#[]⟩,m.aA[i].scalar,0,m.aA[i].aQ,m.aA[i].ab,0⟩ m.scalars).2=s:=by
  rw[H,I,show dJ m.aA[i].scalar m.aA[i].aQ m.aA[i].ab m.scalars=_ from w6 ⟨⟨#[]⟩,m.aA[i].scalar,0,m.aA[i].aQ,m.aA[i].ab,0⟩ m.scalars];exact⟨rfl,rfl⟩
 rw[M.1,M.2];have W:=x.obj k;replace c:=c.ext Flat.ext x;have X:=u.trans x;refine aa ?_;refine _W [1,7,8,9] (λe:Nat=>[(10,.I ((e:Int)+1))]) 0 (λe Y=>Ext V Y/\(e:Int)<=m.aA[i].cap/\∀a (h:a+1<l.length),a<e->((a:Int)<l[0]->g<=l[a+1]/\l[a+1]<=s)/\(l[0]<=a->l[a+1]=0)) (λe=>(m.aA[i].cap - e).toNat) aW ⟨Ext.refl _,AY,λa _ h=>absurd h (Od _)⟩ ?_;clear j k;rintro b aS aU ⟨n,aX,y⟩;have k:=n.obj W;have q:=X.trans n;replace c:=c.ext Flat.ext n;refine aa ?_;apply I_<;>intro aY
 .have Z:b+1<l.length:=AY
  have z:¬(((b:Int)<l[0]->g<=l[b+1]/\l[b+1]<=s)/\(l[0]<=b->l[b+1]=0))->(false=true↔mM m.scalars m.aA[i] l):=λh=>by
   simp only[Bool.false_eq_true,false_iff];exact λab=>h ((f.1 ab).2.2 b Z)
  refine aa ?_;refine M_ 0 rfl AY ?_;refine aa ?_;apply I_<;>intro aZ
  .refine aa ?_;apply I_<;>intro ae
   .refine aa ?_;exact⟨⟨false,rfl,z λh=>by have:=h.1 AY;omega⟩,q⟩
   refine aa ?_;apply I_<;>intro a0
   .refine aa ?_;exact⟨⟨false,rfl,z λh=>by have:=h.1 AY;omega⟩,q⟩
   refine aa ?_;refine M_ 0 rfl AY ?_;refine aa ?_;exact⟨b+1,aW,⟨n,AY,λa h af=>by
    by_cases A:a=b
    .subst A;exact⟨λ_=>AY,λ_=>AY⟩
    .exact y a h AY⟩,AY⟩
  .refine aa ?_;refine M_ 0 rfl AY ?_;refine aa ?_;apply I_<;>intro ae
   .refine aa ?_;exact⟨b+1,aW,⟨n,AY,λa h af=>by
     by_cases A:a=b
     .subst A;exact⟨λ_=>AY,λ_=>AY⟩
     .exact y a h AY⟩,AY⟩
   .refine aa ?_;exact⟨⟨false,rfl,z λh=>by have:=h.2 AY;omega⟩,q⟩
 .refine aa ?_;exact⟨⟨true,rfl,by simp only[true_iff];exact f.2 ⟨AY,AY,λa h=>y a h AY⟩⟩,q⟩
def axf(xs:C_ B_)(m:o.Model)(v:B_)(s:C_ Int)(w:A_)(x:lM w xs (o.layout m))(y:gh m)(g:cl w v s)(z:s.length=cH m) :
  EL F.NL #[.agg xs.toArray,v] w λA B=>(∃p:Bool,A = .bool p/\(p=true↔∀b (d:b<s.length) (e:b<(bF m).length),(bF m)[b].aQ<=s[b]/\s[b]<=(bF m)[b].ab))/\Ext w B:=by
 obtain⟨L,M,N,O,P,Q,S,U,V,W,rfl,X,Y,Z,j,k⟩:=x.form;obtain⟨ab,ae,rfl,af⟩:=g.form;have ag:(o.layout m).cells=(cH m:Int):=rfl;have ah:=MH m;have ai:=MF m;have aj:cH m<=64:=ij y;have ak:(bF m).length=s.length:=z.symm;refine bn E.NL ?_;refine aa ?_;intro C al an f l;have G:=l;clear l;replace g:=g.ext Flat.ext f;replace j:=j.ext Flat.ext f;replace k:=k.ext Flat.ext f;refine aa ?_;refine K_ 5 s.length [1,2] (λ_:Unit=>[]) () (λa _ H=>Ext C H/\∀c (d:c<s.length) (e:c<(bF m).length),c<a->(bF m)[c].aQ<=s[c]/\s[c]<=(bF m)[c].ab) aW aW ⟨Ext.refl _,λc _ _ d=>absurd d (Od _)⟩ ?_;rintro a _ ao aq ar ⟨h,q⟩;have l:=h.obj G;refine aa ?_;apply I_<;>intro au
 .have r:a<s.length:=AY
  have n:a<(bF m).length:=AY
  have av:(o.layout m).aQ[a]' AY=(bF m)[a].aQ:=MG _ n;have aw:(o.layout m).ab[a]' AY=(bF m)[a].ab:=ME _ n;obtain⟨ax,rfl⟩:=g.addr;obtain⟨ay,rfl⟩:=j.addr;obtain⟨az,rfl⟩:=k.addr;have t:¬((bF m)[a].aQ<=s[a]/\s[a]<=(bF m)[a].ab)->(false=true↔∀b (d:b<s.length) (e:b<(bF m).length),(bF m)[b].aQ<=s[b]/\s[b]<=(bF m)[b].ab):=λd=>by
   simp only[Bool.false_eq_true,false_iff];exact λI=>d (I a r n)
  have u:=f.trans h;refine aa ?_;apply I_<;>intro aB
  .refine aa ?_;intro J i;refine aa ?_;exact⟨⟨false,rfl,t AY⟩,u.trans i⟩
  refine aa ?_;intro J i;apply I_<;>intro aC
  .refine aa ?_;exact⟨⟨false,rfl,t AY⟩,u.trans i⟩
  refine aa ?_;refine⟨r,aV,(),trivial,h.trans i,λc d e aD=>?_⟩;by_cases K:c=a
  .subst K;omega
  .exact q c d e AY
 .refine aa ?_;exact⟨⟨true,rfl,by simp only[true_iff];exact λc d e=>q c d e AY⟩,f.trans h⟩
def Vj(cs xs:C_ B_)(m:o.Model)(v:B_)(s:C_ Int)(w:A_)(h:dU w cs m)(u:lM w xs (o.layout m))(e:gh m)(l:cl w v s) :
  EL F.NG #[.agg cs.toArray,.agg xs.toArray,v] w λx p=>(∃f:Bool,x = .bool f/\(f=true↔o.Fits m s))/\Ext w p:=by
 have L:=h;have M:=u;obtain⟨Y,Z,ab,bg,ae,bj,af,ag,ah,ai,rfl,aj,ak,y,al,an,ao,aq,ar,au,av⟩:=h.form;obtain⟨aw,ax,ay,az,aB,aC,aD,aE,aF,aG,rfl,aH,z,aI,aJ,aK⟩:=u.form;obtain⟨aL,aP,rfl,aQ⟩:=l.form;have aR:(o.layout m).cells=(cH m:Int):=rfl;have aS:cH m<=64:=ij e;have aU:=e.gT;refine bn E.NG ?_;refine aa ?_;intro aX aY aZ N g;refine aa ?_;intro O a0 a1 A q;replace g:=A.obj g;have r:=N.trans A;replace l:=l.ext Flat.ext r;refine aa ?_;apply I_<;>intro a3;rotate_left
 .refine aa ?_;exact⟨⟨false,rfl,by simp only[Bool.false_eq_true,false_iff];intro h;have:=h.len;omega⟩,r⟩
 have B:s.length=cH m:=AY
 have P:=g;have Q:=q;clear g q;refine aa ?_;refine K_ 7 m.aA.length [2,3,4] (λ_:Unit=>[]) () (λa _ S=>Ext O S/\∀b (h:b<m.aA.length),b<a->mM m.scalars m.aA[b] (lO m b m.aA[b] s)) aW aW ⟨Ext.refl _,λb _ h=>absurd h (Od _)⟩ ?_;rintro a _ a5 C a7 ⟨i,G⟩;have g:=i.obj P;have q:=i.obj Q;have d:=r.trans i;have H:=l.ext Flat.ext i;refine aa ?_;apply I_<;>intro a8
 .have c:a<m.aA.length:=AY
  obtain⟨a9,I⟩:=AS c;have bb:=ub c;have bf:=ni m;have bk:=(e.chan _ (FA c)).cap;obtain⟨bl,rfl⟩:=z.addr;obtain⟨bo,rfl⟩:=y.addr;have bp:=z.ext Flat.ext d;have bq:=((y.at a c).cells).ext d;refine aa ?_;refine _X (k:=.i64) (k':=.i64) (bS m a) (bS m a+(1+m.aA[a].cap.toNat)) H (by simp[dE,bR,I]) (by simp[dE,bR,I];omega) AY AY λU V j=>?_;rw[show bS m a+(1+m.aA[a].cap.toNat) - bS m a=1+m.aA[a].cap.toNat from AY] at j ⊢;replace j:a6 1 (Flat da) C (.slice U (1+m.aA[a].cap.toNat) V) (lO m a m.aA[a] s):=j;refine aa ?_;refine P_ (.bool (Il m.scalars m.aA[a] (lO m a m.aA[a] s))) (λp J=>(awI _ m _ _ a p (L.ext (d.trans J)) e c (j.ext Flat.ext J) j.len.1.symm).mono λx bt ⟨⟨f,t,k⟩,he⟩=>⟨by rw[t,awj k],he⟩) ?_;refine aa ?_;intro W n;refine N_ (λk=>?_) (λk=>?_)
  .refine aa ?_;refine⟨c,aV,(),trivial,i.trans n,λb h K=>?_⟩;by_cases X:b=a
   .subst X;exact Vg.1 k
   .exact G b h AY
  .refine aa ?_;exact⟨⟨false,rfl,by simp only[Bool.false_eq_true,false_iff];intro h;have:=Vg.2 (h.queue a c);rw[k] at this;cases this⟩,d.trans n⟩
 .refine aa ?_;refine J_ (axf _ m _ s C (M.ext d) e H B) ?_;rintro _ W ⟨⟨f,rfl,t⟩,n⟩;refine aa ?_;exact⟨⟨f,rfl,t.trans ⟨λh=>⟨B,λb K=>G b K AY,h⟩,λh=>h.cell⟩⟩,d.trans n⟩
def ag7(cs:C_ B_)(m:o.Model)(v:B_)(s:C_ Int)(w:A_)(h:dU w cs m)(i:m.cB)(j:cl w v s) :
  EL F.NH #[.agg cs.toArray,v] w λq r=>(∃b:Bool,q = .bool b/\(b=true↔hH m s))/\Ext w r:=by
 have d:=h;obtain⟨B,C,G,bg,H,bj,I,J,K,L,rfl,_⟩:=h.form;obtain⟨M,N,rfl,O⟩:=j.form;refine bn E.NH ?_;refine aa ?_;intro P Q S t k;refine aa ?_;intro u l;replace k:=l.obj k;have n:=t.trans l;refine aa ?_;refine J_ (Uz _ m u (d.ext n) i) ?_;rintro _ x ⟨rfl,e⟩;have f:=n.trans e;refine⟨e,?_⟩;by_cases a:(o.check m).bK=0
 .rw[decide_eq_true a];refine aa ?_;refine J_ (ahf _ m x (d.ext f) i) ?_;rintro _ y ⟨⟨U,rfl,c⟩,p⟩;replace c:=c.here;rw[Ee a] at c;have g:=f.trans p;refine⟨e.trans p,?_⟩;refine aa ?_;refine J_ (Vj _ _ m _ s y (d.ext g) c (gA a) (j.ext Flat.ext g)) ?_;rintro _ V ⟨⟨b,rfl,z⟩,A⟩;refine aa ?_;exact⟨⟨b,by cases b<;>rfl,z.trans ⟨λh=>⟨a,h⟩,λh=>h.2⟩⟩,g.trans A⟩
 .rw[decide_eq_false a];refine aa ?_;exact⟨⟨false,rfl,by simp only[Bool.false_eq_true,false_iff];exact λh=>a h.1⟩,f⟩
end Go.Proofs.R
namespace ba
open Go Go.RowKit
def fG(l:C_ Int):C_ B_:=l.map (Value.int .i64)
theorem x4(l:C_ Int):(fG l).length=l.length:=by simp[fG]
def Mn{l:C_ Int}{d j:Nat}{x:Int}(a:j=d)(h:j<(fG l).toArray.size):(fG l).toArray.set j (.I x) h=(fG (l.set d x)).toArray:=by
 subst a;simp[fG,List.map_set]
def azG(n:Nat):qc (Value.int .i64 0).cells (n*1)=(fG (List.replicate n 0)).toArray:=by
 apply Array.ext_getElem?;intro b;by_cases a:b<n
 .simp[qc,fG,Value.cells,a,Nat.mod_one]
 .simp[qc,fG,a]
def _Y{d:B_->A_->Prop}{w:A_}{e:F_}{n:Int}{t}(a:Nat)(f:n=a)(i:a<=1000000)(g:∀b c,w.heap.size<=c->Ext w b->b.heap[c]? = some (.cells (fG (List.replicate a 0)).toArray e)->d (.slice (some ⟨c,0,none⟩) a a) b) :
  Fj e 1 8 (.I 0) (.I n) (.I n) w d t:=by
 subst f;refine _7 ⟨AY,AY,AY,AY⟩ ?_;have h:=g (w.alloc (.cells (fG (List.replicate a 0)).toArray e)) _ (EM _) ((Ext.refl w).alloc _) (heap_alloc_new w _);rw[AG2,azG];exact h
theorem zS:∀a:C_ Int,fG a=a.flatMap da
 | []=>rfl
 | c :: b=>by
  have:=zS b
  simp only[fG,List.map_cons,List.flatMap_cons] at this ⊢;rw[this];rfl
def UR{w:A_}{b n:Nat}{e:F_}{l:C_ Int}(h:w.heap[b]? = some (.cells (fG l).toArray e))(a:n=l.length)(c:l.length<=maxLen):a6 1 (Flat da) w (.slice (some ⟨b,0,none⟩) n n) l :=
 a6.b0 (enc:=da) (λ_=>rfl) (by rw[h,zS]) a c λ_ _ _ h=>h
def aT.JH{e:F_}{base b n:Nat}{w:A_}{l:C_ Int}(h:w.heap[b]? = some (.cells (fG l).toArray e))(a:base<=b)(c:n=l.length)(d:l.length<=maxLen):aT da e 1 base w (.slice (some ⟨b,0,none⟩) n n) l:=by
 subst c;refine⟨by rw[<-zS,x4,AH2],.inr ⟨b,l.length,(fG l).toArray,rfl,a,h,EM _,d,by simp[fG],?_⟩⟩;rw[<-zS,IA (by simp[fG])]
end ba
namespace Go.Proofs.R
open Go Go.RowKit ba o
def Ru(cs:C_ B_)(m:o.Model)(w:A_)(h:dU w cs m)(aX:m.cB)(aY:gi w) :
  EL F.oZ #[.agg cs.toArray] w λax ay=>(((o.check m).bK=0->aT da T.a 1 w.heap.size ay ax (dn m))/\(¬(o.check m).bK=0->ax = .slice none 0 0))/\Ext w ay:=by
 have aZ:=h;obtain⟨b4,b5,b6,bg,b8,bj,b9,ca,cb,cc,rfl,a0,N,az,aB,ch,cj,cm,cp,cq,cr⟩:=h.form;refine bn E.oZ ?_;refine aa ?_;intro a1 y ct Z d;refine aa ?_;refine J_ (ahd _ m a1 (aZ.ext Z) aX (aY.ext Z)) ?_;rintro _ a3 ⟨ab,aC⟩;replace d:=aC.obj d;have z:=Z.trans aC;rcases ab with ⟨rfl,O⟩ | ⟨A,rfl,O,ab⟩
 .refine aa ?_;refine AD2 Cl ?_;refine aa ?_;exact⟨⟨λh=>absurd h O,λ_=>aV⟩,z⟩
 have P:=gA O;have C:=Rv m;have cu:cH m<=64:=ij P;obtain⟨cv,cw,cx⟩:=uO m;have cy:=P.gT;have cz:(o.insts m).length<=30:=by have:=ts m;have:=P.procs;omega
 obtain⟨cB,cE,cF,cG,cI,cK,cL,cM,cN,cP,cQ,cS,cU,aD,cV,aE,cW,cX,cY,c0,c1,c2,e,ae,a5,aF,a7,a8,a9,bb,bf,bk,bl⟩:=ab.form;clear a5 a7 a8 a9 bb bf bk;refine aa ?_;refine AD3 Cl ?_;refine aa ?_;refine _Y (cH m) rfl AY ?_;intro t f c3 Q c;rw[<-C,<-avZ] at c;have bo:=d;have bp:=e;replace d:=Q.obj d;replace e:=Q.obj e;have c4:=z.trans Q;have c5:=cf c;have bq:=cf d;have c8:=z.size;have af:f≠A:=by
  intro S;subst S
  have:=cf bp
  omega
 have ag:f≠y:=by
  intro S;subst S
  have:=cf bo
  omega
 have ah:∀{b},Mod (λa=>a=f) t b->b.heap[y]? = t.heap[y]? := λh=>h.block _ bq (Ne.symm ag);have ai:∀{b},Mod (λa=>a=f) t b->b.heap[A]? = t.heap[A]? := λh=>h.block _ (cf e) (Ne.symm af);have B:∀{b},Mod (λa=>a=f) t b->Ext a3 b:=λh=>h.ext Q λn db S=>AY
 rw[d] at ah;rw[e] at ai;clear d e;refine aa ?_;refine K_ 25 m.vars.length [1,3,4,23,24] (λ_:Unit=>[]) () (λa _ b=>Mod (λn=>n=f) t b/\b.heap[f]? = some (.cells (fG (o.pre (dn m) (dS m a))).toArray T.a)) aW aW ⟨Mod.refl _ _,by simpa[dS,o.total] using c⟩ ?_;clear c;rintro a _ aj ak bt ⟨j,c⟩;have d:=ah j;have e:=ai j;have dT:=z.trans (B j);refine aa ?_;apply I_<;>intro aD
 .have k:a<m.vars.length:=AY
  obtain⟨bu,rfl⟩:=N.addr;have al:=((N.at a k).cells).ext dT;have dc:=r3 m.vars[a] m.scalars;have bw:=qV k;have dd:=ni m;obtain⟨bx,an⟩:=An k;refine aa ?_;intro aG U bz v bA;refine aa ?_;intro l H p;have q:Ext ak l:=H.ext v bz;replace p:l.heap[U]? = some (.cells m.vars[a].enc.toArray T.j):=p;replace d:=q.obj d;replace e:=q.obj e;replace c:=q.obj c;have hA:=dT.trans q;have de:=cf p;have bB:=j.size;have bC:f≠U:=AY
  clear H v bA al;refine aa ?_;refine J_ (Df m.vars[a] _ m.scalars l (a0.ext hA)) ?_;rintro _ x ⟨rfl,I⟩;replace d:=I.obj d;replace e:=I.obj e;replace p:=I.obj p;replace c:=I.obj c;have ao:Mod (λn=>n=f) t x:=(j.trans q.mod).trans I.mod;have J:∀{b},Mod (λa=>a=f) x b->b.heap[y]? = x.heap[y]? := λh=>h.block _ (cf d) (Ne.symm ag);have K:∀{b},Mod (λa=>a=f) x b->b.heap[A]? = x.heap[A]? := λh=>h.block _ (cf e) (Ne.symm af);have aH:∀{b},Mod (λa=>a=f) x b->b.heap[U]? = x.heap[U]? := λh=>h.block _ (cf p) (Ne.symm bC);rw[d] at J;rw[e] at K;rw[p] at aH;clear d e p;refine aa ?_;refine K_ 34 (o.cells m.vars[a] m.scalars).toNat [1,3,4,5,6,23,24,25,33] (λ_:Unit=>[]) () (λg _ b=>Mod (λn=>n=f) x b/\b.heap[f]? = some (.cells (fG (o.pre (dn m) (dS m a+g))).toArray T.a)) aW aW ⟨Mod.refl _ _,by simpa using c⟩ ?_;clear c;rintro g _ aj aI bD ⟨i,c⟩;have d:=J i;have e:=K i;have p:=aH i;refine aa ?_;apply I_<;>intro aE
  .have V:=Rx k (j:=g) AY;have aq:dS m a+g<cH m:=AY
   have bE:=ae.ext Flat.ext ((B ao).trans (Ext.refl _));obtain⟨df,rfl⟩:=ae.addr;replace bE:=ae.ext Flat.ext (B (ao.trans i));refine aa ?_;intro ar r;replace d:=r.obj d;replace e:=r.obj e;replace p:=r.obj p;replace c:=r.obj c;have L:=x4 (o.pre (dn m) (dS m a+g));rw[o.Ow AY,C] at L;refine aa ?_;refine M_ (dS m a+g) (by rw[an];omega) aq ?_;refine aa ?_;refine _B c (by rw[AK5,L];omega) rfl λbG bH u=>?_;rw[Mn (AH2 _),U7 V] at u;refine aa ?_;exact⟨AY,aV,(),trivial,(i.trans r.mod).trans (bH.mod rfl),u⟩
  .have au:g=(o.cells m.vars[a] m.scalars).toNat:=AY
   rw[au,<-aiY k] at c;refine aa ?_;exact⟨k,aV,(),trivial,ao.trans i,c⟩
 have bI:m.vars.length<=a:=AY
 rw[aiX bI,agK (o.total (cn m)) λn N az=>KG N az,<-aeL] at c;refine aa ?_;refine K_ 58 (o.insts m).length [1,3,4,56,57] (λ_:Unit=>[]) () (λa _ b=>Mod (λn=>n=f) t b/\b.heap[f]? = some (.cells (fG (o.pre (dn m) (b7 m a))).toArray T.a)) aW aW ⟨j,c⟩ ?_;clear c d e j dT;rintro a _ aj ak bt ⟨j,c⟩;have d:=ah j;have e:=ai j;have dT:=z.trans (B j);have aJ:=bl.ext Flat.ext (B j);refine aa ?_;apply I_<;>intro aD
 .have k:a<(o.insts m).length:=AY
  obtain⟨di,rfl⟩:=aJ.addr;have bJ:=qJ _ (FA k);obtain⟨s,aK,aL,bK⟩:=uL bJ;have bL:=P.proc _ (FA aK);have dj:=bL.gT.1;have G:po m (o.insts m)[a]=0 :: m.procs[s].vars.map (·.init):=by
   unfold po;rw[aL,ik AY AY];simp
  have bw:=HD k;have bM:(kf m (o.insts m)[a]).length=1+m.procs[s].vars.length:=by rw[bK,py]
  have aP:=Ge k (j:=0) (by rw[G];simp);have bN:(po m (o.insts m)[a])[0]'(by rw[G];simp)=0:=by simp[G]
  rw[bN,AH1] at aP;rw[agL aP] at c;obtain⟨bx,an⟩:=qH k;refine aa ?_;intro aG W bO v bQ;refine aa ?_;intro l H u;have q:Ext ak l:=H.ext v bO;replace u:l.heap[W]? = some (.cells #[.I s,.I (o.insts m)[a].elem] T.c):=by rw[<-aL];exact u
  replace d:=q.obj d;replace e:=q.obj e;replace c:=q.obj c;have hA:=dT.trans q;have bB:=j.size;have bU:f≠W:=AY
  have X:Mod (λn=>n=f) t l:=j.trans q.mod;clear H v bQ aJ;obtain⟨bu,rfl⟩:=aB.addr;obtain⟨dk,dp,dN,av,aw,bV⟩:=aB.at s aK;obtain⟨dq,dr,rfl,du⟩:=aw.form;obtain⟨dv,dw,rfl,dx⟩:=bV.form;replace av:=av.ext hA;refine aa ?_;have J:∀{b},Mod (λa=>a=f) l b->b.heap[y]? = l.heap[y]? := λh=>h.block _ (cf d) (Ne.symm ag);have K:∀{b},Mod (λa=>a=f) l b->b.heap[A]? = l.heap[A]? := λh=>h.block _ (cf e) (Ne.symm af);have aQ:∀{b},Mod (λa=>a=f) l b->b.heap[W]? = l.heap[W]? := λh=>h.block _ (cf u) (Ne.symm bU);rw[d] at J;rw[e] at K;rw[u] at aQ;clear d e u av;refine K_ 71 m.procs[s].vars.length [1,3,4,8,9,56,57,58,69,70] (λ_:Unit=>[]) () (λg _ b=>Mod (λn=>n=f) l b/\b.heap[f]? = some (.cells (fG (o.pre (dn m) (b7 m a+1+g))).toArray T.a)) aW aW ⟨Mod.refl _ _,by simpa using c⟩ ?_;clear c;rintro g _ aj aI bD ⟨i,c⟩;have d:=J i;have e:=K i;have u:=aQ i;have h7:=z.trans (B (X.trans i));refine aa ?_;apply I_<;>intro aE
  .have bW:g<m.procs[s].vars.length:=AY
   obtain⟨dy,rfl⟩:=aw.addr;have al:=((aw.at g bW).cells).ext h7;have V:=Ge k (j:=1+g) (by rw[G];simp;omega);have bX:(po m (o.insts m)[a])[1+g]'(by rw[G];simp;omega)=m.procs[s].vars[g].init:=by
    simp only[G];rw[List.getElem_cons,dif_neg AY];simp
   rw[bX,<-AH4] at V;have aq:b7 m a+1+g<cH m:=AY
   obtain⟨dz,rfl⟩:=aF.addr;refine aa ?_;intro aG aR bY v b0;refine aa ?_;intro ar aS Y;have r:Ext aI ar:=aS.ext v bY;replace Y:ar.heap[aR]? = some (.cells m.procs[s].vars[g].enc.toArray T.j):=Y;have dA:=aF.ext Flat.ext ((B (X.trans i)).trans r);have dB:f≠aR:=by have:=(X.trans i).size;omega
   replace d:=r.obj d;replace e:=r.obj e;replace c:=r.obj c;clear aS v b0 al;have L:=x4 (o.pre (dn m) (b7 m a+1+g));rw[o.Ow AY,C] at L;refine aa ?_;intro bG M;replace d:=M.obj d;replace e:=M.obj e;replace c:=M.obj c;replace Y:=M.obj Y;refine aa ?_;refine M_ (b7 m a+1+g) (by rw[an];omega) aq ?_;refine aa ?_;refine _B c (by rw[AK5,L];omega) rfl λdC b1 aU=>?_;rw[Mn (AH2 _),U7 V] at aU;refine aa ?_;exact⟨AY,aV,(),trivial,((i.trans r.mod).trans M.mod).trans (b1.mod rfl),aU⟩
  .have au:g=m.procs[s].vars.length:=AY
   rw[au,show b7 m a+1+m.procs[s].vars.length=b7 m (a+1) from by rw[aeK k,bM];omega] at c;refine aa ?_;exact⟨k,aV,(),trivial,X.trans i,c⟩
 have b3:(o.insts m).length<=a:=AY
 rw[aeJ b3,<-C,avY] at c;refine aa ?_;exact⟨⟨λ_=>aT.JH c (by have:=z.size;omega) C.symm (by rw[C];unfold maxLen;omega),λh=>absurd O h⟩,dT⟩
def anV(cs:C_ B_)(m:o.Model)(w:A_)(h:dU w cs m)(c:m.cB)(d:gi w) :
  EL F.oZ #[.agg cs.toArray] w λa b=>(((o.check m).bK=0->cl b a (dn m))/\(¬(o.check m).bK=0->a = .slice none 0 0))/\Ext w b :=
 (Ru cs m w h c d).mono λa b h=>⟨⟨λe=>aT.lF (enc:=da) (λ_=>rfl) (h.1.1 e),h.1.2⟩,h.2⟩
def axe(cs:C_ B_)(m:o.Model)(w:A_)(h:dU w cs m)(al:m.cB) :
  EL F.NF #[.agg cs.toArray] w λa N=>(((o.check m).bK=0->cl N a (dn m))/\(¬(o.check m).bK=0->a = .slice none 0 0))/\Ext w N:=by
 have an:=h;obtain⟨bG,bH,bI,bg,bJ,bj,bK,bL,bM,bN,rfl,a0,ao,aq,ar,bO,bQ,bU,bV,bW,bX⟩:=h.form;refine bn E.NF ?_;refine aa ?_;intro a1 a3 bY au f;refine aa ?_;refine J_ (Uz _ m a1 (an.ext au) al) ?_;rintro _ g ⟨rfl,av⟩;replace f:=av.obj f;have t:=au.trans av;by_cases G:(o.check m).bK=0;rotate_left
 .rw[decide_eq_false G];refine aa ?_;exact⟨⟨λh=>absurd h G,λ_=>aV⟩,t⟩
 rw[decide_eq_true G];have H:=gA G;have a5:=Rv m;have b0:cH m<=64:=ij H;have b1:=H.gT;have b3:=ni m;have b4:(o.insts m).length<=30:=by have:=ts m;have:=H.procs;omega
 have I:∀J:Nat,((dn m).take J).length<=64:=λJ=>by rw[IP];omega
 have a7:=f;clear f;have z:∀{c},Ext g c->c.heap[a3]? = _:=λV=>V.obj a7;refine aa ?_;refine K_ 4 m.vars.length [1] (λa:ez=>[(3,.slice a.1 a.2.1 a.2.2)]) (none,0,0) (λb a c=>Ext g c/\aT da T.a 1 g.heap.size c (.slice a.1 a.2.1 a.2.2) ((dn m).take (dS m b))) aW aW ⟨Ext.refl _,by simpa[dS,o.total] using aT.nil _ _ _ _ _⟩ ?_;rintro b a K aw ax ⟨n,l⟩;have f:=z n;refine aa ?_;apply I_<;>intro ay
 .have e:b<m.vars.length:=AY
  obtain⟨az,rfl⟩:=ao.addr;have b5:=r3 m.vars[b] m.scalars;have aB:=qV e;refine aa ?_;refine K_ 5 (o.cells m.vars[b] m.scalars).toNat [1,4] (λa:ez=>[(3,.slice a.1 a.2.1 a.2.2)]) a (λd a c=>Ext g c/\aT da T.a 1 g.heap.size c (.slice a.1 a.2.1 a.2.2) ((dn m).take (dS m b+d))) aW aW ⟨n,by simpa using l⟩ ?_;clear f l;rintro d a K aC W ⟨i,j⟩;have f:=z i;have A:=t.trans i;have O:=((ao.at b e).cells).ext A;refine aa ?_;refine P_ _ (λN V=>OI m.vars[b] _ m.scalars N (a0.ext (A.trans V))) ?_;refine aa ?_;intro a8 p;replace f:=p.obj f;replace O:=O.ext p;apply I_<;>intro aD
  .have B:=Rx e (j:=d) AY;refine aa ?_;intro P a9 bb r X;have s:=j.ext (p.trans r);have L:=(i.trans p).trans r;have Y:=I (dS m b+d);refine T_ (y:=m.vars[b].init) s X rfl (λ_=>rfl) j8 AY (by unfold maxLen;omega) L.size λu v x aE y Z=>?_;refine aa ?_;exact⟨AY,aV,(u,v,x),aW,s.h9 L Z (EM _),by rw[<-AH4,o.wH B];exact y⟩
  .have M:d=(o.cells m.vars[b] m.scalars).toNat:=AY
   rw[M,<-aiY e] at j;refine aa ?_;exact⟨e,aV,a,aW,i.trans p,j.ext p⟩
 have bf:m.vars.length<=b:=AY
 rw[aiX bf,<-aag] at l;clear f;refine aa ?_;refine K_ 6 m.aA.length [1] (λa:ez=>[(3,.slice a.1 a.2.1 a.2.2)]) a (λb a c=>Ext g c/\aT da T.a 1 g.heap.size c (.slice a.1 a.2.1 a.2.2) ((dn m).take (bS m b))) aW aW ⟨n,l⟩ ?_;clear l n;rintro b a K aw ax ⟨n,l⟩;have f:=z n;refine aa ?_;apply I_<;>intro ay
 .have e:b<m.aA.length:=AY
  obtain⟨az,rfl⟩:=aq.addr;have b6:=(H.chan _ (FA e)).cap;have aB:=ub e;refine aa ?_;refine _W [1,6] (λk:ez×Nat=>[(3,.slice k.1.1 k.1.2.1 k.1.2.2),(7,.I k.2)]) (a,0) (λk c=>(Ext g c/\(k.2:Int)<=m.aA[b].cap+1)/\aT da T.a 1 g.heap.size c (.slice k.1.1 k.1.2.1 k.1.2.2) ((dn m).take (bS m b+k.2))) (λk=>(m.aA[b].cap+1 - k.2).toNat) aW ⟨⟨n,by simp only;omega⟩,by simpa using l⟩ ?_;clear f l;rintro⟨a,d⟩ K aC ⟨⟨i,W⟩,j⟩;have f:=z i;have A:=t.trans i;have O:=((aq.at b e).cells).ext A;simp only at W j;refine aa ?_;apply I_<;>intro aD
  .have B:=KG (m:=m) (c:=bS m b+d) (by unfold bS;omega) AY;refine aa ?_;intro P a9 bb r X;have s:=j.ext r;have L:=i.trans r;have Y:=I (bS m b+d);refine T_ (y:=(0:Int)) s X rfl (λ_=>rfl) j8 AY (by unfold maxLen;omega) L.size λu v x aE y Z=>?_;refine aa ?_;exact⟨((u,v,x),d+1),aW,⟨⟨s.h9 L Z (EM _),by simp only;omega⟩,by rw[<-AH4,o.wH B];exact y⟩,by simp only;omega⟩
  .have M:d=1+m.aA[b].cap.toNat:=AY
   rw[M,<-aaf e] at j;refine aa ?_;exact⟨e,aV,a,aW,i,j⟩
 have bk:m.aA.length<=b:=AY
 rw[ak4 bk,<-aeL] at l;refine aa ?_;refine J_ (EA _ m aw (an.ext (t.trans n)) al) ?_;rintro b8 Q ⟨aF,ab⟩;obtain⟨bl,bo,rfl,_⟩:=aF.form;have aG:∀{c:A_},eI [T.a] Q c->rS c (.slice bl (o.insts m).length bo) (o.insts m):=λb=>aT.lF (enc:=c9.enc) (λ_=>rfl) (aF.h1 b Ae);have aH:=l.ext ab;have aI:=n.trans ab;have I:∀J:Nat,((dn m).take J).length<=64:=λJ=>by rw[IP];omega
 clear f;refine aa ?_;refine K_ 9 (o.insts m).length [1,8] (λa:ez=>[(3,.slice a.1 a.2.1 a.2.2)]) a (λb a c=>(Ext g c/\eI [T.a] Q c)/\aT da T.a 1 g.heap.size c (.slice a.1 a.2.1 a.2.2) ((dn m).take (b7 m b))) aW aW ⟨⟨aI,eI.refl⟩,aH⟩ ?_;clear l aH n ab aI;rintro b a K aC ax ⟨⟨i,aJ⟩,j⟩;have f:=z i;have ae:=aG aJ;have A:=t.trans i;refine aa ?_;apply I_<;>intro ay
 .have e:b<(o.insts m).length:=AY
  obtain⟨b9,rfl⟩:=ae.addr;have bp:=qJ _ (FA e);obtain⟨q,af,aK,bq⟩:=uL bp;have bt:=H.proc _ (FA af);have ca:=bt.gT.1;have C:po m (o.insts m)[b]=0 :: m.procs[q].vars.map (·.init):=by
   unfold po;rw[aK,ik AY AY];simp
  have aB:=HD e;have bu:(kf m (o.insts m)[b]).length=1+m.procs[q].vars.length:=by rw[bq,py]
  have aL:=Ge e (j:=0) (by rw[C];simp);have bw:(po m (o.insts m)[b])[0]'(by rw[C];simp)=0:=by simp[C]
  rw[bw,AH1] at aL;obtain⟨az,rfl⟩:=ar.addr;obtain⟨cb,cc,dN,S,ag,bx⟩:=ar.at q af;obtain⟨ch,cj,rfl,cm⟩:=ag.form;obtain⟨cp,cq,rfl,cr⟩:=bx.form;refine aa ?_;intro a8 ct cu p aP;have U:=j.ext p;have aQ:=i.trans p;have Y:=I (b7 m b);refine T_ (y:=(0:Int)) U aP rfl (λ_=>rfl) j8 AY (by unfold maxLen;omega) aQ.size λu v x P s aR=>?_;rw[<-o.wH aL] at s;have r:Ext g P:=U.h9 aQ aR (EM _);have aS:eI [T.a] Q P:=(aJ.trans (eI.ext p)).trans (Mw U aR);replace ae:=aG aS;replace f:=z r;have bz:=t.trans r;replace S:=S.ext bz;unfold ed.enc at S;clear j U aP;refine aa ?_;refine M_ q aK af ?_;refine aa ?_;intro cv ah;refine K_ 11 m.procs[q].vars.length [1,8,9,10] (λa:ez=>[(3,.slice a.1 a.2.1 a.2.2)]) (u,v,x) (λd a c=>(Ext g c/\eI [T.a] Q c)/\aT da T.a 1 g.heap.size c (.slice a.1 a.2.1 a.2.2) ((dn m).take (b7 m b+1+d))) aW aW ⟨⟨r.trans ah,aS.trans (eI.ext ah)⟩,by simpa using s.ext ah⟩ ?_;clear f s S ae;rintro d a K aE W ⟨⟨ai,aU⟩,y⟩;have bA:=t.trans ai;refine aa ?_;apply I_<;>intro aD
  .have aX:d<m.procs[q].vars.length:=AY
   obtain⟨cw,rfl⟩:=ag.addr;have O:=((ag.at d aX).cells).ext bA;have B:=Ge e (j:=1+d) (by rw[C];simp;omega);have bB:(po m (o.insts m)[b])[1+d]'(by rw[C];simp;omega)=m.procs[q].vars[d].init:=by
    simp only[C];rw[List.getElem_cons,dif_neg AY];simp
   rw[bB,<-AH4] at B;refine aa ?_;intro cx cy cz aj bC;have ak:=y.ext aj;have aY:=ai.trans aj;have Y:=I (b7 m b+1+d);refine T_ (y:=m.procs[q].vars[d].init) ak bC rfl (λ_=>rfl) j8 AY (by unfold maxLen;omega) aY.size λu v x cB bD aZ=>?_;refine aa ?_;exact⟨aX,aV,(u,v,x),aW,⟨ak.h9 aY aZ (EM _),(aU.trans (eI.ext aj)).trans (Mw ak aZ)⟩,by rw[<-AH4,o.wH B];exact bD⟩
  .have M:d=m.procs[q].vars.length:=AY
   rw[M,show b7 m b+1+m.procs[q].vars.length=b7 m (b+1) from by rw[aeK e,bu];omega] at y;refine aa ?_;exact⟨e,aV,a,aW,⟨ai,aU⟩,y⟩
 .have bE:(o.insts m).length<=b:=AY
  rw[aeJ bE,<-a5,AG9] at j;refine aa ?_;exact⟨⟨λ_=>aT.lF (enc:=da) (λ_=>rfl) j,λh=>absurd G h⟩,A⟩
def oT(w:A_)(a:Addr)(l:C_ Int):Prop := ∃b,w.cell? a=some b/\cl w b l
theorem oT.ext(w w':A_)(a:Addr)(l:C_ Int)(b:Ext w w')(h:oT w a l):oT w' a l:=let ⟨c,d,e⟩:=h; ⟨c,b.cell d,e.ext Flat.ext b⟩
abbrev gS(w:A_)(v:B_)(l:C_ (C_ Int)):Prop:=a6 1 oT w v l
end Go.Proofs.R