/- Parts. -/
import Derived.Test.YtlhljkikdhblbaaGreatDoorQsgq
set_option linter.all false
set_option maxRecDepth 8000
set_option maxHeartbeats 16000000
namespace o
open Go
def k8(m:Model)(s:C_ Int)(q:Nat)(c:et):C_ (C_ Int):=match hr m s q c with
 | none=>[]
 | some a=>a :: if ways c m.ay=2 then [lost m s a c] else []
theorem amu(m:Model)(s:C_ Int)(q:Nat)(c:et):(k8 m s q c).length<=2:=by
 unfold k8;cases hr m s q c with
 | none=>simp
 | some b=>by_cases a:ways c m.ay=2<;>simp[a]
theorem gi.ends{m:Model}{r q p k:Nat}(h:gi m r q p k)(s:C_ Int):(o.kl m s r).length=(k8 m s q (cR m p k)).length/\∀a (b:a<(o.kl m s r).length) (i:a<(k8 m s q (cR m p k)).length),(o.kl m s r)[a]=⟨r,a,(k8 m s q (cR m p k))[a]⟩:=by
 have d:=h.kl s;cases e:hr m s q (cR m p k) with
 | none =>
  rw[e] at d;have f:k8 m s q (cR m p k)=[]:=by unfold k8;rw[e]
  rw[d,f];exact⟨rfl,λa b=>absurd b (Og _)⟩
 | some c =>
  rw[e] at d;by_cases hw:ways (cR m p k) m.ay=2
  .have f:k8 m s q (cR m p k)=[c,lost m s c (cR m p k)]:=by unfold k8;rw[e];simp[hw]
   have g:o.kl m s r=[⟨r,0,c⟩,⟨r,1,lost m s c (cR m p k)⟩]:=by rw[d];simp[hw]
   rw[f,g];refine⟨rfl,λa b i=>?_⟩
   match a,b with
   | 0,_=>rfl
   | 1,_=>rfl
   | a+2,b=>exact absurd b Ah
  .have f:k8 m s q (cR m p k)=[c]:=by unfold k8;rw[e];simp[hw]
   have g:o.kl m s r=[⟨r,0,c⟩]:=by rw[d];simp[hw]
   rw[f,g];refine⟨rfl,λa b i=>?_⟩
   match a,b with
   | 0,_=>rfl
   | a+1,b=>exact absurd b Ah
end o
namespace Go.Proofs.R
open Go Go.RowKit a8 o
structure yF(base:Nat)(w:World)(u:Value)(bL:List (hp 1))(l:List (List Int)):Prop where
 len:bL.length=l.length
 row:ng T.b 1 base w u bL
 at_:∀i (I:i<bL.length) (U:i<l.length),∃af c,bL[i].1=[.slice af l[i].length c]/\fe base w (.slice af l[i].length c) l[i]
theorem yF.ext{base:Nat}{w w':A_}{a:B_}{b:C_ (hp 1)}{l:C_ (C_ Int)}(c:Ext w w')(h:yF base w a b l):yF base w' a b l :=
 ⟨h.len,h.row.ext c,λd e f=>let ⟨g,i,j,k⟩:=h.at_ d e f; ⟨g,i,j,k.ext c⟩⟩
def yF.mod{base:Nat}{w w':A_}{f:B_}{g:C_ (hp 1)}{l:C_ (C_ Int)}{A:Nat->Prop}(h:yF base w f g l)(i:Mod A w w')(j:∀a (b:Array B_) (c:F_),base<=a->w.heap[a]? = some (.cells b c)->c=T.b\/c=T.a->¬A a):yF base w' f g l :=
 ⟨h.len,aR.mod h.row i λa k=>let ⟨b,d⟩:=aR.b0 h.row a k;j a b _ (aR.lt h.row a k).1 d (.inl rfl),λn p q=>let ⟨r,s,c,a⟩:=h.at_ n p q; ⟨r,s,c,aR.mod a i λe m=>let ⟨b,d⟩:=aR.b0 a e m;j e b _ (aR.lt a e m).1 d (.inr rfl)⟩⟩
def anq(c:Nat)(i j:B_)(m:o.Model)(s t:C_ Int)(ref:Int)(q p k:Nat)(w:A_)(l:qo w c m)(n:cH w i s)(r:cH w j t)(ae:s.length=cG m)(af:t.length=cG m)(u:gi m ref q p k)(K:o.ways (cR m p k) m.ay=2) :
  EG F.f2 #[.pointer (some ⟨c,0,none⟩),i,j,.I ref] w λe v=>fe w.heap.size v e (o.lost m s t (cR m p k))/\Ext w v:=by
 obtain⟨a,x,y⟩:=O4 K;have z:=g6 u.ok;have ag:=mn y;have ah:cG m<=64:=iq z;have ai:(o.chanOf m s a).length=1+gq m a:=pI AW;obtain⟨aj,bg,rfl,_⟩:=n.form;obtain⟨ak,bj,rfl,_⟩:=r.form;refine bm E.f2 ?_;refine aa ?_;refine J_ (Ra c m ref q p k w l u) ?_;rintro _ L ⟨⟨al,an,ao,aq,rfl,ar,M⟩,A⟩;refine aa ?_;refine J_ (aaq (cR m p k) _ _ L (M.ext A)) ?_;rintro _ N ⟨rfl,O⟩;rw[x];have d:=A.trans O;refine aa ?_;refine J_ (Hy _ t N (r.ext Flat.ext d) (by unfold eO;omega)) ?_;rintro e P ⟨f,Q⟩;have B:=d.trans Q;obtain⟨S,au,rfl,_⟩:=(gT f).form;obtain⟨b,rfl⟩:∃b,S=some ⟨b,0,none⟩:=by
  rcases f.2 with ⟨U,av⟩ | ⟨b,cap,cur,g,_⟩
  .exfalso;injection U with _ aw _;omega
  .injection g with g _ _;exact⟨b,g⟩
 refine aa ?_;refine J_ (Q9 c m a P (l.ext B) z y) ?_;rintro _ ax ⟨rfl,C⟩;have V:=B.trans C;have W:=f.ext C;refine aa ?_;intro az G;have H:=V.trans G;have h:=W.ext G;have X:=n.ext Flat.ext H;refine aa ?_;refine _g (k:=.i64) (k':=.i64) (bT m a) (bT m a+(1+gq m a)) (gT h) (by simp[dy,bS]) (by simp[dy,bS]) AW AW λaA aB Y _=>?_;refine aa ?_;refine _Y (k:=.i64) (k':=.i64) (bT m a) (bT m a+(1+gq m a)) X (by simp[dy,bS]) (by simp[dy,bS]) AW AW λaC aD I=>?_;rw[Qx] at I;refine aa ?_;refine _h (p:=bT m a) h I (by simp only[dy,bS];rfl) (by simp only[dy,bS];rfl) Y AW Cg Cg λe aE Z J=>?_;rw[Im AW] at J;have aF:=(aR.lt h b rfl).1
 have:=d.size
 refine aa ?_;refine⟨?_,Z.ext H AW⟩;have ab:o.lost m s t (cR m p k)=hY t (bT m a) (o.chanOf m s a):=by unfold o.lost;rw[x,AG4]
 rw[ab];exact aR.low d.size J
theorem abA(f:Nat)(v:B_)(m:o.Model)(s:C_ Int)(ref:Int)(q p k:Nat)(w:A_)(K:qo w f m)(y:cH w v s)(z:o.Fits m s)(g:gi m ref q p k) :
  EG F.bJ #[.pointer (some ⟨f,0,none⟩),v,.I ref] w λL M=>(∃ae:C_ (hp 1),yF w.heap.size M L ae (k8 m s q (cR m p k)))/\Ext w M:=by
 have a9:=g6 g.ok;obtain⟨ba,bb,rfl,bf⟩:=y.form;have A:=K;obtain⟨bk,d,N⟩:=K;obtain⟨bn,bo,bp,br,bt,bu,bw,bx,bz,bA,bB,bC,bE,bg,bF,bj,bG,bH,bI,bJ,bK,bL,bM,bN,rfl,_,_,af,ag,ah,ai,aj,ak,B,b,al,an,ao⟩:=N.form;clear af ag ah ai aj ak B al an ao N;refine bm E.bJ ?_;refine aa ?_;refine J_ (ana f _ m s ref q p k w A y z g) ?_;rintro _ bO ⟨aq,l⟩;have bP:=l.size;rcases aq with ⟨ar,rfl⟩ | ⟨e,au,av,C,rfl,aw⟩
 .have c:k8 m s q (cR m p k)=[]:=by unfold k8;rw[ar]
  refine aa ?_;exact⟨⟨[],⟨by rw[c];rfl,aR.nil _ _ _ _ _,λa n=>absurd n (Og _)⟩⟩,l⟩
 have ax:=aal g z C;replace d:=l.obj d;refine aa ?_;intro az O bR r P;have aA:=l.trans r;replace d:=r.obj d;have bV:=r.size;have aB:ng T.b 1 w.heap.size az (.slice (some ⟨O,0,none⟩) 1 1) [(⟨[.slice au e.length av],rfl,by simp[Value.oneCell']⟩:hp 1)]:=aR.y0 _ P AW rfl hs rfl (by show 1<=maxLen;unfold maxLen;decide);clear P;refine aa ?_;intro aC t;replace d:=t.obj d;have aD:=aB.ext t;have Q:=aA.trans t;refine aa ?_;refine J_ (Ra f m ref q p k aC (A.ext Q) g) ?_;rintro _ aE ⟨⟨bW,bX,bY,bZ,rfl,b0,aF⟩,h⟩;refine⟨h,?_⟩;have S:=Q.trans h;refine aa ?_;refine J_ (aiA (cR m p k) _ _ _ m.ay aE (aF.ext h) (b.ext S)) ?_;rintro _ aG ⟨rfl,G⟩;have i:=S.trans G;have U:=aD.ext (h.trans G);have H:=((aw.ext r).ext t).ext (h.trans G);obtain⟨b1,aH⟩:∃aI,aI=o.ways (cR m p k) m.ay:=⟨_,rfl⟩;have aJ:=ayO (cR m p k) m.ay;rw[<-aH] at aJ ⊢;refine aa ?_;refine I_ (λaK=>?_) (λaK=>?_);rotate_left
 .have c:k8 m s q (cR m p k)=[e]:=by unfold k8;rw[C];simp only;rw[if_neg AW]
  refine aa ?_;refine⟨⟨_,⟨by rw[c];rfl,U,λa j aM=>?_⟩⟩,i⟩
  have:a=0:=by simp at j;omega
  subst this;simp only[c,List.getElem_cons_zero];exact⟨_,_,rfl,H⟩
 have V:o.ways (cR m p k) m.ay=2:=AW
 have c:k8 m s q (cR m p k)=[e,o.lost m s e (cR m p k)]:=by unfold k8;rw[C];simp only;rw[if_pos V]
 refine aa ?_;refine J_ (anq f _ _ m s e ref q p k aG (A.ext i) (y.ext Flat.ext i) (gT H) z.len ax g V) ?_;rintro L b3 ⟨W,u⟩;obtain⟨aP,aQ,rfl,_⟩:=(gT W).form;have aS:=i.trans u;have aT:=i.size;have b4:=u.size;refine aa ?_;intro aU b5 b6 x aW;have X:=aS.trans x;have I:=U.ext (u.trans x);refine T_ (enc:=iO) (y:=(⟨[.slice aP (o.lost m s e (cR m p k)).length aQ],rfl,by simp[Value.oneCell']⟩:hp 1)) I aW rfl hs rp Ah (by unfold maxLen;simp) (by have:=X.size;omega) λb8 b9 cb aX aY Y=>?_;refine aa ?_;have a0:∀a,(Value.slice (some ⟨O,0,none⟩) 1 1).ownBlock=some a->w.heap.size<=a:=λa a2=>(aR.lt I a a2).1;have Z:∀{v:B_} {ab:C_ Int},fe w.heap.size aU v ab->fe w.heap.size aX v ab:=λn=>aR.mod n (Mod.grown Y λk J=>J) λk J a5=>by
  obtain⟨cc,B⟩:=aR.b0 n k J;obtain⟨ch,b⟩:=aR.b0 I k a5;rw[B] at b;injection b with b
  injection b with _ b
  revert b;decide
 have a6:=Z (H.ext (u.trans x));have a7:=Z ((aR.low aT W).ext x);refine⟨⟨_,⟨by rw[c];rfl,aY,λa j aM=>?_⟩⟩,X.grown Y a0⟩
 match a,j with
 | 0,_ =>
  simp only[c,List.getElem_cons_zero];exact⟨_,_,rfl,a6⟩
 | 1,_ =>
  simp only[c,List.getElem_cons_succ,List.getElem_cons_zero];exact⟨_,_,rfl,a7⟩
 | a+2,j=>exact absurd j Ah
def anr(J:Nat)(v:B_)(m:o.Model)(s:C_ Int)(w:A_)(B:qo w J m)(k:(o.check m).bN=0)(K:cH w v s)(ab:o.Fits m s) :
  EG F.a5 #[.pointer (some ⟨J,0,none⟩),v] w λL ae=>eo CK T.n 3 w.heap.size ae L (eP m s)/\Ext w ae:=by
 have af:=g6 k;have bB:=Vg af.HG;obtain⟨bC,bE,rfl,bF⟩:=K.form;have au:=B;obtain⟨bG,av,ag⟩:=B;obtain⟨bH,bI,bJ,bK,bL,bM,bN,bO,bP,bR,bV,bW,bX,bg,bY,bj,bZ,b0,b1,b3,b4,b5,b6,b8,rfl,_,_,aw,ax,az,aA,aB,aC,r,t,u,aD,aE⟩:=ag.form;clear aw ax az aA aB aC r t u aD aE ag;refine bm E.a5 ?_;refine aa ?_;refine K_ 14 (o.refs m).length [0,1,13] (λv:ef=>[(5,.slice v.1 v.2.1 v.2.2)]) (none,0,0) (λa v g=>Ext w g/\eo CK T.n 3 w.heap.size g (.slice v.1 v.2.1 v.2.2) (hy m s a)) aV aV ⟨Ext.refl _,eo.nil _ _ _ _ _⟩ ?_;clear av;rintro a ah aF C b9 ⟨f,e⟩;have cb:=Uo m s a;refine aa ?_;refine I_ (λaG=>?_) (λaG=>?_)
 .have aH:a<(o.refs m).length:=AW
  obtain⟨h,i,j,ai⟩:=FX (m:=m) (ref:=a) ⟨k,AW,AW⟩;obtain⟨cc,aI⟩:=ai.ends s;have ch:=amu m s h (cR m i j);refine aa ?_;refine J_ (abA J _ m s a h i j C (au.ext f) (K.ext Flat.ext f) ab ai) ?_;rintro L cj ⟨⟨l,G⟩,M⟩;have aJ:=f.size;have ck:=M.size;have cm:=G.len;obtain⟨aK,aM,rfl,_⟩:=(aR.iw hs G.row).form;have aj:=e.ext M;have aP:=f.trans M;refine aa ?_;refine K_ 22 l.length [0,1,6,13,14,20,21] (λv:ef=>[(5,.slice v.1 v.2.1 v.2.2)]) ah (λb v g=>Ext w g/\yF C.heap.size g (.slice aK l.length aM) l (k8 m s h (cR m i j))/\eo CK T.n 3 w.heap.size g (.slice v.1 v.2.1 v.2.2) (hy m s a++(kl m s a).take b)) aV aV ⟨aP,G,by simpa using aj⟩ ?_;clear G aj e;rintro b v aF N cp ⟨O,P,n⟩;have ak:=aR.iw hs P.row;refine aa ?_;refine I_ (λy=>?_) (λy=>?_);rotate_left
  .have cq:b=l.length:=AW
   rw[Im AW,<-HP] at n;refine aa ?_;exact⟨aH,aZ,v,⟨aZ,trivial⟩,O,n⟩
  have Q:b<l.length:=AW
  obtain⟨aQ,rfl⟩:=ak.addr;obtain⟨S,U,aS,aT⟩:=P.at_ b Q AW;have aU:N.cell? (aQ.add (b*1))=some (.slice S (k8 m s h (cR m i j))[b].length U):=by
   have:=ak.at b Q 0 (.slice S (k8 m s h (cR m i j))[b].length U) (by show(l[b].1)[0]? = _;rw[aS];rfl)
   rwa[add_zero] at this
  refine aa ?_;refine L_ aU ?_;refine aa ?_;intro V aW aX c W;have X:=n.ext c;have Y:=aT.ext c;have aY:=P.ext c;have a0:=O.size;have a2:=c.size;have cr:(hy m s a++(kl m s a).take b).length<=2*a+2:=by rw[Jv,NU];omega
  have a5:∀d,(Value.slice v.1 v.2.1 v.2.2).ownBlock=some d->∃x,V.heap[d]? = some (.cells x T.n):=λd z=>by
   obtain⟨ct,_,a6,_⟩:=X.ex;exact aR.b0 a6 d z
  have al:∀(a:Nat) (x:Array B_) (p:F_),V.heap[a]? = some (.cells x p)->p=T.b\/p=T.a->(Value.slice v.1 v.2.1 v.2.2).ownBlock=some a->False:=λa x p r t u=>by
   obtain⟨cu,q⟩:=a5 a u;rw[r] at q;injection q with q
   injection q with _ q
   subst q
   revert t;decide
  refine _A (x:=(⟨a,b,(k8 m s h (cR m i j))[b]⟩:j6)) (cs:=[.I a,.I b,.slice S (k8 m s h (cR m i j))[b].length U]) X (gP W)
   (λg B=>⟨_,rfl,gT (aR.mod Y B λd z H=>by
    obtain⟨cv,a7⟩:=aR.b0 Y d z;rcases H with H | H
    .exact al d _ _ a7 (.inr rfl) H
    .have:=(aR.lt Y d z).1
     omega)⟩) rfl (by simp[Value.oneCell']) AW (by unfold maxLen;omega) AW λa9 ba A I=>?_
  have ks:=X.hN (O.trans c) I (Fy _);have bb:=aY.mod (Mod.grown I λa k=>k) λa x p _ r t u=>al a x p r t u;obtain⟨an,ao,rfl,_⟩:=A.form;refine aa ?_;refine⟨Q,aZ,(an,_,ao),⟨rfl,trivial⟩,ks,bb,?_⟩;rw[NZ AW,<-VA,aI b AW AW];exact A
 .have bf:a=(o.refs m).length:=AW
  subst bf;obtain⟨cw,cx,bk,_⟩:=e.form;obtain⟨bn,cB,bo⟩:=ah;cases bk;refine aa ?_;refine I_ (λy=>?_) (λy=>?_)
  .have aq:hy m s (o.refs m).length=[]:=AG1 AW;have Z:eP m s=hy m s (o.refs m).length++[⟨-1,0,s⟩]:=by unfold eP;rw[aq];rfl
   replace e:eo CK T.n 3 w.heap.size C (.slice bn (hy m s (o.refs m).length).length bo) (hy m s (o.refs m).length):=e;have cC:(hy m s (o.refs m).length).length=0:=by rw[aq];rfl
   have bp:=K.ext Flat.ext f;have aJ:=f.size;have cD:cG m<=64:=iq af;have cF:=ab.len;refine aa ?_;refine J_ (Hy _ s C bp (by unfold eO;omega)) ?_;rintro L N ⟨n,dO⟩;obtain⟨br,bt,rfl,_⟩:=(gT n).form;have bu:=aR.new (enc:=da) (λ_=>rfl) n;have bw:=e.ext dO;have a0:=dO.size;refine aa ?_;intro V aW aX c W;have ar:=bw.ext c;have a2:=c.size;refine _A (x:=(⟨-1,0,s⟩:j6)) (cs:=[.I (-1),.I 0,.slice br s.length bt]) ar (gP W)
    (((ei.own (w1:=N) bu e AW).imp λw bx=>⟨_,rfl,bx⟩).ext c λd z k=>by have:=e.under AW d k;omega) rfl (by simp[Value.oneCell']) AW (by unfold maxLen;omega) AW λa9 ba A I=>?_
   have bz:=ar.hN ((f.trans dO).trans c) I (Fy _);obtain⟨an,ao,rfl,_⟩:=A.form;refine aa ?_;exact⟨by rw[Z];exact A,bz⟩
  .have Z:eP m s=hy m s (o.refs m).length:=by
    unfold eP;split
    .rename_i bA;rw[bA] at y;simp at y
    .rfl
   refine aa ?_;exact⟨by rw[Z];exact e,f⟩
theorem abk(cs:C_ B_)(v:B_)(m:o.Model)(s:C_ Int)(w:A_)(h:eu w cs m)(e:m.cS)(f:gZ w)(g:cH w v s) :
  EG F.dV #[.agg cs.toArray,v] w λi j=>((nm m s/\∃b,i = .tuple #[.pointer (some ⟨b,0,none⟩),.bool true]/\qo j b m)\/(¬nm m s/\∃u,i = .tuple #[.pointer u,.bool false]))/\Ext w j:=by
 have k:=h;obtain⟨C,G,H,bg,I,bj,J,K,L,M,rfl,_⟩:=h.form;obtain⟨N,O,rfl,_⟩:=g.form;refine bm E.dV ?_;refine aa ?_;intro x P Q c l;refine aa ?_;refine J_ (ant _ m x (k.ext c) e (f.ext c)) ?_;rintro _ y ⟨z,n⟩;replace l:=n.obj l;have a:=c.trans n;rcases z with ⟨p,rfl⟩ | ⟨p,b,rfl,S,A⟩
 .refine aa ?_;exact⟨.inr ⟨λd=>p d.1,_,aZ⟩,a⟩
 refine aa ?_;refine J_ (VH _ m _ s y (k.ext a) e (f.ext a) (g.ext Flat.ext a)) ?_;rintro _ U ⟨⟨B,rfl,q⟩,r⟩;have t:=a.trans r;cases B with
 | false =>
  refine aa ?_;exact⟨.inr ⟨λd=>(by have:=q.2 d;cases this),_,aZ⟩,t⟩
 | true =>
  refine aa ?_;exact⟨.inl ⟨q.1 rfl,b,aZ,A.ext r⟩,t⟩
def ang(b:Nat)(m:o.Model)(ref:Int)(w:A_)(e:qo w b m) :
  EG F.a6 #[.pointer (some ⟨b,0,none⟩),.I ref] w λf g=>(∃c:Bool,f = .bool c/\(c=true↔0<=ref/\ref<(o.refs m).length))/\Ext w g:=by
 obtain⟨i,j,d⟩:=e;obtain⟨k,l,n,p,q,r,s,t,u,v,x,y,z,bg,A,bj,B,C,G,H,I,J,K,L,rfl,_⟩:=d.form;clear d;refine bm E.a6 ?_;refine aa ?_;refine I_ (λh=>?_) (λh=>?_)
 .refine aa ?_;exact⟨⟨_,aZ,by rw[decide_eq_true_eq];exact⟨λa=>⟨AW,a⟩,λa=>a.2⟩⟩,Ext.refl _⟩
 .refine aa ?_;exact⟨⟨false,aZ,by simp only[Bool.false_eq_true,false_iff];omega⟩,Ext.refl _⟩
def am7(cs:C_ B_)(v:B_)(m:o.Model)(s:C_ Int)(w:A_)(h:eu w cs m)(i:m.cS)(j:gZ w)(d:cH w v s) :
  EG F.d7 #[.agg cs.toArray,v] w λe f=>((nm m s/\eo CK T.n 3 w.heap.size f e (eP m s))\/(¬nm m s/\e = .slice none 0 0))/\Ext w f:=by
 have k:=h;obtain⟨x,y,z,bg,A,bj,B,C,G,H,rfl,_⟩:=h.form;obtain⟨I,J,rfl,_⟩:=d.form;refine bm E.d7 ?_;refine aa ?_;intro l K L b M;refine aa ?_;refine J_ (abk _ _ m s l (k.ext b) i (j.ext b) (d.ext Flat.ext b)) ?_;rintro _ n ⟨p,q⟩;have c:=b.trans q;rcases p with ⟨a,r,rfl,t⟩ | ⟨a,N,rfl⟩
 rotate_left
 .refine aa ?_;exact⟨.inr ⟨a,aZ⟩,c⟩
 refine aa ?_;refine J_ (anr r _ m s n t a.1 (d.ext Flat.ext c) a.2) ?_;rintro e O ⟨g,u⟩;obtain⟨P,Q,rfl,_⟩:=g.form;refine aa ?_;exact⟨.inl ⟨a,eo.low c.size g⟩,c.trans u⟩
end Go.Proofs.R
namespace o
open Go
def cV.enc(x:cV):C_ B_:=[.int .i64 x.cmd,.int .i64 x.eM]
theorem cV.one:∀(a:cV),∀b∈a.enc,b.oneCell'=true:=by
 intro a b c;simp[cV.enc] at c;rcases c with rfl | rfl<;>rfl
def ayP(c:et)(l:C_ ed):1<=ways c l:=by
 unfold ways;split
 .split
  .split<;>omega
  .omega
 .omega
def Aw.end_{m:Model}{s:C_ Int}{x:j6}{q p k:Nat}{c:C_ Int}(h:Aw m s x q p k c):0<=x.eM/\x.eM<ways (cR m p k) m.ay/\(k8 m s q (cR m p k))[x.eM.toNat]? = some x.to:=by
 have e:=ayP (cR m p k) m.ay;unfold k8;rw[h.aaJ];rcases h.ah8 with ⟨a,b⟩ | ⟨a,b,d⟩
 .rw[a,b];exact⟨AW,AW,rfl⟩
 .rw[a,b,d];exact⟨AW,AW,rfl⟩
end o
namespace Go.Proofs.R
open Go Go.RowKit a8 o
attribute [local irreducible] dE bD o.insts o.refs jH fE eP
def amX(cs:C_ B_)(v:B_)(m:o.Model)(s:C_ Int)(x:j6)(q p k:Nat)(t:C_ Int)(w:A_)(h:eu w cs m)(N:m.cS)(O:gZ w)(d:cH w v s)(y:nm m s)(z:Aw m s x q p k t) :
  EG F.ze #[.agg cs.toArray,v,.I x.cmd,.I x.eM] w λA B=>(∃C,A = .tuple #[C,.I 0]/\fe w.heap.size B C x.to)/\Ext w B:=by
 have P:=h;obtain⟨aD,aE,aF,bg,aG,bj,aH,aI,aJ,aK,rfl,_,_,Q,_⟩:=h.form;obtain⟨aM,aP,rfl,_⟩:=d.form;have e:=z.at_;obtain⟨aQ,aS,S⟩:=z.end_;have G:=e.told;refine bm E.ze ?_;refine aa ?_;intro U aT aU b V;refine aa ?_;refine J_ (abk _ _ m s U (P.ext b) N (O.ext b) (d.ext Flat.ext b)) ?_;rintro _ aW ⟨W,H⟩;have X:=b.trans H;rcases W with ⟨_,f,rfl,Y⟩ | ⟨Z,_⟩
 rotate_left
 .exact absurd y Z
 have ab:=H.obj V;refine aa ?_;intro ae g;have aX:=g.obj ab;have i:=Y.ext g;have af:=X.trans g;refine aa ?_;refine J_ (ang f m x.cmd ae i) ?_;rintro _ ag ⟨⟨aY,rfl,ah⟩,a⟩;refine⟨a,?_⟩;have ai:=ah.2 ⟨G.2.1,G.2.2⟩;subst ai;have aj:=af.trans a;refine aa ?_;refine J_ (Ra f m x.cmd q p k ag (i.ext a) e) ?_;rintro _ ak ⟨⟨a0,a2,a5,a6,rfl,a7,al⟩,c⟩;refine⟨a.trans c,?_⟩;have I:=aj.trans c;refine aa ?_;refine J_ (aiA (cR m p k) _ _ _ m.ay ak (al.ext c) (Q.ext I)) ?_;rintro _ an ⟨rfl,J⟩;have j:=I.trans J;have ao:=i.ext ((a.trans c).trans J);refine aa ?_;refine J_ (abA f _ m s x.cmd q p k an ao (d.ext Flat.ext j) y.2 e) ?_;rintro A K ⟨⟨aq,l⟩,ar⟩;have au:=j.trans ar;have n:=aR.iw hs l.row;have a9:=l.len;have av:=n.form;obtain⟨ba,bb,rfl,_⟩:=av;have r:=List.getElem?_eq_some_iff.1 S;obtain⟨aw,r⟩:=r;have ax:=l.at_ x.eM.toNat AW aw;obtain⟨bf,bk,az,aA⟩:=ax;have aB:=n.addr;obtain⟨aC,rfl⟩:=aB;have L:fx K (aC.add (x.eM.toNat*1)) (aq[x.eM.toNat]' AW).1:=a4.at n x.eM.toNat AW;rw[az] at L;have u:=L 0 _ rfl;rw[add_zero] at u;have M:fe w.heap.size K _ _:=aR.low j.size aA;rw[r] at M u;refine aa ?_;refine M_ x.eM.toNat ?_ ?_ ?_
 .omega
 .omega
 refine aa ?_;refine L_ u ?_;refine aa ?_;exact⟨⟨_,aZ,M⟩,au⟩
def avq(b:Nat)(v:B_)(m:o.Model)(c:C_ Int)(x:cV)(w:A_)(h:nQ w b m)(X:m.cS)(Y:gZ w)(r:(o.check m).bN=0)(Z:cH w v c)(y:o.Fits m c) :
  EG F.JS #[.pointer (some ⟨b,0,none⟩),v,.agg x.enc.toArray] w λg n=>((wq m c x=none/\g = .tuple #[.slice none 0 0,.bool false])\/(∃p z A,wq m c x=some p/\g = .tuple #[.slice z p.length A,.bool true]/\cH n (.slice z p.length A) p))/\Ext w n:=by
 have ab:=h;obtain⟨aM,ae,B⟩:=h;obtain⟨af,ag,ah,ai,aj,ak,al,an,ao,aq,aP,aQ,aS,aT,aU,aW,aX,aY,a0,a2,rfl,C,_⟩:=B.ex;clear B;have ar:nm m c:=⟨r,y⟩;unfold wq mK cV.enc;refine bm E.JS ?_;refine aa ?_;intro au a5 a6 i G;have H:=i.obj ae;refine aa ?_;refine _W [.slice af m.scalars.length ag,.slice ah m.vars.length ai,.slice aj m.ay.length ak,.slice al m.procs.length an,.slice ao m.props.length aq] H rfl rfl ?_;refine aa ?_;refine J_ (am7 _ _ m c au (C.ext i) X (Y.ext i) (Z.ext Flat.ext i)) ?_;rintro g I ⟨q,J⟩;have K:a4 3 yL I g (eP m c):=by
  rcases q with ⟨_,h⟩ | ⟨h,_⟩
  .exact h.iw
  .exact absurd ar h
 have L:=K.form;obtain⟨a7,a9,rfl,L⟩:=L;have av:=J.obj G;have aw:=i.trans J;clear q H G C;obtain⟨e,s⟩:∃e:j6->Bool,e=λM=>decide (M.cmd=x.cmd/\M.eM=x.eM):=⟨_,rfl⟩;rw[<-s];refine aa ?_;refine K_ 17 (eP m c).length [0,5,15,16] (λ_:Unit=>[]) () (λa _ n=>((eP m c).drop a).find? e=(eP m c).find? e/\Ext I n) aV aV ⟨rfl,Ext.refl _⟩ ?_;rintro a - ba ax bb ⟨f,j⟩;have N:=j.obj av;have O:=aw.trans j;have t:=a4.ext (R:=yL) (λ_ _ _ _ az h=>yL.ext az h) j K;refine aa ?_;apply I_<;>intro bf;rotate_left
 .rw[VB AW] at f;rw[<-f];refine aa ?_;exact⟨.inl ⟨rfl,aZ⟩,O⟩
 have d:a<(eP m c).length:=AW
 rw[AF9 d,List.find?_cons] at f;have q:=t.addr;obtain⟨aA,rfl⟩:=q;have aB:yL ax (aA.add (a*3)) ((eP m c)[a]'d):=a4.at t a d;obtain⟨bk,aC,P⟩:=aB;have aD:=P.form;obtain⟨bn,bo,rfl,_⟩:=aD;clear t;refine aa ?_;intro aE bp br k bt;have bu:=k.obj N;have Q:=O.trans k;have aF:=Up r y (ID d);have l:e ((eP m c)[a]'d)=true↔((eP m c)[a]'d).cmd=x.cmd/\((eP m c)[a]'d).eM=x.eM:=by rw[s,decide_eq_true_eq]
 have S:e ((eP m c)[a]'d)=true\/e ((eP m c)[a]'d)=false:=by cases e ((eP m c)[a]'d)<;>simp
 replace l:=i_ l trivial;clear N aC s;refine aa ?_;apply I_<;>intro U;rotate_left
 .have u:e ((eP m c)[a]'d)=false:=S.resolve_left λh=>U (l.1.1 h).1;rw[u] at f;refine aa ?_;exact⟨d,aZ,(),trivial,f,j.trans k⟩
 refine aa ?_;apply I_<;>intro V;rotate_left
 .have u:e ((eP m c)[a]'d)=false:=S.resolve_left λh=>V (l.1.1 h).2;rw[u] at f;refine aa ?_;exact⟨d,aZ,(),trivial,f,j.trans k⟩
 have aG:e ((eP m c)[a]'d)=true:=l.1.2 ⟨U,V⟩;rw[aG] at f;rw[<-f];refine aa ?_;refine J_ (N6 b _ m ((eP m c)[a]'d).to aE (ab.ext Q) r (P.ext Flat.ext k) aF) ?_;rintro g bw ⟨W,aH⟩;have aI:=W.form;obtain⟨aJ,aK,rfl,_⟩:=aI;refine aa ?_;exact⟨.inr ⟨_,aJ,aK,rfl,aZ,W⟩,Q.trans aH⟩
def af1(b:Nat)(v x:B_)(m:o.Model)(c:C_ Int)(l:C_ cV)(w:A_)(h:nQ w b m)(I:m.cS)(J:gZ w)(j:(o.check m).bN=0)(y:cH w v c)(K:o.Fits m c)(k:a4 2 (Flat cV.enc) w x l) :
  EG F.eK #[.pointer (some ⟨b,0,none⟩),v,x] w λz i=>((gB m l c=none/\z = .tuple #[.slice none 0 0,.bool false])\/(∃a A B,gB m l c=some a/\o.Fits m a/\z = .tuple #[.slice A a.length B,.bool true]/\cH i (.slice A a.length B) a))/\Ext w i:=by
 obtain⟨L,M,rfl,_⟩:=y.form;obtain⟨ab,ae,rfl,af⟩:=k.form;refine bm E.eK ?_;refine aa ?_;refine K_ 14 l.length [0,2,12,13] (λd:ef=>[(1,.slice d.1 d.2.1 d.2.2)]) (L,c.length,M) (λe d i=>(∃a,gB m (l.drop e) a=gB m l c/\o.Fits m a/\d.2.1=a.length/\cH i (.slice d.1 d.2.1 d.2.2) a)/\Ext w i) aV aV ⟨⟨c,rfl,K,rfl,y⟩,Ext.refl _⟩ ?_;rintro e ⟨N,ag,bg⟩ ah O ai ⟨⟨a,f,n,C,p⟩,q⟩;dsimp only at C p;subst C;have r:=k.ext Flat.ext q;refine aa ?_;apply I_<;>intro aj;rotate_left
 .rw[VB AW] at f;refine aa ?_;exact⟨.inr ⟨a,N,bg,f.symm,n,aZ,p⟩,q⟩
 have g:e<l.length:=AW
 rw[AF9 g,gB] at f;have s:=r.addr;obtain⟨P,rfl⟩:=s;have ak:fx O (P.add (e*2)) [.I (l[e]'g).cmd,.I (l[e]'g).eM]:=a4.at r e g;clear r k;refine aa ?_;intro Q al an G ao;have t:=q.trans G;refine aa ?_;refine J_ (avq b _ m a (l[e]'g) Q (h.ext t) I (J.ext t) j (p.ext Flat.ext G) n) ?_;rintro _ aq ⟨s,S⟩;have H:=t.trans S;rcases s with ⟨U,rfl⟩ | ⟨d2,V,bj,u,rfl,W⟩
 .rw[U] at f;refine aa ?_;exact⟨.inl ⟨f.symm,aZ⟩,H⟩
 .rw[u] at f;have X:o.Fits m d2:=by
   unfold wq at u;obtain⟨ar,Y,Z⟩:=Option.map_eq_some_iff.1 u;rw[<-Z];exact Z4 j (VJ j n Y)
  refine aa ?_;exact⟨g,aZ,(V,_,bj),aV,⟨d2,f,X,rfl,W⟩,H⟩
def tM(b:Nat)(c:A_)(i:Nat):Prop:=b<=i/\∀d a e,c.heap[i]? = some (.cells d a e)->a≠T.a
def tM.low{c:Nat}{A:Nat->Prop}{b d:A_}(m:Mod A b d)(h:∀a,a<b.heap.size->A a->tM c b a):∀a,a<b.heap.size->tM c d a->tM c b a:=λa e f=>by
 by_cases g:A a
 .exact h a e g
 .exact⟨f.1,λi j k l=>f.2 i j k ((m.block a e g).trans l)⟩
def jn(b:Nat)(a:A_)(v:B_)(l:C_ Int):Prop:=gF (tM b a) (λa=>cH a v l) a
def jn.qP{b:Nat}{a:A_}{v:B_}{l:C_ Int}(h:jn b a v l):cH a v l:=gF.here h
def jn.move{b:Nat}{A:Nat->Prop}{a d:A_}{v:B_}{l:C_ Int}(h:jn b a v l)(m:Mod A a d)(e:∀c,c<a.heap.size->A c->tM b a c):jn b d v l:=gF.move h m e (tM.low m e)
theorem jn.ext{a:Nat}{b c:A_}{v:B_}{l:C_ Int}(h:jn a b v l)(e:Ext b c):jn a c v l:=h.move (A:=λ_=>False) e.mod λ_ _ d=>d.elim
def jn.own{b base:Nat}{a:A_}{v:B_}{l:C_ Int}(h:fe base a v l):jn b a v l:=λi c=>gT (aR.mod h c λd e f=>by
 obtain⟨j,g⟩:=aR.b0 h d e;exact f.2 _ _ _ g rfl)
def avb{g:Nat}(b:Nat)(v:B_)(m:o.Model)(s t:C_ Int)(x:cV)(w:A_)(h:nQ w b m)(aE:m.cS)(aF:gZ w)(a:(o.check m).bN=0)(A:jn g w v s)(bN:g<=w.heap.size)(c:o.Fits m s)(aG:mK m (fj m s) x=some t) :
  EG F.JU #[.pointer (some ⟨b,0,none⟩),v,.agg x.enc.toArray] w λd B=>(∃C G,d = .tuple #[.agg #[.I (k6 m s x).cmd,.I (k6 m s x).eM],.slice C (p9 m s (k6 m s x)).length G]/\jn g B (.slice C (p9 m s (k6 m s x)).length G) (p9 m s (k6 m s x)))/\Ext w B:=by
 have i:=A.qP;have H:=h;obtain⟨bO,I,J⟩:=h;obtain⟨aH,aI,aJ,aK,aM,aP,aQ,aS,aT,aU,bP,bR,bV,bW,bX,bY,bZ,b0,b1,b3,rfl,aW,_⟩:=J.ex;clear J;obtain⟨aX,aY,rfl,b4⟩:=i.form;have a0:=ko a;have a2:nm m s:=⟨a,c⟩;have a5:=Qi a c aG;obtain⟨d,K,L,b5,b6,b8,a6⟩:=a5;obtain⟨M,b9⟩:=Qz a c.len;unfold cV.enc;refine bm E.JU ?_;refine aa ?_;intro cb cc ch N j;refine aa ?_;intro cj ck cm k O;have P:=k.obj j;have l:=N.trans k;have cp:=N.size;have cq:=k.size;have cr:=ca j;have ct:=ca I;clear j;refine aa ?_;apply I_<;>intro Q
 .have n:k6 m s x=x:=by unfold k6;rw[if_pos Q]
  have a7:p9 m s x=s:=by unfold p9;rw[if_pos Q]
  rw[n,a7];refine aa ?_;intro S U cu;refine aa ?_;exact⟨⟨aX,aY,aZ,A.ext (U.ext l AW)⟩,U.ext l AW⟩
 have p:=a6 AW;obtain⟨a9,V,cv,W,cw,X,n⟩:=p;have ba:=X.g;rw[n] at K L ⊢;have bb:0<=x.cmd/\x.cmd<(o.refs m).length:=by
  obtain⟨cx,_⟩:=X.at_;omega
 refine aa ?_;intro S q;have Y:=q.obj P;have Z:=q.obj O;have r:=l.trans q;refine aa ?_;refine J_ (avc b _ m s S (H.ext r) a (i.ext Flat.ext r) c) ?_;rintro bf bk ⟨bn,u⟩;refine⟨u,?_⟩;have bo:=r.trans u;refine aa ?_;refine J_ (ava bf m.scalars _ bk a0 M bn) ?_;rintro ab ae ⟨bp,af⟩;have br:hB ae ab (l3 (vx m s)):=bp.iw;have ag:=u.trans af;refine⟨ag,?_⟩;have ah:=bo.trans af;refine aa ?_;refine J_ (agd b ab m (l3 (vx m s)) x.cmd ae (H.ext ah) a (xX M) br) ?_;rintro _ cB ⟨p,ai⟩;rcases p with ⟨bt,_⟩ | ⟨_,rfl⟩
 .exact absurd bb bt
 have bu:=ah.trans ai;have aj:=ag.trans ai;have bw:=aj.obj Y;have ak:=aj.obj Z;rw[show Ab m (gI (l3 (vx m s))) x.cmd.toNat=(a9:Int) from ba];refine aa ?_;intro cC al an;have ao:=al.ext bu AW;have aq:=al.obj ak AW;have ar:=ao.obj I;clear P O Y Z bw ak;obtain⟨au,bx,av,aw,bz⟩:=VK K;simp only at av aw;have bA:∃V W bB d,Aw m s au V W bB d:=by
  rcases Uq a bx with ⟨ax,_,_⟩ | ax
  .omega
  .exact ax
 obtain⟨bC,bE,bF,bG,bH⟩:=bA;refine aa ?_;intro bI e;have f:=ao.trans e;have az:=e.obj an;have y:=e.obj aq;have aA:=e.obj ar;clear an aq ar;refine aa ?_;refine _W [.slice aH m.scalars.length aI,.slice aJ m.vars.length aK,.slice aM m.ay.length aP,.slice aQ m.procs.length aS,.slice aT m.props.length aU] aA rfl rfl ?_;refine aa ?_;have aB:=amX _ _ m s au bC bE bF bG bI (aW.ext f) aE (aF.ext f) (i.ext Flat.ext f) a2 bH;rw[av,aw,bz] at aB;refine J_ aB ?_;rintro _ cD ⟨⟨cF,rfl,aC⟩,z⟩;have bJ:=ca y;have bK:=(gT aC).form;obtain⟨cI,cJ,rfl,_⟩:=bK;have bL:=f.trans z;have cL:=z.obj az;have cM:=z.obj y;clear az y aA;rw[L];refine aa ?_;intro cN aD cO;have bM:=aD.ext bL AW;refine aa ?_;exact⟨⟨_,_,aZ,jn.own (aR.wr aD bJ aC)⟩,bM⟩
end Go.Proofs.R
namespace a8
open Go Go.RowKit
section
variable{P:Program}{S:Fr}{w:World}
def gl.awT{α:Type}{enc:α->B_}{g:G_}{p:Nat}{a b:fg}{Q:H_ Nat->fG->Fr->A_->Prop}{j:Nat}{n:Array B_}{gY:A_->A_->Prop}{q u:C_ α->Prop}{r:Nat}{w0:A_}
  (y:bq S g = .func (.func j) #[] n)(z:okF P j=true)(A:SeqStopsK Fence.wide 0 P j n (λe=>#[enc e]) gY q u r w0)(B:Ext w0 w)(C:At gY w.heap.size)
  (cE k:C_ α->A_->Prop)(G:OwnFrom w.heap.size cE)(H:OwnFrom w.heap.size k)(I:cE [] w)
  (J:∀pre e c,cE pre c->pre.length<r->fa P a (j4 (λv g0=>KeepsFrom w.heap.size c g0/\gY c g0/\∀eT,wT w.heap.size g0 eT ->
   fa P b (j4 (λ_ f=>KeepsFrom w.heap.size eT f/\gY eT f/\cE (pre++[e]) f) (λd _ f=>d = .ret/\KeepsFrom w.heap.size eT f/\k (pre++[e]) f) ⟨⟩) v eT ⟨⟩) (λ_ _ _=>False) ⟨⟩) (cz S p (enc e)) c ⟨⟩)
  (K:∀D h c,w.heap.size<=D->q h->cE h c->c.heap[D]? = some (.deferred (some []))->Q (some D) .normal S c)
  (L:∀D h c,w.heap.size<=D->k h c->c.heap[D]? = some (.deferred (some []))->Q (some D) .ret S c):q2 P (.sP g p a b) Q S w:=by
 refine⟨α,enc,j,n,0,True,gY,λ_ _=>True,q,u,r,w0,y,z,yT.of A,AG2 _,B,C,cE,λd h c=>d = .ret/\k h c,G,λd M N O U x V s=>⟨x.1,H M N O U x.2 V s⟩,λ_ _ _ _=>trivial,I,λpre e c t _ W=>?_,K,λD d pre c _ X _ l Y=>?_⟩
 .have l:=J pre e c t W;unfold fa j4 at l;refine rW a _ _ _ c (λd v g0 _ m=>?_) l;cases d with
  | normal =>
   obtain⟨Z,ab,ae⟩:=m;refine⟨Z,ab,λeT s=>?_⟩;have af:=ae eT s;refine rW b _ _ _ eT (λd ag jd _ i=>?_) af;cases d with
   | normal=>exact i
   | exit _=>exact absurd i.1 Ah
   | ret=>exact⟨i.2.1,rfl,i.2.2⟩
   | ib _=>exact absurd i.1 Ah
  | exit _=>exact m.elim
  | ret=>exact m.elim
  | ib _=>exact m.elim
 .obtain⟨rfl,t⟩:=l;exact L D pre c X t Y
end
end a8
namespace a8
open Go Go.RowKit
def HD{A B:A_}{row:H_ Nat}{e k:Nat}{c:Array B_}{t:F_}(f:A.grownBy B row)(g:∀b,row=some b->e<=b/\∃d:Obj,A.heap[b]? = some d/\d.isCells=false)(h:A.heap[k]? = some (.cells c t)):B.heap[k]? = some (.cells c t) :=
 (f.block k (ca h) λi=>by
  obtain⟨d,a,j⟩:=(g k i.symm).2;rw[h] at a;injection a with a
  subst a;cases j).trans h
end a8
namespace Go.Proofs.R
open Go Go.RowKit a8
def awa(n:Nat)(w:A_):EG F.cX #[.I n] w λc a=>(∃b,c = .func (.func F.z) #[] #[.pointer (some ⟨b,0,none⟩)]/\a.heap[b]? = some (.cells #[.I n] T.a))/\Ext w a:=by
 refine bm E.cX ?_;refine aa ?_;intro g d h e f;refine aa ?_;exact⟨⟨d,rfl,f⟩,e⟩
def ajJ(n:Nat)(w:A_):EG F.yW #[.I n] w λc a=>(∃b,c = .func (.func F.u) #[] #[.pointer (some ⟨b,0,none⟩)]/\a.heap[b]? = some (.cells #[.I n] T.a))/\Ext w a:=by
 refine bm E.yW ?_;refine aa ?_;intro g d h e f;refine aa ?_;exact⟨⟨d,rfl,f⟩,e⟩
abbrev sZ(n:Nat):={a:Nat // a<o.dA n}
def awb{w0:A_}{b n n0:Nat}{tys:C_ F_}(p:w0.heap[b]? = some (.cells #[.I n] T.a))(q:n<=4) :
  SeqStopsK Fence.wide 0 Tryz.prog F.z #[.pointer (some ⟨b,0,none⟩)] (λa:sZ n=>#[.I a.1]) (qj n0 tys) (λe=>e.map (·.1)=List.range (o.dA n)) (λ_=>True) (o.dA n) w0:=by
 intro r f s j t u L v x;have y:∀k,k<=4->o.dA k<=24:=Ae
 have M:=y n q;have N:=Ext.obj (w:=w0) t p;refine callsIn_wide.2 (Calls.mono (show EG F.z #[.func (.yield r) #[] #[],.pointer (some ⟨b,0,none⟩)] j (λ_ g=>(∃e:C_ (sZ n),e.map (·.1)=List.range (o.dA n)/\f e g)\/(∃pre:C_ (sZ n),True/\s pre g)) from ?_) λd g ⟨z,A,B⟩=>⟨⟨z,A⟩,B⟩);have C:∀{pre:C_ (sZ n)} {w c:A_},f pre w->Ext w c->f pre c:=λ{pre w c} G d=>u pre w c none G d.Rr (λO d=>by cases d);refine bm E.z ?_;refine aa ?_;refine J_ (Um n j AW) ?_;rintro _ P ⟨rfl,H⟩;have I:=C x H;refine aa ?_;refine K_ 6 (o.dA n) [0,5] (λ_:C_ (sZ n)=>[]) [] (λa pre c=>pre.map (·.1)=List.range a/\f pre c) aV aV ⟨rfl,I⟩ ?_;rintro a pre Q J S ⟨h,l⟩;have U:pre.length=a:=by rw[<-AG7 (f:=(·.1)),h,List.length_range]
 refine aa ?_;refine I_ (λK=>?_) (λK=>?_)
 .have m:a<o.dA n:=AW
  refine aa ?_;refine _v (v pre ⟨a,m⟩ J l AW) ?_;rintro d V (⟨rfl,i,W⟩ | ⟨rfl,i⟩)
  .refine⟨.bool true,rfl,?_⟩;refine aa ?_;exact⟨m,aZ,_,trivial,by rw[AF8,h,AI5];rfl,i⟩
  .refine⟨.bool false,rfl,?_⟩;refine aa ?_;exact .inr ⟨_,trivial,i⟩
 .have:a=o.dA n:=AW
  subst this;refine aa ?_;exact .inl ⟨_,h,l⟩
def XE(n0:Nat)(c:C_ F_)(B1:Nat)(a b:A_):Prop:=qj n0 c a b/\KeepsFrom B1 a b
def ajK{w0:A_}{b n n0 B1:Nat}(B:w0.heap[b]? = some (.cells #[.I n] T.a))(r:n<=4)(aU:n0<=w0.heap.size) :
  yT Tryz.prog F.u #[.pointer (some ⟨b,0,none⟩)] (λd:sZ n×ef=>.slice d.2.1 d.2.2.1 d.2.2.2) B1 False (XE n0 [T.a,T.pE] B1) (λd C=>fe w0.heap.size C (.slice d.2.1 d.2.2.1 d.2.2.2) (o.m6 n d.1.1)) (λc=>c.map (·.1.1)=List.range (o.dA n)) (λ_=>True) (o.dA n) w0:=by
 intro P j ai C Q aW s aX aj ak;have S:=Ext.obj (w:=w0) Q B;have aY:=Q.size;refine callsIn_wide.2 (Calls.mono (show EG F.u #[.func (.yield P) #[] #[],.pointer (some ⟨b,0,none⟩)] C (λ_ f=>(∃c:C_ (sZ n×ef),c.map (·.1.1)=List.range (o.dA n)/\j c f)\/(∃pre:C_ (sZ n×ef),True/\ai pre f)) from ?_) λa f ⟨al,an,U⟩=>⟨⟨al,an⟩,U⟩);have V:∀{pre:C_ (sZ n×ef)} {w t:A_},j pre w->Ext w t->j pre t:=λ{pre w t} g a=>s pre w t none g a.Rr (λe a=>by cases a);refine gl.start kB yD.u (args:=[_,_]) (Nat.le_of_ble_eq_true rfl) ?_;dsimp only[D.u,aO,bQ,h3,cl,na,c6,fr,hH,cK,aL,dn,fp,dD,gO,ys,gg,dk,hA,yy,gX,mh,qd,om,b2,iA,m9,sV,EX,Ap,qc,oj,oi,EY,Aq,nL,List.map_cons,List.map_nil];refine gl.h1 ?_;refine aa ?_;intro ao W a0 G X;have Y:=G.obj S;have a2:=G.size;refine aa ?_;refine gl.h1 ?_;refine aa ?_;refine gl.h1 ?_;refine aa ?_;refine J_ (awa n ao) ?_;rintro _ Z ⟨⟨a5,rfl,aq⟩,u⟩;have ar:=u.obj Y;have au:=u.obj X;have a6:=u.size;have av:=V ak (G.trans u);clear Y X S;simp -dsimp only[c8,cA,Nat.reduceAdd,Nat.reduceEqDiff,reduceIte,reduceCtorEq,dq];refine gl.b0 (gl.awT (w0:=Z) (enc:=λk:sZ n=>.I k.1) (by simp[dy,bS]) Cg (awb (n0:=n0) (tys:=[T.a,T.pE]) aq r) (Ext.refl _) (qj.ok _ AW)
  (λpre f => ∃c:C_ (sZ n×ef),c.map (·.1)=pre/\j c f/\f.heap[b]? = some (.cells #[.I n] T.a)/\f.heap[W]? = some (.cells #[.func (.yield P) #[] #[]] T.pE)/\w0.heap.size<=f.heap.size) (λ_ _=>False) ?_ (λ_ _ _ _ H _ _=>H.elim) ⟨[],rfl,av,ar,au,AW⟩ ?_ ?_ ?_)
 .rintro pre aw ax row ⟨c,a,g,v,x,I⟩ y z;exact⟨c,a,s c aw ax row g y λe a=>⟨by have:=(z e a).1;omega,(z e a).2⟩,HD y z v,HD y z x,T6 I y.size⟩
 .rintro pre d jd ⟨c,a,g,v,x,I⟩ a7;refine eC ?_;refine⟨(Ext.refl _).keeps _,(Ext.refl _).ia AW,λo2 az=>?_⟩;obtain⟨ab,aA,⟨h,A,aB⟩,l⟩:=az;have m:∀e,some ab=some e->Z.heap.size<=e/\∃h:Obj,jd.heap[e]? = some h/\h.isCells=false:=λe a=>by cases a;exact⟨aA,h,A,aB⟩
  have aC:j c o2:=s c jd o2 (some ab) g l λe a=>⟨by have:=(m e a).1;omega,(m e a).2⟩;have aD:=HD l m v;have aE:=HD l m x;have a9:=T6 I l.size;clear v x g l m A;have ba:c.length=pre.length:=by rw[<-a,AG7]
  refine aa ?_;intro aF p;have aG:=p.obj aD;have aH:=p.obj aE;have bb:=p.size;refine aa ?_;refine J_ (ayq n d.1 aF r d.2) ?_;rintro bf ae ⟨af,i⟩;have aI:=af.form;obtain⟨J,K,rfl,_⟩:=aI;refine⟨i,?_⟩;have aJ:=V aC (p.trans i);have ag:=i.obj aG;have ah:=i.obj aH;have bk:=i.size;have aK:fe w0.heap.size ae (.slice J (o.m6 n d.1).length K) (o.m6 n d.1):=aR.low AW af;refine aa ?_;refine _v (aj c (d,(J,(o.m6 n d.1).length,K)) ae aJ aK AW) ?_;rintro U bn (⟨rfl,aM,L,M⟩ | ⟨r,_⟩)
  .refine⟨.bool true,rfl,?_⟩;have N:=p.trans i;refine aa ?_;refine⟨⟨T6 N.size M.size,λk h aP A B=>M.same k h AW (N.obj A) B⟩,(qj.ok (B:=n0) _ (Fy _)).trans (N.ia AW) L,c++[(d,(J,(o.m6 n d.1).length,K))],by rw[AF8,a];rfl,aM,(L.2 b _ _ _ ag Ah).trans ag,(L.2 W _ _ _ ah Ah).trans ah,by have:=M.size;omega⟩
  .exact r.elim
 .rintro D pre j7 aQ aS ⟨c,a,g,_⟩ O;unfold w4 AM;have q:=dY.fZ j7 D (.deferred none);exact⟨O,.inl ⟨c,by rw[<-aS,<-a,List.map_map];rfl,s c j7 _ (some D) g ⟨q.os,q.tape,q.output,by rw[q.size];exact Fy _,λk aP aT=>q.block k λa=>aT (by rw[a])⟩ λe a=>by cases a;exact⟨AW,_,O,rfl⟩⟩⟩
 .rintro D pre j7 aQ H O;exact H.elim
def mL(n0 b:Nat)(c:A_)(i:Nat):Prop:=i<n0\/(b<=i/\∀d a e,c.heap[i]? = some (.cells d a e)->a≠T.a/\a≠T.b)
def mL.low{n0 c:Nat}{A:Nat->Prop}{b e:A_}(m:Mod A b e)(h:∀a,a<b.heap.size->A a->mL n0 c b a):∀a,a<b.heap.size->mL n0 c e a->mL n0 c b a:=λa f d=>by
 rcases d with d | ⟨i,j⟩
 .exact .inl d
 .by_cases g:A a
  .exact h a f g
  .exact .inr ⟨i,λk l n p=>j k l n ((m.block a f g).trans p)⟩
def mL.own{α:Type}{enc:α->C_ B_}{e:F_}{sz base n0 c:Nat}{d:A_}{v:B_}{xs:C_ α}(h:aR enc e sz base d v xs)(g:c<=base)(i:e≠T.a/\e≠T.b):∀b,v.ownBlock=some b->mL n0 c d b:=λb f=>by
 obtain⟨k,j⟩:=h.b0 b f;refine .inr ⟨T6 g (h.lt b f).1,λl m n a=>?_⟩;rw[j] at a;injection a with a
 injection a with _ a
 subst a;exact i
def mL.not{α:Type}{enc:α->C_ B_}{e:F_}{sz base n0 g:Nat}{d:A_}{v:B_}{xs:C_ α}(h:aR enc e sz base d v xs)(j:n0<=base)(a:e=T.a\/e=T.b):∀b,v.ownBlock=some b->¬mL n0 g d b:=λb f c=>by
 obtain⟨k,i⟩:=h.b0 b f;rcases c with c | ⟨_,c⟩
 .have:=(h.lt b f).1
  omega
 .have:=c _ _ _ i
  rcases a with a | a
  .exact this.1 a
  .exact this.2 a
structure o0(e:TypeId)(n0 cC base:Nat)(W:World)(v:Value)(Q:List (List (List Int))):Prop where
 ex:∃bL:List (hp 1),bL.length=Q.length/\ng e 1 base W v bL/\∀i (I:i<bL.length) (U:i<Q.length),∃u,bL[i].1=[u]/\np (mL n0 cC W) W u Q[i]
def o0.nil(e:F_)(n0 a base:Nat)(b:A_):o0 e n0 a base b (.slice none 0 0) []:=⟨[],rfl,aR.nil _ _ _ _ _,λd c=>by cases c⟩
def o0.form{e:F_}{n0 c base:Nat}{d:A_}{v:B_}{Q:C_ (C_ (C_ Int))}(h:o0 e n0 c base d v Q):∃b a,v = .slice b Q.length a/\Q.length<=a/\a<=maxLen:=by
 obtain⟨k,f,g,_⟩:=h.ex;obtain⟨b,a,i,l,j⟩:=g.form;exact⟨b,a,by rw[i,f],AW,j⟩
def o0.move{e:F_}{n0 d base:Nat}{A:Nat->Prop}{b f:A_}{v:B_}{Q:C_ (C_ (C_ Int))}(h:o0 e n0 d base b v Q)(m:Mod A b f)(g:∀a,a<b.heap.size->A a->mL n0 d b a)(i:∀c,v.ownBlock=some c->¬A c):o0 e n0 d base f v Q:=by
 obtain⟨j,k,l,n⟩:=h.ex;exact⟨j,k,l.mod m i,λa p q=>let ⟨r,e,c⟩:=n a p q; ⟨r,e,c.move m g (mL.low m g)⟩⟩
theorem o0.ext{e:F_}{n0 b base:Nat}{c d:A_}{v:B_}{Q:C_ (C_ (C_ Int))}(h:o0 e n0 b base c v Q)(m:Ext c d):o0 e n0 b base d v Q:=h.move (A:=λ_=>False) m.mod (λ_ _ a=>a.elim) λ_ _ a=>a
def o0.OM{e:F_}{n0 f base:Nat}{c:A_}{v:B_}{Q:C_ (C_ (C_ Int))}(h:o0 e n0 f base c v Q)(r:n0<=base):r8 (λa=>a<n0) c v Q:=by
 obtain⟨g,i,d,j⟩:=h.ex;refine⟨g,i,λc k=>(d.mod k λa l b=>?_).iw hs,λm n p=>let ⟨q,e,a⟩:=j m n p; ⟨q,e,a.move (A:=λ_=>False) (Mod.refl _ _) (λ_ _ b=>b.elim) λ_ _ b=>.inl b⟩⟩
 have:=d.lt a l
 omega
def _root_.a8.K.ajO{P:D_}{q:B_->A_->Prop}{e:F_}{n0 f base:Nat}{w:A_}{v:B_}{Q:C_ (C_ (C_ Int))}{C:F_}{b r:Nat}{c:B_}{g:C_ (C_ Int)}{t}(G:o0 e n0 f base w v Q)(H:w.heap[r]? = some (.cells #[c] e))(I:np (mL n0 f w) w c g)(h:c.oneCell'=true)
  (J:(Q.length+1)*b<=140737488355328)(K:Q.length+1<=maxLen)(L:base<=w.heap.size)(M:f<=base)(N:e≠T.a/\e≠T.b)
  (l:∀i d,o0 e n0 f base d i (Q++[g])->w.grownBy d v.ownBlock->q i d):lQ P C e 1 b v (.slice (some ⟨r,0,none⟩) 1 1) w q t:=by
 obtain⟨j,m,s,O⟩:=G.ex;refine _J (enc:=iO) (ys:=[(⟨[c],rfl,by simpa using h⟩:hp 1)]) s hs (by simpa[iO] using gP H) rfl rp (by rw[m];exact J) (by rw[m];exact K) L λi d S u X=>l i d ⟨j++[⟨[c],rfl,by simpa using h⟩],by simp[m],S,λa h U=>?_⟩ u;have x:Mod (λy=>v.ownBlock=some y) w d:=Mod.grown u λy l=>l;have z:∀a,a<w.heap.size->v.ownBlock=some a->mL n0 f w a:=λa _ k=>mL.own s M N a k;have A:∀{c g},np (mL n0 f w) w c g->np (mL n0 f d) d c g:=λV=>V.move x z (mL.low x z);rw[Jv] at h U;by_cases k:a<j.length
 .have B:a<Q.length:=AW
  obtain⟨W,n,p⟩:=O a k B;exact⟨W,by simpa[List.getElem_append,k] using n,by simpa[List.getElem_append,B] using A p⟩
 .have n:a=j.length:=by simp at h;omega
  subst n;have p:¬j.length<Q.length:=AW
  exact⟨c,Ah,by simpa[List.getElem_append,p] using A I⟩
def asN{n0 B:Nat}(cU:C_ F_)(h:n0<=B):At (XE n0 cU (B+2)) B where
 trans h k:=⟨(qj.ok (B:=n0) cU (Fy _)).trans h.1 k.1,⟨T6 h.2.size k.2.size,λi af ab aM ag=>k.2.same i af ab (h.2.same i af ab aM ag) ag⟩⟩
 put W l af o' ax nC aM ag:=⟨(qj.ok (B:=B) cU h).put W l af o' ax nC aM ag,⟨by simp[World.putObj],λk p J aC _=>(World.putObj_heap_other AW).trans aC⟩⟩
def wx(n:Nat)(R:C_ (C_ (C_ Int)))(l:C_ Nat):C_ (C_ (C_ Int)):=l.flatMap λa=>R.map λb=>o.m6 n a :: b
theorem afQ(n:Nat)(R:C_ (C_ (C_ Int))):∀a,(wx n R a).length=a.length*R.length
 | []=>by simp[wx]
 | b :: a=>by
  have:=afQ n R a
  unfold wx at this ⊢;rw[AJ5,Jv,this,AG7,AH3,Nat.succ_mul,AK9]
theorem aaf:∀(a:C_ o.Scalar),o.pD a->(o.kI (o.j3 a)).length<=24 ^ a.length
 | [],_=>by simp[o.j3,o.kI]
 | b :: a,c=>by
  have e:∀d,d<=4->o.dA d<=24:=Ae
  have j:=c.2 b (AG3 ..);have f:=aaf a ⟨by have:=c.1;simp at this;omega,λg h=>c.2 g (AG6 _ h)⟩;have i:(o.kI (o.j3 (b :: a))).length=o.dA b.size.toNat*(o.kI (o.j3 a)).length:=by
   simp only[o.j3,List.map_cons,o.kI,List.length_flatMap,List.length_map];rw[List.map_const',List.sum_replicate_nat];simp[o.hF]
  rw[i,AH3,Nat.pow_succ,AK1 (24 ^ _)];exact AI0 (e _ AW) f
attribute [local irreducible] o.kI
theorem af3:∀(k:C_ o.Scalar) (v:B_) (i:A_),o.hC i v k->o.pD k->EG F.j #[v] i λaq a5=>r8 (λe=>e<i.heap.size) a5 aq (o.kI (o.j3 k))/\Ext i a5
 | [],v,i,w,N=>by
  obtain⟨b0,b1,rfl,_⟩:=w.form;refine gl.start kB yD.j (args:=[_]) (Nat.le_of_ble_eq_true rfl) ?_;dsimp only[D.j,aO,bQ,h3,cl,na,c6,fr,hH,cK,aL,dn,fp,dD,gO,ys,gg,dk,hA,yy,gX,mh,qd,om,b2,iA,m9,sV,EX,Ap,qc,oj,oi,EY,Aq,nL,List.map_cons,List.map_nil];refine gl.h1 ?_;refine aa ?_;refine gl.h1 ?_;refine aa ?_;refine _M Ah ?_;refine aa ?_;intro p b3 b4 C b5;refine aa ?_;intro b6 dt du O P;have b8:=C.size;refine aa ?_;refine gl.amt ?_;refine aa ?_;refine⟨?_,C.trans O⟩;have b9:o.kI (o.j3 [])=[[]]:=by unfold o.kI o.j3;rfl
  rw[b9];exact⟨[⟨[.slice (some ⟨b3,0,none⟩) 0 0],rfl,by simp[Value.oneCell']⟩],rfl,λn j=>a4.b0 (enc:=iO) hs (j.obj (λd=>AW) P) rfl (by simp[maxLen]) λ_ _ _ w=>w,λh Q m=>by
   obtain rfl:h=0:=by simp at Q;omega
   exact⟨_,rfl,[],rfl,λn j=>((aR.empty (enc:=iO) (e:=T.b) (sz:=1) (base:=i.heap.size) b4 (O.obj b5)).mod j λe a d=>by simp only[Value.ownBlock,Option.some.injEq] at a;omega).iw hs,λh w=>by cases w⟩⟩
 | x :: k,v,i,w,N=>by
  have ar:o.pD k:=⟨by have:=N.1;simp at this;omega,λau av=>N.2 au (AG6 _ av)⟩;have dv:=N.2 x (AG3 ..);have cb:=aaf k ar;have cc:k.length<=1:=by have:=N.1;simp at this;omega
  have a6:(o.kI (o.j3 k)).length<=24:=T6 cb (by rcases(show k.length=0\/k.length=1 by omega) with c | c<;>rw[c]<;>decide);obtain⟨g,aw⟩:∃g,g=x.size.toNat:=⟨_,rfl⟩;have ch:x.size=(g:Int):=AW
  have cj:∀h,h<=4->o.dA h<=24:=Ae
  have dw:=cj g AW;obtain⟨b0,b1,rfl,_⟩:=w.form;refine gl.start kB yD.j (args:=[_]) (Nat.le_of_ble_eq_true rfl) ?_;dsimp only[D.j,aO,bQ,h3,cl,na,c6,fr,hH,cK,aL,dn,fp,dD,gO,ys,gg,dk,hA,yy,gX,mh,qd,om,b2,iA,m9,sV,EX,Ap,qc,oj,oi,EY,Aq,nL,List.map_cons,List.map_nil];refine gl.h1 ?_;refine aa ?_;refine gl.h1 ?_;refine aa ?_;refine _N (by simp only[List.length_cons];omega) ?_;refine aa ?_;refine gl.h1 ?_;refine aa ?_;refine _e (k:=.i64) 1 w rfl Ah λa7 f ck=>?_;refine aa ?_;refine J_ (af3 k _ i (by simpa using ck) ar) ?_;rintro dx p ⟨ax,C⟩;have cm:=ax.A2.form;obtain⟨dz,dB,rfl,_⟩:=cm;obtain⟨R,S⟩:∃R,R=o.kI (o.j3 k):=⟨_,rfl⟩;rw[<-S] at ax a6;have cp:o.kI (o.j3 (x :: k))=wx g R (List.range (o.dA g)):=by
   unfold o.kI o.j3;simp only[List.map_cons];rw[S,aw];unfold wx o.hF;rw[List.flatMap_map];rfl
  have b8:=C.size;refine aa ?_;rw[<-S];intro dC dF cq a9 cr;refine aa ?_;intro b6 ba P;have O:=ba.ext a9 cq;have dG:=O.size;have dJ:=ca P;refine gl.h1 ?_;refine aa ?_;intro ct q dK az aA;have bb:=az.obj P;have dL:=az.size;refine aa ?_;refine gl.va (gl.h1 ?_);have aB:=O.trans az;have aC:=a4.ext o.jM.ext (C.trans aB) w;have cu:=aC.addr Ah;obtain⟨dN,rfl⟩:=cu;have dP:=ca aA;refine aa ?_;refine M_ 0 rfl Ah ?_;refine aa ?_;refine _L (i:=0) (j:=1) (v:=.I x.size) aC (Ext.refl _) Ah rfl ?_;rw[ch];refine aa ?_;refine J_ (ajJ g ct) ?_;rintro _ r ⟨⟨dQ,rfl,aD⟩,U⟩;have bf:=U.obj bb;have bk:=U.obj aA;have dR:=U.size;have cv:Ext p r:=aB.trans U;have dS:=ca aD;clear P bb aA cr ba a9 aC;simp -dsimp only[c8,cA,Nat.reduceAdd,Nat.reduceEqDiff,reduceIte,reduceCtorEq,dq];refine gl.b0 (gl.agW (w0:=r) (enc:=λx:sZ g×ef=>.slice x.2.1 x.2.2.1 x.2.2.2) (by simp[dy,bS]) Cg (ajK (n0:=i.heap.size) (B1:=r.heap.size+2) aD AW AW) (Fy _) (Ext.refl _) (asN _ AW)
   (λpre n=>(∃s e f,n.heap[q]? = some (.cells #[.slice s e f] T.x)/\o0 T.k i.heap.size p.heap.size r.heap.size n (.slice s e f) (wx g R (pre.map (·.1.1))))/\Mod (λe=>e∈[q]) r n) ?_ ⟨⟨none,0,0,bk,o0.nil _ _ _ _ _⟩,Mod.refl _ _⟩ ?_ ?_)
  .rintro pre cw cx row ⟨⟨s,e,f,G,t⟩,j⟩ bn Z;have bo:Mod (λe=>row=some e) cw cx:=Mod.grown bn λe c=>c;refine⟨⟨s,e,f,HD bn Z G,t.move bo (λh B c=>?_) λz a c=>?_⟩,j.comp bo (λ_ _ d=>d) λh B c=>?_⟩
   .obtain⟨Q,a7,m,aE⟩:=Z h c;exact .inr ⟨AW,λf H I a=>by rw[a] at m;injection m with m;subst m;cases aE⟩
   .obtain⟨bp,_,cB,_⟩:=t.ex;obtain⟨J,b⟩:=cB.b0 z a;obtain⟨Q,a7,m,aE⟩:=Z z c;rw[b] at m;injection m with m;subst m;cases aE
   .have:=(Z h c).1
    omega
  .rintro pre ⟨ab,op,ae,af⟩ n ⟨⟨s,e,f,G,t⟩,j⟩ ag dT;dsimp only at ag;have aL:=j.size;refine eC ?_;refine⟨(Ext.refl _).keeps _,⟨(Ext.refl _).ia AW,(Ext.refl _).keeps _⟩,λeT aF=>?_⟩;obtain⟨dV,dW,ah,ai⟩:=aF.mod;have aG:=aF.cells G;have V:=t.ex;obtain⟨dX,_,br,_⟩:=V;have bt:=t.move ai (λh B c=>.inr ⟨AW,λf H I a=>absurd a (by subst c;exact ah f H I)⟩) λz a c=>by
    obtain⟨J,b⟩:=br.b0 z a;subst c;exact ah _ _ _ b
   have bu:=aR.mod ag ai λz a c=>by
    obtain⟨J,b⟩:=aR.b0 ag z a;subst c;exact ah _ _ _ b
   have aj:Mod (λe=>e∈[q]) r eT:=j.comp ai (λ_ _ d=>d) λh B c=>AW
   have cC:Ext p eT:=aj.ext cv λe a d=>by simp at d;omega
   have dZ:=aj.obj (by simp;omega) bf;have ea:=aj.size;have cD:=ax.ex;obtain⟨bp,eb,bw,bx⟩:=cD;have aH:=bw.here;clear t ag ai G ah br j aF aD bk bf;refine aa ?_;refine K_ 24 R.length [4,5,22,23] (λ_:Unit=>[]) () (λy _ aI=>(∃s bz f,aI.heap[q]? = some (.cells #[.slice s bz f] T.x)/\o0 T.k i.heap.size p.heap.size r.heap.size aI (.slice s bz f) (wx g R (pre.map (·.1.1))++(R.take y).map λaJ=>o.m6 g ab.1 :: aJ))/\e4 r.heap.size [q] [T.k] eT aI) aV aV ⟨⟨s,e,f,aG,by simpa using bt⟩,(Ext.refl _).w7⟩ ?_;clear bt;rintro y - eg jd eh ⟨⟨bA,bB,bC,ak,W⟩,A⟩;have aK:Ext p jd:=A.ext cC AW (by simp;omega);have bE:fe r.heap.size jd _ _:=aR.mod bu A λz a d=>by
    obtain⟨J,b⟩:=aR.b0 bu z a;rcases d with d | ⟨_,f,H,I,cF,L⟩
    .simp only[List.mem_singleton] at d;subst d;rw[aG] at b;injection b with b;injection b with _ b;revert b;decide
    .rw[b] at L;injection L with L;injection L with _ L;subst L;revert cF;decide
   have ek:=A.size;refine aa ?_;apply I_<;>intro en;rotate_left
   .have ep:y=R.length:=AW
    refine aa ?_;refine⟨A.keeps (by simp;omega),⟨A.ia AW AW (λer bF=>?_) Ae,A.keeps (by simp;omega)⟩,⟨bA,bB,bC,ak,?_⟩,e4.from aj A⟩
    .simp only[List.mem_singleton] at bF;subst bF;refine⟨AW,λf H I a=>?_⟩;rw[aG] at a;injection a with a;injection a with _ a;subst a;decide
    .rw[Im AW] at W;have c:wx g R ((pre++[(ab,(op,ae,af))]).map (·.1.1))=wx g R (pre.map (·.1.1))++R.map λaJ=>o.m6 g ab.1 :: aJ:=by
      unfold wx;rw[AF8,AJ6];simp
     rw[c];exact W
   have al:y<R.length:=AW
   have cI:=bx y AW al;obtain⟨bG,cJ,bH⟩:=cI;have cL:=a4.addr aH AW;obtain⟨cM,rfl⟩:=cL;have cN:p.cell? (cM.add (y*1))=some bG:=by
    have:=a4.at aH y AW 0 bG (by show(bp[y].1)[0]? = _;rw[cJ];rfl)
    rwa[add_zero] at this
   have cO:=bH.ex;obtain⟨bI,bJ,bK,bL⟩:=cO;have aM:=bK.here;have cP:=aM.form;obtain⟨ev,ew,rfl,_⟩:=cP;have cQ:=afQ g R (pre.map (·.1.1));rw[AG7] at cQ;have ey:pre.length*R.length<=24*24:=AI0 AW a6;have X:=W.form;obtain⟨_,_,X,_⟩:=X;injection X with _ X _
   rw[Jv,AG7,NU] at X;clear bx bw;refine aa ?_;refine L_ (aK.cell cN) ?_;refine aa ?_;intro j7 an;have cS:=an.obj ak;have ez:=an.size;refine aa ?_;intro j8 cT eB ao bM;have aP:ng T.b 1 j7.heap.size j8 (.slice (some ⟨cT,0,none⟩) 1 1) [(⟨[.slice op ae af],rfl,by simp[Value.oneCell']⟩:hp 1)]:=aR.y0 _ bM AW rfl hs rfl (by show 1<=maxLen;unfold maxLen;decide);refine⟨ao,?_⟩;refine aa ?_;have bN:=a4.ext Flat.ext (aK.trans (an.trans ao)) aM;have eD:bI.length<=1:=by
    have j:=ID al;simp only[S] at j
    have:=((o.NT _ _ λg aw=>by obtain⟨au,av,rfl⟩:=List.mem_map.1 aw;have:=ar.2 au av;omega).1 j).1
    rw[bJ];simp only[S];rw[this];simp only[o.j3,List.length_map];exact cc
   refine _D (enc:=iO) aP bN hs rp (by simp only[List.length_cons,List.length_nil];omega) (by simp only[List.length_cons,List.length_nil];unfold maxLen;omega) ao.size λeE cU aQ bO=>?_;have fT:Ext j7 cU:=ao.grown bO λh B=>(aP.lt h B).1;have cW:=aQ.form;obtain⟨cX,cY,rfl,_⟩:=cW;refine⟨fT,?_⟩;refine aa ?_;intro Y eH eI bP cZ;have bR:=fT.trans bP;refine⟨bR,?_⟩;have bV:=aQ.ext bP;have M:=an.trans bR;have bW:=W.ext M;have aS:=aR.ext M bE;have aT:=M.obj ak;have eJ:=M.size;have c1:np (mL i.heap.size p.heap.size Y) Y (.slice cX ([(⟨[.slice op ae af],rfl,by simp[Value.oneCell']⟩:hp 1)]++bI).length cY) (o.m6 g ab.1 :: R[y]):=by
    refine⟨_,by rw[Jv,bJ];simp[Nat.add_comm],λn aU=>(bV.mod aU λl u d=>mL.not bV AW (.inr rfl) l u d).iw hs,λaW Q m=>?_⟩;cases aW with
    | zero=>exact⟨.slice op ae af,rfl,λn aU=>gT (aR.mod aS aU λl u d=>mL.not aS AW (.inl rfl) l u d)⟩
    | succ aW =>
     simp only[List.length_append,List.length_cons,List.length_nil] at Q m;obtain⟨aq,c2,c3⟩:=bL aW AW AW;refine⟨aq,by simpa using c2,?_⟩;have c4:Mod (λ_=>False) p Y:=(aK.trans M).mod
     have:=c3.move (A':=mL i.heap.size p.heap.size Y) c4 (λ_ _ d=>d.elim) λl u d=>by
      rcases d with d | ⟨d,_⟩
      .exact d
      .omega
     simpa using this
   clear bN aP bM bO aQ W bE aS ak cS aM bL bK bH aH;refine aa ?_;have V:=bW.ex;obtain⟨eK,eM,bX,_⟩:=V;refine K.ajO bW cZ c1 (by simp[Value.oneCell']) (by rw[Jv,AG7,NU];omega) (by rw[Jv,AG7,NU];unfold maxLen;omega) AW AW Ae λeQ c5 aX bY=>?_;have c9:=aX.form;obtain⟨db,dc,rfl,_⟩:=c9;have dd:∀l,(Value.slice bA bB bC).ownBlock=some l->l≠q:=λl u c=>by
    obtain⟨J,b⟩:=aR.b0 bX l u;subst c;rw[aT] at b;injection b with b;injection b with _ b;revert b;decide
   have aY:=bY.block q (ca aT) λc=>dd q c.symm rfl;rw[aT] at aY;have de:e4 r.heap.size [q] [T.k] Y c5:=e4.grown bX bY Ah;refine aa ?_;intro eR bZ df;have dg:=aX.ex;obtain⟨dh,_,a0,_⟩:=dg;refine aa ?_;refine⟨al,aZ,(),trivial,⟨db,_,dc,df,?_⟩,((A.trans M.w7).trans de).trans (bZ.w7 Ah)⟩;rw[NZ al,AF8,<-VA];refine aX.move (A:=λe=>e=q) (bZ.mod rfl) (λh B c=>.inr ⟨AW,λf H I a=>?_⟩) λl u c=>?_
   .subst c;rw[aY] at a;injection a with a;injection a with _ a;subst a;decide
   .obtain⟨J,b⟩:=aR.b0 a0 l u;subst c;rw[aY] at b;injection b with b;injection b with _ b;revert b;decide
  .rintro D pre n eS di ⟨⟨s,e,f,G,t⟩,j⟩ a2;simp -dsimp only[c8,cA,Nat.reduceAdd,Nat.reduceEqDiff,reduceIte,reduceCtorEq,dq];refine _C G (Ext.refl _) rfl ?_;simp -dsimp only[c8,cA,Nat.reduceAdd,Nat.reduceEqDiff,reduceIte,reduceCtorEq,dq];refine gl.ret a2 ?_;simp -dsimp only[c8,cA,Nat.reduceAdd,Nat.reduceEqDiff,reduceIte,reduceCtorEq,dq];have dj:=dY.fZ n D (.deferred none);have dr:Ext i n:=j.ext ((C.trans aB).trans U) λe a d=>by simp at d;omega
   rw[di] at t;rw[cp];refine⟨(t.move (A:=λe=>e=D) (dj.mod rfl) (λh B c=>.inr ⟨AW,λf H I a=>?_⟩) λl u c=>?_).OM AW,dr.fZ AW _⟩
   .subst c;rw[a2] at a;injection a with a;cases a
   .have V:=t.ex;obtain⟨dh,_,a0,_⟩:=V;obtain⟨J,b⟩:=aR.b0 a0 l u;subst c;rw[a2] at b;injection b with b;cases b
end Go.Proofs.R
namespace a8
open Go Go.RowKit
theorem ahz:∀(f:C_ B_) (i:A_) (d b c:Nat) (e:Array B_) (h:F_),i.heap[d]? = some (.cells e h)->b+c+f.length<=e.size ->
  ∃g,(k0 i ⟨d,b,none⟩ f c).heap[d]? = some (.cells g h)/\g.size=e.size/\(∀a,a<b+c\/b+c+f.length<=a->g[a]? = e[a]?)/\∀a (j:a<f.length),g[b+c+a]? = some f[a]
 | [],i,d,b,c,e,h,k,_=>⟨e,k,rfl,λ_ _=>rfl,λa j=>absurd j (Og _)⟩
 | q :: f,i,d,b,c,e,h,k,l=>by
  have r:b+c<e.size:=by simp at l;omega
  have m:=Vw k r q;have s:Addr.add ⟨d,0,none⟩ (b+c)=Addr.add ⟨d,b,none⟩ c:=by rw[add_eq,add_eq,ZB]
  rw[s] at m;obtain⟨g,t,u,n,v⟩:=ahz f _ d b (c+1) _ h m (by simp at l ⊢;omega);refine⟨g,t,by simpa using u,λa p=>?_,λa j=>?_⟩
  .rw[n a (by simp at p ⊢;omega),Array.getElem?_set_ne _ (by simp at p;omega)]
  .cases a with
   | zero =>
    rw[AH1,n (b+c) AW,Array.getElem?_set_self];rfl
   | succ a =>
    have:=v a (by simpa using j)
    rw[show b+c+(a+1)=b+(c+1)+a from AW,this];rfl
def Z7{w:A_}{b j:Nat}{c:Array B_}{t:F_}{v:B_}(h:w.heap[b]? = some (.cells c t))(a:c[j]? = some v):w.cell? ⟨b,j,none⟩=some v:=by
 simp[World.cell?,h,a]
def Wn(k j:Nat)(h:j<k):(qe (Value.agg #[.I 0,.I 0,.I 0]).cells k)[j]? = some (.I 0):=by
 have a:j % 3<3:=Nat.mod_lt _ Ae;simp only[qe,Value.cells,Array.getElem?_map,Array.getElem?_range,h,if_true,Option.map_some];rcases(show j % 3=0\/j % 3=1\/j % 3=2 by omega) with e | e | e<;>simp[e]
end a8
namespace Go.Proofs.R
open Go Go.RowKit a8 o
attribute [local irreducible] dE bD o.insts o.refs jH fE
structure k3(w:World)(b:Nat)(l:List (Int×Int×Int)):Prop where
 ex:∃cur,w.heap[b]? = some (.cells cur T.qp)/\cur.size=3*l.length/\∀i (h:i<l.length),cur[3*i]? = some (.int .i64 l[i].1)/\cur[3*i+1]? = some (.int .i64 l[i].2.1)/\cur[3*i+2]? = some (.int .i64 l[i].2.2)
def k3.mod{A:Nat->Prop}{w w':A_}{b:Nat}{l:C_ (Int×Int×Int)}(h:k3 w b l)(m:Mod A w w')(a:¬A b):k3 w' b l :=
 let ⟨cur,c,d⟩:=h.ex; ⟨cur,m.obj a c,d⟩
def k3.set{w:A_}{b i:Nat}{l:C_ (Int×Int×Int)}(h:k3 w b l)(u:i<l.length)(x:Int×Int×Int):k3 (k0 w ⟨b,3*i,none⟩ (nV x) 0) b (l.set i x):=by
 obtain⟨m,n,p,q⟩:=h.ex;obtain⟨r,s,t,a,c⟩:=ahz (nV x) w b (3*i) 0 m _ n (by simp[nV];omega);refine⟨r,s,by rw[ZA,t];exact p,λd e=>?_⟩;rw[ZA] at e;have f:=c 0 (by simp[nV]);have g:=c 1 (by simp[nV]);have j:=c 2 (by simp[nV]);by_cases k:i=d
 .subst k;rw[List.getElem_set_self];simp only[Nat.add_zero,nV] at f g j;exact⟨f,g,j⟩
 .rw[List.getElem_set_ne k,a _ (by simp[nV];omega),a _ (by simp[nV];omega),a _ (by simp[nV];omega)];exact q d e
def AE9{w:A_}{b i:Nat}{l:C_ (Int×Int×Int)}{x:Int×Int×Int}{a:Addr}{d:A_->Prop}{t}(h:k3 w b l)(e:a=Addr.add ⟨b,0,none⟩ (i*3))(g:i<l.length)(j:∀c,dY b w c->k3 c b (l.set i x)->d c) :
  Fq 3 (.pointer (some a)) (.agg (nV x).toArray) w d t:=by
 rw[show Addr.add ⟨b,0,none⟩ (i*3)=(⟨b,3*i,none⟩:Addr) from by rw[add_eq,ZB,AK1]] at e;subst e;refine AB5 rfl (λk q=>?_) (λm n=>amp x m (by simpa using n)) (j _ (dY.k0 _ w ⟨b,3*i,none⟩ 0) (h.set g x));obtain⟨p,f,r,_⟩:=h.ex;rw[add_eq];exact⟨⟨p[3*i+k]' AW,Z7 f (Array.getElem?_eq_getElem AW)⟩,by simp[World.frozen?,f]⟩
def k3.iw{w:A_}{b:Nat}{l:C_ (Int×Int×Int)}(h:k3 w b l)(f:l.length<=maxLen):a4 3 (Flat nV) w (.slice (some ⟨b,0,none⟩) l.length l.length) l :=
 ⟨_,_,rfl,Fy _,f,λ_=>rfl,λp c d g=>by
  injection c with c
  subst c;obtain⟨q,i,r,j⟩:=h.ex;obtain⟨k,m,n⟩:=j d g;intro e s a;rw[add_eq,add_eq,ZB];refine Z7 i ?_;rw[AK1 d 3]
  match e,a with
  | 0,a=>simp[nV] at a;subst a;exact k
  | 1,a=>simp[nV] at a;subst a;exact m
  | 2,a=>simp[nV] at a;subst a;exact n
  | e+3,a=>simp[nV] at a⟩
def k3.new{w:A_}{b n:Nat}(h:w.heap[b]? = some (.cells (qe (Value.agg #[.I 0,.I 0,.I 0]).cells (n*3)) T.qp)):k3 w b (List.replicate n (0,0,0)) :=
 ⟨_,h,by rw[azg,AG0,AK1],λc a=>by
  rw[AG0] at a;rw[List.getElem_replicate];exact⟨Wn _ _ AW,Wn _ _ AW,Wn _ _ AW⟩⟩
def atJ(b c k:Nat)(first f:Int)(i:C_ B_)(a:C_ (Int×Int×Int))(w:A_)(d:w.heap[b]? = some (.cells i.toArray T.ua))(p:i[6]? = some (.slice (some ⟨c,0,none⟩) a.length a.length))(j:k3 w c a)(y:0<=first)(z:first.toNat+k<=a.length)(A:a.length<=1000) :
  EG F.o3 #[.pointer (some ⟨b,0,none⟩),.I first,.I k,.I f] w λ_ l=>k3 l c (wB a first f k)/\Mod (λg=>g=c) w l:=by
 have q:b≠c:=λr=>by
  obtain⟨B,s,_⟩:=j.ex;rw[r,s] at d;injection d with d
  injection d with _ d
  revert d
  decide
 refine bm E.o3 ?_;refine aa ?_;refine K_ 10 k [0,1,3,9] (λ_:Unit=>[]) () (λe _ m=>k3 m c (wB a first f e)/\Mod (λg=>g=c) w m) aV aV ⟨j,Mod.refl _ _⟩ ?_;rintro e - C G H ⟨n,h⟩;have t:=h.obj q d;have I:=Il a first f e
 refine aa ?_;apply I_<;>intro J;rotate_left
 .have:e=k:=AW
  subst this;refine aa ?_;exact⟨n,h⟩
 have u:e<k:=AW
 refine aa ?_;refine _H t (Ext.refl _) p ?_;refine aa ?_;refine M_ (first.toNat+e) ?_ ?_ ?_
 .omega
 .omega
 refine aa ?_;refine AE9 (x:=(first,(e:Int),f)) n rfl AW λK v x=>?_;refine aa ?_;exact⟨u,aZ,(),trivial,x,h.trans (v.mod rfl)⟩
attribute [local irreducible] qa
def AF0{d:B_->A_->Prop}{w:A_}{n:Int}{t}(a:Nat)(e:n=a)(h:a<=1000000)(f:∀b c,w.heap.size<=c->Ext w b->k3 b c (List.replicate a (0,0,0))->d (.slice (some ⟨c,0,none⟩) a a) b) :
  Fg T.qp 3 24 (.agg #[.I 0,.I 0,.I 0]) (.I n) (.I n) w d t:=by
 subst e;refine _7 ⟨AW,AW,AW,AW⟩ ?_;have g:=f (w.alloc (.cells (qe (Value.agg #[.I 0,.I 0,.I 0]).cells (a*3)) T.qp)) _ (Fy _) ((Ext.refl w).alloc _) (k3.new (heap_alloc_new w _));rw[AG4];exact g
def afq(b c k:Nat)(n first d:Int)(e:C_ B_)(a:C_ (Int×Int×Int))(w:A_)(g:n=k)(h:w.heap[b]? = some (.cells e.toArray T.ua))(i:e[6]? = some (.slice (some ⟨c,0,none⟩) a.length a.length))(j:k3 w c a)(l:0<=first)(m:first.toNat+k<=a.length)(p:a.length<=1000) :
  EG F.o3 #[.pointer (some ⟨b,0,none⟩),.I first,.I n,.I d] w λ_ f=>k3 f c (wB a first d k)/\Mod (λq=>q=c) w f:=by
 subst g;exact atJ b c k first d e a w h i j l m p
def HZ(cs:C_ B_)(m:o.Model)(w:A_)(h:eu w cs m)(B:m.cS)(ae:gZ w) :
  EG F.dK #[.agg cs.toArray] w λaH aI=>((¬(o.check m).bN=0/\aH = .tuple #[.pointer none,.bool false])\/((o.check m).bN=0/\∃aJ,aH = .tuple #[.pointer (some ⟨aJ,0,none⟩),.bool true]/\nQ aI aJ m))/\Ext w aI:=by
 have s:=h;obtain⟨br,bt,bu,bg,bw,bj,bx,bz,bA,bB,rfl,aK,bC,_,bE,_⟩:=h.form;refine bm E.dK ?_;refine aa ?_;intro bF c4 c5 af c;refine aa ?_;refine J_ (NS _ m bF (s.ext af) B (ae.ext af)) ?_;rintro _ bG ⟨rfl,aM⟩;replace c:=aM.obj c;have C:=af.trans aM;refine aa ?_;refine _d (v:=.I (o.check m).bN) rfl ?_;refine aa ?_;refine I_ (λd=>?_) (λd=>?_);rotate_left
 .refine aa ?_;exact⟨.inl ⟨d,aZ⟩,C⟩
 have bH:lyz m=o.layout m:=Mo d;have G:=g6 d;have H:=ko d;have c9:cG m<=64:=iq G;refine aa ?_;refine J_ (T4 _ m bG (s.ext C) B (ae.ext C)) ?_;rintro _ db ⟨⟨ys,rfl,ag⟩,aP⟩;rw[bH] at ag;have bI:=C.trans aP;have ah:=ag.here;obtain⟨dc,dd,de,df,bJ,bK,dg,dh,di,dj,rfl,_⟩:=ah.form;replace c:=aP.obj c;refine aa ?_;intro dr dt du ai k;replace c:=ai.obj c;have bL:=bI.trans ai;refine aa ?_;intro bM I;replace c:=I.obj c;replace k:=I.obj k;have aj:=bL.trans I;refine aa ?_;refine J_ (asX _ m bM (s.ext aj) B (ae.ext aj)) ?_;rintro bN bO ⟨aQ,J⟩;have aS:=aj.trans J;refine⟨J,?_⟩;refine aa ?_;refine J_ (L6 _ m bO (s.ext aS) B) ?_;rintro bP bR ⟨aT,K⟩;have aU:=aS.trans K;refine⟨J.trans K,?_⟩;refine aa ?_;refine J_ (af3 m.scalars _ bR (a4.ext jM.ext aU aK) H) ?_;rintro bV q ⟨aW,L⟩;have t:=aU.trans L;have M:=(J.trans K).trans L;refine⟨M,?_⟩;have aX:cH q bN (o.kinds m):=(gT aQ).ext Flat.ext (K.trans L);have aY:q6 q bP (o.insts m):=(aR.kF (enc:=c7.enc) (λ_=>rfl) aT).ext Flat.ext L;have a0:q5 q bV (dE m.scalars):=by
  have:=aW.A2
  unfold dE;exact this
 have a2:o.kinds m=(bD m).map (·.kind):=by unfold o.kinds;rw[if_pos d]
 have bW:=aX.form;obtain⟨bX,bY,rfl,_⟩:=bW;have bZ:=aY.form;obtain⟨b0,b1,rfl,_⟩:=bZ;have b3:=a0.form;obtain⟨b4,b5,rfl,_⟩:=b3;have ak:=ah.ext ((ai.trans I).trans M);replace c:=M.obj c;replace k:=M.obj k;clear ag ah aQ aT aW;refine aa ?_;intro dv N b6 O r;have b8:=O.obj c;have b9:=O.obj k;refine aa ?_;have cb:(o.layout m).cells=((cG m:Nat):Int):=rfl;refine AF0 (cG m) cb AW λdw n dx al an=>?_;have cc:=al.obj r;have dz:=ca r;rw[<-ayb d] at an;refine aa ?_;intro ao aq a5;have ch:=an.mod (aq.mod (A:=λu=>u=N) rfl) AW;have ar:Ext q ao:=aq.ext (O.trans al) b6;have dB:=ar.size;have dC:=O.size;have dF:=al.size;clear an r cc b8 b9 aq;obtain⟨dG,dJ,dK⟩:=uR m;have dL:=H.1;have dN:=ca c;have dP:=ca k;refine aa ?_;refine K_ 38 m.vars.length [1,4,5,36,37] (λ_:Unit=>[]) () (λa _ v=>k3 v n (qa m a 0)/\Mod (λu=>u=n) ao v) aV aV ⟨ch,Mod.refl _ _⟩ ?_;rintro a - cj P ck ⟨l,i⟩;have e:Ext q P:=i.ext ar λcm d cp=>AW
 have x:=i.obj AW a5;have au:=a4.ext ra.ext (t.trans e) bC;refine aa ?_;apply I_<;>intro cq
 .have g:a<m.vars.length:=AW
  have b:=au.addr;obtain⟨dQ,rfl⟩:=b;have dR:=qZ g;have av:=nu m;have Q:=aya d g;have p:=vb m a 0;refine aa ?_;intro cr dS ct S av;refine aa ?_;intro cu aw dT;have j:=aw.ext S ct;have cv:=j.size;refine aa ?_;apply I_<;>intro a6
  .rw[if_pos a6] at Q;have dV:m.vars[a].over<=m.scalars.length:=Classical.byContradiction λdW=>by
    have dX:=(G.var _ (ID g)).dj
    have:=Cf (s:=m.scalars) (k:=m.vars[a].over) AW
    omega
   have dZ:o.cells m.vars[a] m.scalars=o.size m.vars[a].over m.scalars:=by rw[Z8,if_neg AW]
   have ax:(m.vars[a].over - 1).toNat<m.scalars.length:=AW
   have cw:=Ox H ax;have ea:=H.2 _ (ID ax);rw[show(((m.vars[a].over - 1).toNat:Nat):Int)+1=m.vars[a].over from AW] at cw;have az:=Al g;obtain⟨cx,aA⟩:=az;refine aa ?_;intro a7 U;have V:=j.trans U;have W:=e.trans V;have eb:=W.obj c;have eg:=W.obj k;have cB:=V.obj x;have a9:=ak.ext W;obtain⟨_,_,_,_,_,_,_,_,_,_,y,cC,_⟩:=a9.form;injection y with f _
   injection f with aB cD aC
   subst aB aC;have cF:=a4.ext jM.ext (t.trans W) aK;have b:=cC.addr;obtain⟨cI,rfl⟩:=b;have b:=cF.addr;obtain⟨eh,rfl⟩:=b;clear au a9;refine aa ?_;refine M_ (m.vars[a].over - 1).toNat ?_ ax ?_
   .omega
   refine aa ?_;refine J_ (afq N n (o.cells m.vars[a] m.scalars).toNat _ _ _ _ (qa m a 0) a7 AW cB (by rw[p];rfl) (l.mod V.mod (A:=λ_=>False) (λz=>z)) AW (by rw[p];omega) (by rw[p];omega)) ?_;rintro _ ba ⟨cJ,cL⟩;refine aa ?_;refine⟨g,aZ,(),trivial,?_,(i.trans (V.mod)).trans cL⟩;rw[Q,<-aA];exact cJ
  .rw[if_neg a6] at Q;refine aa ?_;exact⟨g,aZ,(),trivial,by rw[Q];exact l.mod j.mod (A:=λ_=>False) (λz=>z),i.trans j.mod⟩
 have aD:a=m.vars.length:=AW
 subst aD;clear au;refine aa ?_;refine K_ 69 (o.insts m).length [1,4,5,67,68] (λ_:Unit=>[]) () (λa _ v=>k3 v n (qa m m.vars.length a)/\Mod (λu=>u=n) ao v) aV aV ⟨l,i⟩ ?_;clear l i e x;rintro a - cj P ck ⟨l,i⟩;have e:Ext q P:=i.ext ar λcm d cp=>AW
 have x:=i.obj AW a5;have X:=aY.ext Flat.ext e;have p:=vb m m.vars.length a;refine aa ?_;apply I_<;>intro cq;rotate_left
 .have aD:a=(o.insts m).length:=AW
  subst aD;rw[ax8 d] at l;have aE:=VX m;have bb:=k3.iw l (by unfold maxLen;omega);rw[aE] at bb;refine aa ?_;refine⟨.inr ⟨d,N,aZ,_,x,br,bt,bu,bg,bw,bj,bx,bz,bA,bB,bX,bY,some ⟨n,0,none⟩,cG m,b0,b1,bJ,bK,b4,b5,?_,s.ext (t.trans e),⟨_,rfl,?_⟩,?_,X,?_,a4.ext uq e a0⟩,t.trans e⟩
  .rw[aE,a2,AG7];rfl
  .have:=aX.ext Flat.ext e
   rw[a2,AG7] at this;exact this
  .rw[aE];exact bb
  .obtain⟨_,_,_,_,_,_,_,_,_,_,y,_,_,Y,_⟩:=(ak.ext e).form;injection y with _ f
   injection f with _ f
   injection f with f _
   rw[<-f] at Y;exact Y
 have g:a<(o.insts m).length:=AW
 have cM:=wh g;obtain⟨aF,Z⟩:=cM;have cN:=Z.eq;have A:=Z.aC;have ek:=Z.room;have cO:=ax9 d Z;have en:=(G.proc _ (ID A)).over;have ep:=(G.proc _ (ID A)).g2;have az:=qK g;obtain⟨cx,aA⟩:=az;have b:=X.addr;obtain⟨cP,rfl⟩:=b;have cQ:fx P (cP.add (a*2)) [.I (o.insts m)[a].proc,.I (o.insts m)[a].elem]:=a4.at X a g;have aG:=a4.ext AD.ext (t.trans e) bE;have b:=aG.addr;obtain⟨er,rfl⟩:=b;have b:=aG.at aF A;obtain⟨_,ev,dI,bf,cS,cT⟩:=b;have b:=cS.form;obtain⟨_,_,rfl,_⟩:=b;have b:=cT.form;obtain⟨_,_,rfl,_⟩:=b;clear X aG;refine aa ?_;intro cr ew cU S av;refine aa ?_;intro cu aw r;have j:=aw.ext S cU;have cW:=(e.trans j).obj c;have cX:=bf.ext j;have cv:=j.size;clear cQ S av bf;refine aa ?_;refine M_ aF cN A ?_;refine aa ?_;intro a7 ey ez U bk;have cY:=j.trans U;have cZ:=U.obj r;clear cX cW r;refine aa ?_;intro ba bn;have ab:=cY.trans bn;have bo:=e.trans ab;have eB:=bo.obj k;have c1:=ab.obj x;have eD:=bn.obj bk;have bp:=ak.ext bo;obtain⟨_,_,_,_,_,_,_,_,_,_,y,_,_,Y,_⟩:=bp.form;injection y with _ f
 injection f with _ f
 injection f with f _
 injection f with aB cD aC
 subst aB aC;have b:=Y.addr;obtain⟨cI,rfl⟩:=b;clear bp cZ bk;refine aa ?_;refine J_ (afq N n (1+(m.procs[aF]'A).vars.length) _ _ _ _ (qa m m.vars.length a) ba AW c1 (by rw[p];rfl) (l.mod ab.mod (A:=λ_=>False) (λz=>z)) AW (by rw[p];omega) (by rw[p];omega)) ?_;rintro _ eE ⟨c2,c3⟩;refine aa ?_;refine⟨g,aZ,(),trivial,?_,(i.trans ab.mod).trans c3⟩;rw[cO,<-aA];exact c2
theorem au3(cs:C_ B_)(v vs:B_)(m:o.Model)(g:C_ (C_ Int))(s:C_ Int)(w:A_)(h:eu w cs m)(n:m.cS)(p:gZ w)(d:hB w v g)(e:cH w vs s) :
  EG F.p #[.agg cs.toArray,v,vs] w λf q=>((nm m s/\hi m.scalars g/\cH q f (hK m g s))\/(¬(nm m s/\hi m.scalars g)/\f = .slice none 0 0))/\Ext w q:=by
 have r:=h;obtain⟨Q,S,U,bg,V,bj,W,X,Y,Z,rfl,_⟩:=h.form;obtain⟨ab,ae,rfl,_⟩:=e.form;obtain⟨af,ag,rfl,_⟩:=d.form;refine bm E.p ?_;refine aa ?_;intro H ah ai i I;refine aa ?_;refine J_ (HZ _ m H (r.ext i) n (p.ext i)) ?_;rintro _ J ⟨K,t⟩;have j:=i.trans t;rcases K with ⟨b,rfl⟩ | ⟨b,u,rfl,x⟩
 .refine aa ?_;exact⟨.inr ⟨λh=>b h.1.1,aZ⟩,j⟩
 have L:=t.obj I;refine aa ?_;refine J_ (af6 u _ m g J x (ko b) (kW j d)) ?_;rintro _ M ⟨⟨k,rfl,y⟩,l⟩;have a:=j.trans l;have aj:=l.obj L;cases k with
 | false =>
  refine aa ?_;exact⟨.inr ⟨λh=>(by have:=y.2 h.2;cases this),aZ⟩,a⟩
 | true =>
 have z:=y.1 rfl;refine aa ?_;refine J_ (VH _ m _ s M (r.ext a) n (p.ext a) (e.ext Flat.ext a)) ?_;rintro _ N ⟨⟨k,rfl,A⟩,B⟩;have c:=a.trans B;cases k with
 | false =>
  refine aa ?_;exact⟨.inr ⟨λh=>(by have:=A.2 h.1;cases this),aZ⟩,c⟩
 | true =>
 have C:=A.1 rfl;refine aa ?_;refine J_ (UQ u _ _ m g s N (x.ext (l.trans B)) b z (kW c d) (e.ext Flat.ext c) C.2) ?_;rintro f ak ⟨O,P⟩;have G:=gT O;obtain⟨al,an,rfl,_⟩:=G.form;refine aa ?_;exact⟨.inl ⟨C,z,G⟩,c.trans P⟩
theorem au4(cs:C_ B_)(vs:B_)(m:o.Model)(s:C_ Int)(w:A_)(h:eu w cs m)(g:m.cS)(i:gZ w)(b:cH w vs s) :
  EG F.h #[.agg cs.toArray,vs] w λc j=>((nm m s/\cH j c (fj m s))\/(¬nm m s/\c = .slice none 0 0))/\Ext w j:=by
 have k:=h;obtain⟨G,H,I,bg,J,bj,K,L,M,N,rfl,_⟩:=h.form;obtain⟨O,P,rfl,_⟩:=b.form;refine bm E.h ?_;refine aa ?_;intro t Q S d u;refine aa ?_;refine J_ (HZ _ m t (k.ext d) g (i.ext d)) ?_;rintro _ v ⟨x,l⟩;have a:=d.trans l;rcases x with ⟨e,rfl⟩ | ⟨e,y,rfl,z⟩
 .refine aa ?_;exact⟨.inr ⟨λh=>e h.1,aZ⟩,a⟩
 have U:=l.obj u;refine aa ?_;refine J_ (VH _ m _ s v (k.ext a) g (i.ext a) (b.ext Flat.ext a)) ?_;rintro _ A ⟨⟨B,rfl,n⟩,p⟩;have f:=a.trans p;cases B with
 | false =>
  refine aa ?_;exact⟨.inr ⟨λh=>(by have:=n.2 h;cases this),aZ⟩,f⟩
 | true =>
 have q:=n.1 rfl;refine aa ?_;refine J_ (N6 y _ m s A (z.ext p) e (b.ext Flat.ext f) q.2) ?_;rintro c V ⟨r,C⟩;obtain⟨W,X,rfl,_⟩:=r.form;refine aa ?_;exact⟨.inl ⟨q,r⟩,f.trans C⟩
theorem au5(cs:C_ B_)(v:B_)(m:o.Model)(g:C_ (C_ Int))(x:Int)(w:A_)(h:eu w cs m)(s:m.cS)(t:gZ w)(c:hB w v g) :
  EG F.af #[.agg cs.toArray,v,.I x] w λj u=>(((o.check m).bN=0/\hi m.scalars g/\(0<=x/\x<(o.refs m).length)/\j = .I (Ab m (gI g) x.toNat))\/(¬((o.check m).bN=0/\hi m.scalars g/\(0<=x/\x<(o.refs m).length))/\j = .I (-1)))/\Ext w u:=by
 have y:=h;obtain⟨H,I,J,bg,K,bj,L,M,N,O,rfl,_⟩:=h.form;obtain⟨P,Q,rfl,_⟩:=c.form;refine bm E.af ?_;refine aa ?_;intro z S U d V;refine aa ?_;refine J_ (HZ _ m z (y.ext d) s (t.ext d)) ?_;rintro _ A ⟨e,B⟩;have f:=d.trans B;rcases e with ⟨a,rfl⟩ | ⟨a,k,rfl,l⟩
 .refine aa ?_;exact⟨.inr ⟨λh=>a h.1,aZ⟩,f⟩
 refine aa ?_;refine J_ (af6 k _ m g A l (ko a) (kW f c)) ?_;rintro _ C ⟨⟨G,rfl,n⟩,p⟩;have b:=f.trans p;cases G with
 | false =>
  refine aa ?_;exact⟨.inr ⟨λh=>(by have:=n.2 h.2.1;cases this),aZ⟩,b⟩
 | true =>
 have q:=n.1 rfl;refine aa ?_;refine J_ (agd k _ m g x C (l.ext p) a q (kW b c)) ?_;rintro _ W ⟨e,r⟩;rcases e with ⟨i,rfl⟩ | ⟨i,rfl⟩
 .refine aa ?_;exact⟨.inr ⟨λh=>i h.2.2,aZ⟩,b.trans r⟩
 .refine aa ?_;exact⟨.inl ⟨a,q,i,aZ⟩,b.trans r⟩
def afX(cs:C_ B_)(m:o.Model)(w:A_)(h:eu w cs m)(ak:m.cS)(al:gZ w) :
  EG F.n #[.agg cs.toArray] w λx N=>(((o.check m).bN=0/\q5 N x (dE m.scalars))\/(¬(o.check m).bN=0/\x = .slice none 0 0))/\Ext w N:=by
 have an:=h;obtain⟨bf,bk,bn,bg,bo,bj,bp,br,bt,bu,rfl,_⟩:=h.form;refine bm E.n ?_;refine aa ?_;intro ao bw bx y bz;refine aa ?_;refine J_ (HZ _ m ao (an.ext y) ak (al.ext y)) ?_;rintro _ O ⟨e,aq⟩;have z:=y.trans aq;rcases e with ⟨i,rfl⟩ | ⟨i,bA,rfl,s⟩
 .refine aa ?_;exact⟨.inr ⟨i,aZ⟩,z⟩
 obtain⟨bB,bC,s⟩:=s;obtain⟨bE,bF,bG,bH,bI,bJ,bK,bL,bM,bN,bO,bP,bR,bV,bW,bX,bY,bZ,b0,b1,rfl,_,_,_,_,_,ar⟩:=s.ex;clear s;have t:=ko i;have b3:=abN t;have au:=λ{a:Nat} (A:a<(dE m.scalars).length)=>(uV t).1 (ID A);have av:=z.size;refine aa ?_;refine K_ 23 (dE m.scalars).length [21,22] (λc:ef=>[(5,.slice c.1 c.2.1 c.2.2)]) (none,0,0) (λa c n=>mP T.k w.heap.size O.heap.size n (.slice c.1 c.2.1 c.2.2) ((dE m.scalars).take a)/\Ext O n) aV aV ⟨mP.nil _ _ _ _,Ext.refl _⟩ ?_;rintro a ⟨aw,ax,az⟩ aA j A ⟨p,u⟩;dsimp only at p;have B:q5 j _ _:=a4.ext uq u ar;have b4:=u.size;refine aa ?_;apply I_<;>intro b5;rotate_left
 .refine aa ?_;rw[Im AW] at p;exact⟨.inl ⟨i,(p.OM av).A2⟩,z.trans u⟩
 have b:a<(dE m.scalars).length:=AW
 have P:=au b;have b6:=P.len;have b8:=t.1;have e:=a4.addr B AW;obtain⟨aB,rfl⟩:=e;have aC:vk j (aB.add (a*1)) ((dE m.scalars)[a]'b):=a4.at B a b;obtain⟨b9,Q,S⟩:=aC;have e:=S.form;obtain⟨cb,cc,rfl,_⟩:=e;clear B;refine aa ?_;refine L_ Q ?_;refine aa ?_;intro aD U aE V W;have ch:=V.size;have X:eo ql T.b 1 j.heap.size aD (.slice (some ⟨U,0,none⟩) 0 0) []:=⟨[],rfl,aR.empty aE W,λa h=>by cases h⟩;clear Q;refine aa ?_;refine K_ 30 ((dE m.scalars)[a]'b).length [5,21,22,23,28,29] (λc:ef=>[(8,.slice c.1 c.2.1 c.2.2)]) (some ⟨U,0,none⟩,0,0) (λd c n=>eo ql T.b 1 j.heap.size n (.slice c.1 c.2.1 c.2.2) (((dE m.scalars)[a]'b).take d)/\Ext j n) aV aV ⟨X,V⟩ ?_;clear X W;rintro d ⟨Y,cj,Z⟩ aA C ck ⟨k,q⟩;dsimp only at k;have ab:=kW q S;have cm:=q.size;refine aa ?_;apply I_<;>intro cp
 .have f:d<((dE m.scalars)[a]'b).length:=AW
  have ae:d<m.scalars.length:=AW
  have e:=a4.addr ab AW;obtain⟨aF,rfl⟩:=e;have aG:oY C (aF.add (d*1)) (((dE m.scalars)[a]'b)[d]'f):=a4.at ab d f;obtain⟨cq,aH,af⟩:=aG;have aI:=af.form;obtain⟨cr,ct,rfl,_⟩:=aI;have cu:=(P.perm d f ae).len;have cv:=t.2 _ (ID ae);refine aa ?_;refine L_ aH ?_;refine aa ?_;refine J_ (Hy _ _ C af (by unfold eO;omega)) ?_;rintro x v ⟨ag,g⟩;have aJ:=ag.form;obtain⟨G,H,rfl,_⟩:=aJ;have I:=k.ext g;have aK:=g.size;have aM:ei C (λw=>cH w (.slice G (((dE m.scalars)[a]'b)[d]'f).length H) (((dE m.scalars)[a]'b)[d]'f)) v:=aR.new (enc:=da) (λ_=>rfl) ag;refine aa ?_;intro aP aQ aS r J;have cw:=r.size;refine _A (x:=((dE m.scalars)[a]'b)[d]'f) (cs:=[.slice G (((dE m.scalars)[a]'b)[d]'f).length H]) (I.ext r) (gP J) (((ei.own aM k AW).imp λw h=>⟨_,rfl,h⟩).ext r λa A i=>by have:=I.under AW a i;omega) rfl (by simp[Value.oneCell']) (by rw[NU];omega) (by rw[NU];unfold maxLen;omega) AW λaT cx ah aU=>?_;have aW:=(I.ext r).hN ((q.trans g).trans r) aU (Fy _);have e:=ah.form;obtain⟨L,M,rfl,_⟩:=e;refine aa ?_;refine⟨f,aZ,(L,_,M),aV,?_,aW⟩;rw[NZ f];exact ah
 .rw[Im AW] at k;have e:=k.form;obtain⟨G,H,aX,_⟩:=e;injection aX with aY a0 a2
  subst aY a0 a2;have a5:=p.ext q;have a6:=p.lt;refine aa ?_;intro v aQ aS g J;have ai:=a5.ext g;have aK:=g.size;have a7:np (λd=>d<j.heap.size) v (.slice Y ((dE m.scalars)[a]'b).length Z) ((dE m.scalars)[a]'b):=eo.ahZ (k.ext g) (Fy _);have a9:np (qm (.slice aw ax az) w.heap.size) v (.slice Y ((dE m.scalars)[a]'b).length Z) ((dE m.scalars)[a]'b):=a7.move (A:=λ_=>False) (Mod.refl _ _) (λ_ _ l=>l.elim) λba _ l=>by
   rcases l with l | l
   .exact(a6 ba l).2
   .omega
  refine K.Zz ai J a9 (by simp[Value.oneCell']) (by rw[NU];omega) (by rw[NU];unfold maxLen;omega) AW AW λaT aP aj bb=>?_;have fT:=ai.hN ((u.trans q).trans g) bb (Fy _);have e:=aj.form;obtain⟨L,M,rfl,_⟩:=e;refine aa ?_;refine⟨b,aZ,(L,_,M),aV,?_,fT⟩;rw[NZ b];exact aj
end Go.Proofs.R
namespace o
open Go
theorem axa{m:Model}(f:(check m).bN=0){l:C_ cV}{s d:C_ Int}(g:Fits m s)(i:gB m l (fj m s)=some d){k:Nat}(h:k<l.length) :
  Fits m (runM m (l.take k) s).2/\(∃b,mK m (fj m (runM m (l.take k) s).2) l[k]=some b) /\
   runM m (l.take (k+1)) s=((runM m (l.take k) s).1++[k6 m (runM m (l.take k) s).2 l[k]],p9 m (runM m (l.take k) s).2 (k6 m (runM m (l.take k) s).2 l[k])):=by
 have a:gB m (l.take k++l.drop k) (fj m s)=some d:=by rw[AH7];exact i
 rw[Jn] at a;cases c:gB m (l.take k) (fj m s) with
 | none=>rw[c] at a;cases a
 | some e =>
  rw[c] at a;simp only at a;obtain⟨j,n⟩:=Ig f _ s e g c;rw[AF9 h,gB] at a;refine⟨j,?_,?_⟩
  .rw[n];cases p:mK m e l[k] with
   | none =>
    unfold wq at a;rw[p] at a;cases a
   | some b=>exact⟨b,rfl⟩
  .rw[NZ h,u6];rfl
end o
namespace Go.Proofs.R
open Go Go.RowKit a8 o
attribute [local irreducible] dE bD o.insts o.refs jH fE o.runM k6 p9
def Oa{i:Nat}(b:Nat)(v L:B_)(m:o.Model)(s d:C_ Int)(l:C_ cV)(w:A_)(h:nQ w b m)(ab:m.cS)(ae:gZ w)(e:(o.check m).bN=0)(M:jn i w v s)(aK:i<=w.heap.size)(af:o.Fits m s)(A:a4 2 (Flat cV.enc) w L l)(aM:l.length<=1000)(ag:gB m l (fj m s)=some d) :
  EG F.se #[.pointer (some ⟨b,0,none⟩),v,L] w λah B=>(∃r N O j,ah = .tuple #[.slice r (o.runM m l s).1.length N,.slice O (o.runM m l s).2.length j]/\aR cV.enc T.g 2 w.heap.size B (.slice r (o.runM m l s).1.length N) (o.runM m l s).1/\jn i B (.slice O (o.runM m l s).2.length j) (o.runM m l s).2)/\Ext w B:=by
 obtain⟨ai,aj,rfl,_⟩:=M.qP.form;obtain⟨aP,aQ,rfl,aS⟩:=A.form;have P:o.runM m [] s=([],s):=by unfold o.runM;rfl
 have ak:=λa=>Cd m (l.take a) s;refine bm E.se ?_;refine aa ?_;refine K_ 15 l.length [0,2,13,14] (λc:ef×ef=>[(1,.slice c.1.1 c.1.2.1 c.1.2.2),(8,.slice c.2.1 c.2.2.1 c.2.2.2)]) ((ai,s.length,aj),(none,0,0)) (λa c C=>jn i C (.slice c.1.1 c.1.2.1 c.1.2.2) (o.runM m (l.take a) s).2/\aR cV.enc T.g 2 w.heap.size C (.slice c.2.1 c.2.2.1 c.2.2.2) (o.runM m (l.take a) s).1/\Ext w C) aV aV ⟨by rw[AL6,P];exact M,by rw[AL6,P];exact aR.nil _ _ _ _ _,Ext.refl _⟩ ?_;rintro a ⟨⟨aT,aU,bg⟩,⟨al,aW,an⟩⟩ aX ao aY ⟨k,n,t⟩;dsimp only at k n;have p:=k.qP.form;obtain⟨a0,a2,aq,_⟩:=p;injection aq with G H I
 subst G H I;have p:=n.form;obtain⟨a5,a6,ar,_⟩:=p;injection ar with G H I
 subst G H I;have J:=A.ext Flat.ext t;have Q:=ak a;refine aa ?_;apply I_<;>intro a7;rotate_left
 .have au:a=l.length:=AW
  subst au;rw[Im (Fy _)] at k n;refine aa ?_;rw[Im (Fy _)];exact⟨⟨_,_,_,_,aZ,n,k⟩,t⟩
 have f:a<l.length:=AW
 obtain⟨av,⟨S,aw⟩,U⟩:=axa e af ag f;have p:=J.addr;obtain⟨ax,rfl⟩:=p;have az:fx ao (ax.add (a*2)) [.I (l[a]'f).cmd,.I (l[a]'f).eM]:=a4.at J a f;clear J A;refine aa ?_;intro aA a9 ba u aB;have x:=t.trans u;have bb:=t.size;have bf:=u.size;refine aa ?_;refine J_ (avb b _ m _ S (l[a]'f) aA (h.ext x) ab (ae.ext x) e (k.ext u) (by have:=x.size;omega) av aw) ?_;rintro _ bk ⟨⟨aC,bj,rfl,aD⟩,K⟩;have aE:=x.trans K;have bn:=K.size;clear az aB;refine aa ?_;intro bo bp br y bt;have V:=aE.trans y;have bu:=y.size;refine aa ?_;intro bw bx bz q aF;have z:=((n.ext u).ext K).ext (y.trans q);have bA:=q.size;refine T_ (enc:=cV.enc) (y:=k6 m (o.runM m (l.take a) s).2 (l[a]'f)) z aF rfl (λ_=>rfl) cV.one (by rw[Q,NU];omega) (by rw[Q,NU];unfold maxLen;omega) (V.trans q).size λr aG j W aH X=>?_;have jc:Ext w W:=(V.trans q).grown X λg Y=>(aR.lt z g Y).1;have aI:jn i W _ _:=(aD.ext (y.trans q)).move (A:=λg=>(Value.slice al (o.runM m (l.take a) s).1.length an).ownBlock=some g) (Mod.grown X λa e=>e) λg Y Z=>by
  obtain⟨bB,aJ⟩:=aR.b0 z g Z;refine⟨by have:=(aR.lt z g Z).1;omega,λj S bC e=>?_⟩;rw[aJ] at e;injection e with e;injection e with _ e;subst e;decide
 refine aa ?_;refine⟨f,aZ,((aC,_,bj),(r,aG,j)),aV,?_,?_,jc⟩
 .rw[U];exact aI
 .rw[U];exact aH
end Go.Proofs.R
namespace o
open Go
theorem ahj(m:Model)(l:C_ cV)(s:C_ Int):∀b a,a<=b->∃c,(runM m (ho l b) s).1=(runM m (ho l a) s).1++c
 | 0,a,d=>⟨[],by rw[show a=0 by omega,AG8]⟩
 | b+1,a,d=>by
  by_cases e:a=b+1
  .exact⟨[],by rw[e,AG8]⟩
  .obtain⟨c,f⟩:=ahj m l s b a AW;exact⟨c++(runM m l (jF m l s b)).1,by rw[ahk,f,VA]⟩
def afb(m:Model)(a b:C_ cV)(f:C_ Int)(n:Nat):(runM m (a++ho b n) f).1.length=a.length+n*b.length:=by
 rw[Cd,Jv,On]
def afc(m:Model)(a b:C_ cV)(f:C_ Int){i n:Nat}(h:i<=n):(runM m (a++ho b n) f).1.take (a.length+i*b.length)=(runM m (a++ho b i) f).1:=by
 obtain⟨c,d⟩:=ahj m b (runM m a f).2 n i h;have e:(runM m (a++ho b n) f).1=(runM m (a++ho b i) f).1++c:=by
  rw[u6,u6];simp only;rw[d,VA]
 rw[e,<-afb m a b f i,List.take_left'];rfl
def atk(m:Model)(b a:C_ cV)(f:C_ Int)(n:Nat):(runM m (b++ho a (n+1)) f).1=(runM m (b++ho a n) f).1++(runM m a (jF m a (runM m b f).2 n)).1:=by
 rw[u6,u6];simp only;rw[ahk,VA]
def atl(m:Model)(a b:C_ cV)(f:C_ Int):(runM m (a++ho b 0) f).1=(runM m a f).1:=by
 show(runM m (a++[]) f).1=_;rw[AG8]
theorem awY(m:Model)(l:C_ cV)(s:C_ Int):jF m l s 0=s:=rfl
theorem acS(m:Model)(l:C_ cV)(s:C_ Int):jU m l s 0=[]:=rfl
def apN{m:Model}{l:C_ cV}{s:C_ Int}{n:Nat}(f:(jU m l s n).Nodup):(∃b,b<n/\a8.g9 (λa=>decide (a=jF m l s n)) (jU m l s n) 0=(b:Int)/\YI m l s b n)\/(a8.g9 (λa=>decide (a=jF m l s n)) (jU m l s n) 0 = -1/\(jU m l s (n+1)).Nodup):=by
 by_cases a:jF m l s n∈jU m l s n
 .obtain⟨b,g,j,k⟩:=Rf (p:=λa=>decide (a=jF m l s n)) (jU m l s n) 0 ⟨_,a,Ah⟩;have d:b<n:=by rwa[Sq] at g
  have h:=List.find?_some k;have c:=apO m l s d;rw[List.getElem?_eq_getElem g] at c;injection c with c
  simp only[decide_eq_true_eq] at h;exact .inl ⟨b,d,by rw[j,ZB],d,by rw[<-h,c],f⟩
 .refine .inr ⟨Rc _ _ λr p=>?_,?_⟩
  .simp only[decide_eq_false_iff_not];intro e;subst e;exact a p
  .rw[acR];exact List.nodup_append.2 ⟨f,Ah,λt q u i e=>a (by rw[AH0] at i;rw[<-i,<-e];exact q)⟩
end o
namespace Go.Proofs.R
open Go Go.RowKit a8 o
attribute [local irreducible] dE bD o.insts o.refs jH fE o.runM k6 p9 jU dp gB
structure ov(cC base:Nat)(W:World)(v:Value)(Q:List (List Int)):Prop where
 ex:∃bL:List (hp 1),bL.length=Q.length/\ng T.b 1 base W v bL/\∀i (I:i<bL.length) (U:i<Q.length),∃u,bL[i].1=[u]/\jn cC W u Q[i]
def ov.nil(a base:Nat)(b:A_):ov a base b (.slice none 0 0) []:=⟨[],rfl,aR.nil _ _ _ _ _,λd c=>by cases c⟩
def ov.form{c base:Nat}{d:A_}{v:B_}{Q:C_ (C_ Int)}(h:ov c base d v Q):∃b a,v = .slice b Q.length a/\Q.length<=a/\a<=maxLen:=by
 obtain⟨j,e,f,_⟩:=h.ex;obtain⟨b,a,g,k,i⟩:=f.form;exact⟨b,a,by rw[g,e],AW,i⟩
def ov.move{d base:Nat}{A:Nat->Prop}{b e:A_}{v:B_}{Q:C_ (C_ Int)}(h:ov d base b v Q)(m:Mod A b e)(f:∀a,a<b.heap.size->A a->tM d b a)(g:∀c,v.ownBlock=some c->¬A c):ov d base e v Q:=by
 obtain⟨i,j,k,l⟩:=h.ex;exact⟨i,j,k.mod m g,λa n p=>let ⟨q,r,c⟩:=l a n p; ⟨q,r,c.move m f⟩⟩
theorem ov.ext{b base:Nat}{c d:A_}{v:B_}{Q:C_ (C_ Int)}(h:ov b base c v Q)(m:Ext c d):ov b base d v Q:=h.move (A:=λ_=>False) m.mod (λ_ _ a=>a.elim) λ_ _ a=>a
def ov.b0{e base:Nat}{b:A_}{v:B_}{Q:C_ (C_ Int)}(h:ov e base b v Q):∀a,v.ownBlock=some a->base<=a/\a<b.heap.size/\∃f,b.heap[a]? = some (.cells f T.b):=λa c=>by
 obtain⟨g,i,d,j⟩:=h.ex;exact⟨(d.lt a c).1,(d.lt a c).2,d.b0 a c⟩
def ov.N2{b base:Nat}{a:A_}{v:B_}{Q:C_ (C_ Int)}(h:ov b base a v Q):hB a v Q:=by
 obtain⟨m,c,d,e⟩:=h.ex;exact a4.B4 c (d.iw hs) λf g i=>let ⟨j,k,l⟩:=e f g i; ⟨j,k,l.qP⟩
def _root_.a8.K.ajR{P:D_}{p:B_->A_->Prop}{f base:Nat}{w:A_}{v:B_}{Q:C_ (C_ Int)}{A:F_}{b q:Nat}{d:B_}{g:C_ Int}{t}(r:ov f base w v Q)(B:w.heap[q]? = some (.cells #[d] T.b))(C:jn f w d g)(h:d.oneCell'=true)
  (G:(Q.length+1)*b<=140737488355328)(H:Q.length+1<=maxLen)(I:base<=w.heap.size)(S:f<=base)
  (a:∀i e,ov f base e i (Q++[g])->w.grownBy e v.ownBlock->p i e):lQ P A T.b 1 b v (.slice (some ⟨q,0,none⟩) 1 1) w p t:=by
 obtain⟨j,l,J,K⟩:=r.ex;refine _J (enc:=iO) (ys:=[(⟨[d],rfl,by simpa using h⟩:hp 1)]) J hs (by simpa[iO] using gP B) rfl rp (by rw[l];exact G) (by rw[l];exact H) I λi e L s U=>a i e ⟨j++[⟨[d],rfl,by simpa using h⟩],by simp[l],L,λc h M=>?_⟩ s;have u:Mod (λx=>v.ownBlock=some x) w e:=Mod.grown s λx a=>a;have y:∀c,c<w.heap.size->v.ownBlock=some c->tM f w c:=λc _ k=>by
  obtain⟨V,W,X,N⟩:=r.b0 c k;exact⟨AW,λY t Z a=>by rw[N] at a;injection a with a;injection a with _ a;subst a;decide⟩
 rw[Jv] at h M;by_cases k:c<j.length
 .have z:c<Q.length:=AW
  obtain⟨O,m,n⟩:=K c k z;exact⟨O,by simpa[List.getElem_append,k] using m,by simpa[List.getElem_append,z] using n.move u y⟩
 .have m:c=j.length:=by simp at h;omega
  subst m;have n:¬j.length<Q.length:=AW
  exact⟨d,Ah,by simpa[List.getElem_append,n] using C.move u y⟩
def atg(a vs:B_)(h s:C_ Int)(b:Nat)(w:A_)(j:w.heap[b]? = some (.cells #[vs] T.b))(c:cH w vs s)(d:cH w a h) :
  EG F.wW #[a,.pointer (some ⟨b,0,none⟩)] w λe f=>e = .bool (decide (h=s))/\Ext w f:=by
 refine bm E.wW ?_;refine aa ?_;refine J_ (BT _ _ _ _ w d c) ?_;rintro _ k ⟨⟨l,rfl,g⟩,i⟩;refine aa ?_;exact⟨by congr 1;rw[AH4,decide_eq_true_eq];exact g,i⟩
theorem ahv(v:B_)(xs:C_ cV)(w:A_)(h:a4 2 (Flat cV.enc) w v xs)(y:xs.length<=1000000) :
  EG F.gH #[v] w λc d=>aR cV.enc T.g 2 w.heap.size d c xs/\Ext w d:=by
 obtain⟨f,z,rfl,A⟩:=h.form;refine vl E.gH ?_;refine ow ?_;refine aa ?_;refine AA2 (e:=T.g) Cg ?_;cases f with
 | none =>
  refine aa ?_;have g:xs=[]:=Classical.byContradiction λi=>by
   obtain⟨j,k⟩:=h.addr (List.length_pos_iff.2 i);cases k
  subst g;refine _F rfl ?_;refine aa ?_;exact⟨aR.nil _ _ _ _ _,Ext.refl _⟩
 | some j =>
  refine aa ?_;refine _G rfl ?_;refine aa ?_;intro l m n a p;have e:aR cV.enc T.g 2 w.heap.size l (.slice (some ⟨m,0,none⟩) 0 0) []:=aR.empty n p;refine aa ?_;refine _D (enc:=cV.enc) e (h.ext Flat.ext a) (λ_=>rfl) cV.one (by simp only[List.length_nil];omega) (by simp only[List.length_nil];unfold maxLen;omega) a.size λc q b r=>?_;rw[AH2] at b;have s:Ext w q:=a.grown r λt u=>(e.lt t u).1;have x:=b.form;obtain⟨B,C,rfl,_⟩:=x;refine aa ?_;exact⟨b,s⟩
end Go.Proofs.R