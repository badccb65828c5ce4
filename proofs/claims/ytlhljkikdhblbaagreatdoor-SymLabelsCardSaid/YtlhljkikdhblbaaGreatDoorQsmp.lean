/- Parts. -/
import Derived.Test.YtlhljkikdhblbaaGreatDoorQsmo
set_option linter.all false
set_option maxRecDepth 4000
set_option maxHeartbeats 16000000
namespace o
open Go
structure cR where
 cmd:Int
 eH:Int
deriving DecidableEq
def Ob{m:Model}(d:(check m).bK=0){s:C_ Int}(b:Fits m s){x:jE}(e:x∈ek m s):Fits m x.to:=by
 rcases Oc d e with ⟨_,_,a⟩ | ⟨f,g,h,i,c⟩
 .rw[a];exact b
 .have hu:=ama c.at_ b c.aa0;rcases c.aiD with ⟨_,a⟩ | ⟨_,hw,a⟩
  .rw[a];exact hu
  .rw[a];exact atV (gA d) b hu hw
def lG(m:Model)(s:C_ Int)(x:cR):H_ (C_ Int):=((ek m s).find? λa=>decide (a.cmd=x.cmd/\a.eH=x.eH)).map (·.to)
theorem V1{m:Model}{s d:C_ Int}{x:cR}(h:lG m s x=some d):∃a∈ek m s,a.cmd=x.cmd/\a.eH=x.eH/\a.to=d:=by
 unfold lG at h;cases b:(ek m s).find? λa=>decide (a.cmd=x.cmd/\a.eH=x.eH) with
 | none=>rw[b] at h;cases h
 | some a =>
  rw[b] at h;have e:=List.mem_of_find?_eq_some b;have c:=List.find?_some b;simp only[decide_eq_true_eq] at c;simp only[Option.map_some,Option.some.injEq] at h;exact⟨a,e,c.1,c.2,h⟩
theorem V0{m:Model}(e:(check m).bK=0){s:C_ Int}{y:jE}(d:y∈ek m s):lG m s ⟨y.cmd,y.eH⟩=some y.to:=by
 unfold lG;cases a:(ek m s).find? λb=>decide (b.cmd=y.cmd/\b.eH=y.eH) with
 | none =>
  have:=List.find?_eq_none.1 a y d
  simp at this
 | some b =>
  have f:=List.mem_of_find?_eq_some a;have c:=List.find?_some a;simp only[decide_eq_true_eq] at c
  have:=auh e f d c.1 c.2
  rw[this];rfl
def VZ{m:Model}(b:(check m).bK=0){s a:C_ Int}(c:Fits m s){x:cR}(h:lG m s x=some a):Fits m a:=by
 obtain⟨f,d,_,_,e⟩:=V1 h;rw[<-e];exact Ob b c d
def wu(m:Model)(c:C_ Int)(x:cR):H_ (C_ Int):=(lG m c x).map (fb m)
def gE(m:Model):C_ cR->C_ Int->H_ (C_ Int)
 | [],a=>some a
 | b :: c,a=>match wu m a b with
  | none=>none
  | some d=>gE m c d
theorem JB(m:Model):∀(c a:C_ cR) (b:C_ Int),gE m (c++a) b=match gE m c b with | none=>none | some d=>gE m a d
 | [],a,b=>rfl
 | e :: c,a,b=>by
  simp only[List.cons_append,gE];cases wu m b e with
  | none=>rfl
  | some d=>exact JB m c a d
def Aa(m:Model)(f:Int->Int->Int)(r:Nat):Int:=match (refs m)[r]? with
 | some a=>((refs m).idxOf ⟨(HG m f a.inst.toNat:Nat),a.cmd⟩:Nat)
 | none=>r
theorem aw7(m:Model):(refs m).Nodup:=by
 refine(Vt m (insts m) 0).1.imp λ{b c} d a=>?_;subst a;omega
theorem pG.g{m:Model}{f:Int->Int->Int}{r a q q' p k:Nat}(h:pG m f r a q q' p k):Aa m f r=a:=by
 have d:=h.a.ab;have e:=h.b.ab;have b:=h.a.at_;have c:=h.b.at_;simp only[Int.toNat_natCast] at d e b c;have j:(refs m)[a]=⟨((HG m f ((refs m)[r].inst.toNat):Nat):Int),((refs m)[r]).cmd⟩:=by
  have l:=b.rH;have n:=b.sD;have g:=c.rH;have i:=c.sD;rw[l,AG2,h.i.g,n];generalize (refs m)[a]=s at *;cases s;simp only at g i;rw[g,i]
 unfold Aa;rw[List.getElem?_eq_getElem d];simp only;rw[<-j,(aw7 m).idxOf_getElem a e]
def Z2(m:Model)(s:C_ Int):Int->Int->Int:=gK (l1 (vx m s))
def k1(m:Model)(s:C_ Int)(x:cR):cR:=if x.cmd<0 then x else ⟨Aa m (Z2 m s) x.cmd.toNat,x.eH⟩
def p7(m:Model)(s:C_ Int)(y:cR):C_ Int:=if y.cmd<0 then s else (lG m s y).getD []
def ayd{m:Model}(b:(check m).bK=0){s:C_ Int}{y:jE}(c:y∈ek m s)(h:y.cmd<0):y.cmd = -1/\y.eH=0/\y.to=s:=by
 rcases Oc b c with a | ⟨d,e,f,g,a⟩
 .exact a
 .have:=a.at_.aQ
  omega
def Qz{m:Model}(a:(check m).bK=0){s t:C_ Int}(i:Fits m s){x:cR}(h:lG m (fb m s) x=some t) :
  ∃d,lG m s (k1 m s x)=some d/\p7 m s (k1 m s x)=d/\Fits m d/\fb m d=fb m t/\(x.cmd<0->x.cmd = -1) /\
   (0<=x.cmd->∃e j k l n,pG m (Z2 m s) x.cmd.toNat e j k l n/\k1 m s x=⟨(e:Nat),x.eH⟩):=by
 obtain⟨f,G⟩:=QP a i.len;have u:=f.pz (jX a);have v:=yX a f i.len;rw[G] at v;obtain⟨H,I,w,g,rfl⟩:=V1 h;obtain⟨b,p,q,y,J⟩:=afV u.symm a (v.symm u) I;have r:=V0 a p;have z:=Ob a i p;have A:fb m b.to=fb m H.to:=by
  rw[C1 a (x5 f) y,ala a y.ls (x5 f)]
 rcases J with ⟨bg,bj⟩ | ⟨K,e,j,k,l,n,bg,bj,B⟩
 .have c:k1 m s x=⟨b.cmd,b.eH⟩:=by
   unfold k1;rw[if_pos AY];cases x;simp only at w g;rw[<-w,<-g,bg,bj,q]
  rw[c];refine⟨b.to,r,?_,z,A,λ_=>AY,λL=>AY⟩;unfold p7;simp only;rw[if_pos AY];exact(ayd a p AY).2.2.symm
 .have C:x.cmd.toNat=K:=AY
  have c:k1 m s x=⟨b.cmd,b.eH⟩:=by
   unfold k1;rw[if_neg AY,C,bj,q,g];congr 1;exact B.g
  refine⟨b.to,by rw[c];exact r,?_,z,A,λL=>AY,λ_=>⟨e,j,k,l,n,by rw[C];exact B,by rw[c,bj,q,g]⟩⟩;rw[c];unfold p7;simp only;rw[if_neg AY,r];rfl
def runM(m:Model):C_ cR->C_ Int->C_ cR×C_ Int
 | [],a=>([],a)
 | b :: c,a=>(k1 m a b :: (runM m c (p7 m a (k1 m a b))).1,(runM m c (p7 m a (k1 m a b))).2)
theorem Ch(m:Model):∀(a:C_ cR) (b:C_ Int),(runM m a b).1.length=a.length
 | [],_=>rfl
 | c :: a,b=>by simp only[runM,List.length_cons,Ch m a]
theorem u5(m:Model):∀(a b:C_ cR) (c:C_ Int),runM m (a++b) c=((runM m a c).1++(runM m b (runM m a c).2).1,(runM m b (runM m a c).2).2)
 | [],b,c=>rfl
 | d :: a,b,c=>by simp only[List.cons_append,runM,u5 m a b]
theorem Iu{m:Model}(g:(check m).bK=0):∀(c:C_ cR) (b d:C_ Int),Fits m b->gE m c (fb m b)=some d->Fits m (runM m c b).2/\fb m (runM m c b).2=d
 | [],b,d,e,a=>by
  injection a with a
  exact⟨e,a⟩
 | h :: c,b,d,e,a=>by
  simp only[gE,wu] at a;cases f:lG m (fb m b) h with
  | none=>rw[f] at a;cases a
  | some n =>
   rw[f] at a;simp only[Option.map_some] at a;obtain⟨i,p,j,k,l,_⟩:=Qz g e f;simp only[runM];rw[j];rw[<-l] at a;exact Iu g c i d k a
def hq(l:C_ cR):Nat->C_ cR
 | 0=>[]
 | a+1=>hq l a++l
theorem OL(l:C_ cR):∀a,(hq l a).length=a*l.length
 | 0=>by simp[hq]
 | a+1=>by simp only[hq,List.length_append,OL l a,Nat.succ_mul]
theorem JC{m:Model}{l:C_ cR}{c:C_ Int}(h:gE m l c=some c):∀a,gE m (hq l a) c=some c
 | 0=>rfl
 | a+1=>by simp only[hq,JB,JC h a];exact h
def jy(m:Model)(l:C_ cR)(s:C_ Int)(n:Nat):C_ Int:=(runM m (hq l n) s).2
def axq(m:Model)(l:C_ cR)(s:C_ Int)(n:Nat):jy m l s (n+1)=(runM m l (jy m l s n)).2:=by
 unfold jy;simp only[hq,u5]
theorem ahT(m:Model)(l:C_ cR)(s:C_ Int)(n:Nat):(runM m (hq l (n+1)) s).1=(runM m (hq l n) s).1++(runM m l (jy m l s n)).1:=by
 unfold jy;simp only[hq,u5]
theorem af6{α:Type}[DecidableEq α]:∀(a b:C_ α),a.Nodup->(∀c∈a,c∈b)->a.length<=b.length
 | [],_,_,_=>AG6 _
 | d :: a,b,e,f=>by
  rw[List.nodup_cons] at e;have h:=f d (AG3 ..);have i:=(List.perm_cons_erase h).length_eq;have k:=af6 a (b.erase d) e.2 λc g=>(List.mem_erase_of_ne (λ(j:c=d)=>e.1 (j ▸ g))).2 (f c (AG4 _ g));simp only[List.length_cons] at i ⊢;omega
def avI(n:Nat):(sB n).length=fO n:=by simp[sB]
theorem ab2{s:C_ Scalar}(i:qk s):(ep s).length<=576:=by
 have d:∀a,a<=4->fO a<=24:=Ae
 have e:∀a f,(lP (a :: f)).length=fO a*(lP f).length:=λa f=>by
  simp only[lP,List.length_flatMap,List.length_map];rw[List.map_const',List.sum_replicate_nat,avI]
 obtain⟨j,k⟩:=i;have b:∀a∈lE s,a<=4:=λa l=>by
  obtain⟨m,n,rfl⟩:=List.mem_map.1 l
  have:=k m n
  omega
 have p:(lE s).length<=2:=by simpa[lE] using j
 unfold ep
 match g:lE s,p with
 | [],_=>decide
 | [c],_ =>
  rw[g] at b
  have:=d c (b c Ah)
  rw[e];simp only[lP,List.length_singleton];omega
 | [c,h],_ =>
  rw[g] at b;have q:=d c (b c Ah);have r:=d h (b h Ah);rw[e,e];simp only[lP,List.length_singleton,Nat.mul_one];exact AI9 q r
def akj{m:Model}(c:(check m).bK=0){s:C_ Int}{l:C_ (C_ Int)}(e:l.Nodup)(h:∀a∈l,Alike m s a):l.length<=576:=by
 have d:=af6 l ((ep m.scalars).map λb=>hj m b s) e λa f=>by
  obtain⟨b,g,rfl⟩:=h a f;exact List.mem_map.2 ⟨b,(uT (jX c)).2 g,rfl⟩
 rw[AG8] at d;exact Ug d (ab2 (jX c))
def akk{m:Model}(a:(check m).bK=0){s t:C_ Int}(c:s.length=cH m)(d:t.length=cH m)(h:fb m t=fb m s):Alike m s t:=by
 obtain⟨⟨f,e,g⟩,_⟩:=AT a c;obtain⟨⟨i,b,j⟩,_⟩:=AT a d;refine⟨uV f (l1 i),B2 e (x5 b),?_⟩;rw[<-Jx a e (x5 b) c,<-g,<-h,j,Zy a b d]
def jP(m:Model)(l:C_ cR)(s:C_ Int)(n:Nat):C_ (C_ Int):=(List.range n).map (jy m l s)
def adf(m:Model)(l:C_ cR)(s:C_ Int)(n:Nat):jP m l s (n+1)=jP m l s n++[jy m l s n]:=by unfold jP;rw[AI8,AF9];rfl
def SA(m:Model)(l:C_ cR)(s:C_ Int)(n:Nat):(jP m l s n).length=n:=by simp[jP]
def aqp(m:Model)(l:C_ cR)(s:C_ Int){n i:Nat}(h:i<n):(jP m l s n)[i]? = some (jy m l s i):=by simp[jP,h]
def VA{m:Model}(a:(check m).bK=0){l:C_ cR}{s:C_ Int}(b:Fits m s)(h:gE m l (fb m s)=some (fb m s))(n:Nat):Fits m (jy m l s n)/\fb m (jy m l s n)=fb m s:=Iu a _ s _ b (JC h n)
def ade{m:Model}(a:(check m).bK=0){l:C_ cR}{s:C_ Int}(b:Fits m s)(h:gE m l (fb m s)=some (fb m s)){n:Nat}(d:(jP m l s n).Nodup):n<=576:=by
 have:=akj a (s:=s) d λi c=>by
  unfold jP at c;obtain⟨e,_,rfl⟩:=List.mem_map.1 c;obtain⟨f,g⟩:=VA a b h e;exact akk a b.len f.len g
 rwa[SA] at this
structure YY(m:Model)(l:List cR)(s:List Int)(i n:Nat):Prop where
 lt:i<n
 same:jy m l s n=jy m l s i
 nodup:(jP m l s n).Nodup
structure CP(m:Model)(dd loop:List cR)(a b:List cR)(e:Int):Prop where
 arg:(check m).bK≠0->a=[]/\b=[]/\e=2
 none_:(check m).bK=0->loop=[]->a=[]/\b=[]/\e=8
 air:(check m).bK=0->loop≠[]->gE m dd (fb m (dn m))=none->a=[]/\b=[]/\e=17
 afL:(check m).bK=0->loop≠[]->∀c,gE m dd (fb m (dn m))=some c->gE m loop c≠some c->a=[]/\b=[]/\e=18
 VH:(check m).bK=0->loop≠[]->∀c,gE m dd (fb m (dn m))=some c->gE m loop c=some c->e=0/\∃i n,YY m loop (runM m dd (dn m)).2 i n /\
  a=(runM m (dd++hq loop i) (dn m)).1/\a++b=(runM m (dd++hq loop n) (dn m)).1
def TX{x y:c9}(a:x.proc=y.proc)(b:x.elem=y.elem):x=y:=by
 cases x;cases y;simp only at a b;rw[a,b]
def asD{m:Model}{f b:Int->Int->Int}(r:eD m.scalars f b){q q' p:Nat}(h:jD m f q q' p){k:Nat}(c:k<(insts m).length) :
  ((insts m)[k].proc=p/\((m.procs[p]'h.a.aB).over=0\/(insts m)[k].elem=f (m.procs[p]'h.a.aB).over ((insts m)[q]'h.a.ax).elem))↔k=q':=by
 constructor
 .rintro⟨i,a⟩;refine Mk c h.b.ax (TX (i.trans h.b.eq.symm) ?_);rcases a with a | a
  .obtain⟨j,d⟩:=wg c;have l:j=p:=by have:=d.eq;omega
   subst l;have e:=h.b.F5;have g:=d.F5;have n:=ah7 m.scalars;rw[a] at e g;rw[n] at e g;omega
  .rw[a,h.elem]
 .rintro rfl;exact⟨h.b.eq,.inr h.elem⟩
def jD.fix{m:Model}{f b:Int->Int->Int}(a:eD m.scalars f b){q q' p:Nat}(h:jD m f q q' p)(c:(m.procs[p]'h.a.aB).over=0):q'=q :=
 ((asD a h h.a.ax).1 ⟨h.a.eq,.inl c⟩).symm
def pG.at_{m:Model}{f:Int->Int->Int}{r c q q' p k:Nat}(h:pG m f r c q q' p k):∃d:r<(refs m).length,(refs m)[r].inst=q/\(refs m)[r].cmd=k:=by
 have b:=h.a.ab;have a:=h.a.at_;simp only[Int.toNat_natCast] at b a;exact⟨b,a.rH,a.sD⟩
def Qx{s:C_ Scalar}(h:qk s){a b c:Int}(i:a=0\/size a s≠0)(e:2<=(dJ a b c s).kind):∃f:Nat,∃d:f<s.length,(dJ a b c s).kind=f+2/\(dJ a b c s).aQ=0/\(dJ a b c s).ab=s[f].size:=by
 unfold dJ at e ⊢;by_cases d:a=0
 .rw[if_pos d] at e;simp only at e;omega
 rw[if_neg d];have g:=i.resolve_left d;have k:1<=a:=Classical.byContradiction λj=>g (Cj (.inl AY));have l:a<=s.length:=Classical.byContradiction λj=>g (Cj (.inr AY))
 have:=OS h (i:=(a - 1).toNat) AY
 rw[show(((a - 1).toNat:Nat):Int)+1=a from AY] at this;exact⟨(a - 1).toNat,AY,by simp only;omega,rfl,this⟩
theorem as0{m:Model}(j:(check m).bK=0){c:Nat}{x:Cell}(a:(bF m)[c]? = some x)(d:2<=x.kind):∃i:Nat,∃b:i<m.scalars.length,x.kind=i+2/\x.aQ=0/\x.ab=m.scalars[i].size:=by
 have g:=jX j;have h:=gA j;have k:c<cH m:=by
  exact(List.getElem?_eq_some_iff.1 a).1
 obtain⟨p,l⟩:=De h ((HF m.scalars).pz g) k;cases l with
 | @var n e q b f r =>
  rw[sq b f] at a;injection a with a
  subst a;exact Qx g (h.var _ (FA b)).fa d
 | @chan n e b f =>
  rw[uN b f] at a;injection a with a
  subst a;cases e with
  | zero=>simp[iH] at d
  | succ e =>
   simp only[iH,List.getElem_cons_succ,List.getElem_replicate] at d ⊢;exact Qx g (h.chan _ (FA b)).fa d
 | @inst s t u e b f =>
  rw[ps b.a f] at a;injection a with a
  subst a;cases e with
  | zero=>simp[kR] at d
  | succ e =>
   simp only[kR,List.getElem_cons_succ,List.getElem_map] at d ⊢;exact Qx g ((h.proc _ (FA b.a.aB)).var _ (FA _)).fa d
def tT(m:Model)(f:Int->Int->Int)(s b:C_ Int):Nat->C_ Int
 | 0=>b
 | a+1=>(tT m f s b a).set (JR m f a) (fp f (pY m a) (s.getD a 0))
theorem Jy(m:Model)(f:Int->Int->Int)(s a:C_ Int):∀b,(tT m f s a b).length=a.length
 | 0=>rfl
 | b+1=>by rw[tT,ZP,Jy m f s a b]
theorem Zz{m:Model}(j:gh m){f b:Int->Int->Int}(d:eD m.scalars f b){s k:C_ Int}(n:s.length=cH m)(p:k.length=cH m):∀a,a<=cH m->∀c e,c<a->gI m f c e->(tT m f s k a)[e]? = s[c]?.map (fp f (pY m c))
 | 0,_,_,_,h,_=>absurd h (Od _)
 | a+1,q,c,e,r,g=>by
  obtain⟨t,i⟩:=De j d (c:=a) AY;rw[tT,i.g];by_cases l:c=a
  .subst l
   have:=JS g i rfl
   subst this;have u:=(g.lt d).2;rw[List.getElem?_set_self (by rw[Jy];omega),List.getElem?_eq_getElem AY,List.getD,List.getElem?_eq_getElem AY];rfl
  .rw[List.getElem?_set_ne (λh=>l ((JT d g i).2 h.symm))];exact Zz j d n p a AY c e AY g
def aj4{m:Model}(a:(check m).bK=0){g:C_ (C_ Int)}(b:fU m.scalars g){s c:C_ Int}(d:s.length=cH m)(e:c.length=cH m):tT m (gK g) s c (cH m)=hj m g s:=by
 have f:=b.pz (jX a);exact C1 a b ⟨d,by rw[Jy];exact e,λi j h=>Zz (gA a) f d e _ (EM _) i j (h.lt f).1 h⟩
def fH(m:Model)(c:Nat):Int×Int×Int:=match (bF m)[c]? with
 | some a=>if a.sort=1 then (match m.vars[a.jg.toNat]? with | some b=>if b.over > 0 then ((dS m a.jg.toNat:Int),a.place,b.over) else (0,0,0) | none=>(0,0,0))
  else if a.sort=3 then ((b7 m a.jg.toNat:Int),a.place,(match (insts m)[a.jg.toNat]? with | some d=>Et m d.proc | none=>0)) else (0,0,0)
 | none=>(0,0,0)
def jA(m:Model):C_ (Int×Int×Int):=(List.range (cH m)).map (fH m)
def We(m:Model):(jA m).length=cH m:=by simp[jA]
def O9{m:Model}{i j:Nat}(h:i<m.vars.length)(a:(j:Int)<cells m.vars[i] m.scalars):fH m (dS m i+j)=if m.vars[i].over > 0 then ((dS m i:Int),(j:Int),m.vars[i].over) else (0,0,0):=by
 unfold fH;rw[sq h a];simp only[if_true,Int.toNat_natCast];rw[List.getElem?_eq_getElem h]
def aiC{m:Model}{i j:Nat}(h:i<m.aA.length)(a:j<1+m.aA[i].cap.toNat):fH m (bS m i+j)=(0,0,0):=by
 unfold fH;rw[uN h a];rfl
def Wd{m:Model}{q p j:Nat}(h:hF m q p)(a:j<1+(m.procs[p]'h.aB).vars.length):fH m (b7 m q+j)=((b7 m q:Int),(j:Int),(m.procs[p]'h.aB).over):=by
 unfold fH;rw[ps h a];simp only[Int.toNat_natCast];rw[if_neg AY,if_pos trivial,List.getElem?_eq_getElem h.ax];simp only[Et];rw[h.eq,AG2,List.getElem?_eq_getElem h.aB]
def p8(m:Model)(i j:Nat):C_ (Int×Int×Int):=(List.range (cH m)).map λb=>match (bF m)[b]? with
 | some a=>if (a.sort=1/\a.jg<(i:Int))\/(a.sort=3/\a.jg<(j:Int)) then fH m b else (0,0,0)
 | none=>(0,0,0)
def va(m:Model)(i j:Nat):(p8 m i j).length=cH m:=by simp[p8]
def wE(l:C_ (Int×Int×Int))(first b:Int):Nat->C_ (Int×Int×Int)
 | 0=>l
 | a+1=>(wE l first b a).set (first.toNat+a) (first,(a:Int),b)
theorem Iz(l:C_ (Int×Int×Int))(first b:Int):∀a,(wE l first b a).length=l.length
 | 0=>rfl
 | a+1=>by rw[wE,ZP,Iz l first b a]
theorem VO(l:C_ (Int×Int×Int))(first:Nat)(c:Int):∀b,first+b<=l.length->∀a,(wE l first c b)[a]? = if first<=a/\a<first+b then some ((first:Int),((a - first:Nat):Int),c) else l[a]?
 | 0,_,a=>by rw[if_neg AY];rfl
 | b+1,d,a=>by
  rw[wE,AG2];by_cases e:a=first+b
  .subst e;rw[List.getElem?_set_self (by rw[Iz];omega),if_pos AY,show first+b - first=b from AY]
  .rw[List.getElem?_set_ne (λd=>e d.symm),VO l first c b AY a];by_cases f:first<=a/\a<first+b
   .rw[if_pos f,if_pos AY]
   .rw[if_neg f,if_neg AY]
theorem Cs{m:Model}{i j c:Nat}(b:c<cH m):(p8 m i j)[c]? = some (match (bF m)[c]? with
 | some a=>if (a.sort=1/\a.jg<(i:Int))\/(a.sort=3/\a.jg<(j:Int)) then fH m c else (0,0,0)
 | none=>(0,0,0)):=by
 unfold p8;rw[List.getElem?_map,List.getElem?_range b];rfl
theorem alm{m:Model}(f:(check m).bK=0){c:Nat}(i:c<cH m) :
  (∃d b:Nat,∃a:d<m.vars.length,(b:Int)<cells m.vars[d] m.scalars/\c=dS m d+b)\/(∃d b,∃a:d<m.aA.length,b<1+m.aA[d].cap.toNat/\c=bS m d+b) \/
   ∃g h b,∃a:hF m g h,b<1+(m.procs[h]'a.aB).vars.length/\c=b7 m g+b:=by
 obtain⟨k,j⟩:=De (gA f) ((HF m.scalars).pz (jX f)) i;cases j with
 | var a e l=>exact .inl ⟨_,_,a,e,rfl⟩
 | chan a e=>exact .inr (.inl ⟨_,_,a,e,rfl⟩)
 | inst a e=>exact .inr (.inr ⟨_,_,_,a.a,e,rfl⟩)
def JU{m:Model}{c:Nat}(a:c<cH m):∃b,(bF m)[c]? = some b:=⟨_,List.getElem?_eq_getElem (show c<(bF m).length from a)⟩
def alp{m:Model}{c:Nat}{x:Cell}(a:(bF m)[c]? = some x):c<cH m:=(List.getElem?_eq_some_iff.1 a).1
def JV{m:Model}(i:(check m).bK=0){c:Nat}{x:Cell}(b:(bF m)[c]? = some x) :
  (x.sort=1/\∃d a:Nat,x.jg=d/\∃e:d<m.vars.length,(a:Int)<cells m.vars[d] m.scalars/\c=dS m d+a)\/(x.sort=2/\∃d a:Nat,x.jg=d/\∃e:d<m.aA.length,a<1+m.aA[d].cap.toNat/\c=bS m d+a) \/
   (x.sort=3/\∃g a h:Nat,x.jg=g/\∃e:hF m g h,a<1+(m.procs[h]'e.aB).vars.length/\c=b7 m g+a):=by
 rcases alm i (alp b) with ⟨d,a,e,f,rfl⟩ | ⟨d,a,e,f,rfl⟩ | ⟨g,h,a,e,f,rfl⟩
 .rw[sq e f] at b;injection b with b
  subst b;exact .inl ⟨rfl,d,a,rfl,e,f,rfl⟩
 .rw[uN e f] at b;injection b with b
  subst b;exact .inr (.inl ⟨rfl,d,a,rfl,e,f,rfl⟩)
 .rw[ps e f] at b;injection b with b
  subst b;exact .inr (.inr ⟨rfl,g,a,h,rfl,e,f,rfl⟩)
def ay0{m:Model}(d:(check m).bK=0){c i:Nat}{x:Cell}(a:(bF m)[c]? = some x)(e:i<m.vars.length):(dS m i<=c/\c<dS m i+(cells m.vars[i] m.scalars).toNat)↔(x.sort=1/\x.jg=i):=by
 constructor
 .rintro⟨f,g⟩
  have:=sq (m:=m) (i:=i) (j:=c - dS m i) e AY
  rw[show dS m i+(c - dS m i)=c from AY,a] at this;injection this with this
  subst this;exact⟨rfl,rfl⟩
 .rintro⟨f,g⟩;rcases JV d a with ⟨_,h,j,b,k,l,rfl⟩ | ⟨b,_⟩ | ⟨b,_⟩
  .have:h=i:=AY
   subst this;omega
  .omega
  .omega
def asG{m:Model}(e:(check m).bK=0){c q p:Nat}{x:Cell}(b:(bF m)[c]? = some x)(a:hF m q p):(b7 m q<=c/\c<b7 m q+(1+(m.procs[p]'a.aB).vars.length))↔(x.sort=3/\x.jg=q):=by
 constructor
 .rintro⟨f,g⟩
  have:=ps (m:=m) (j:=c - b7 m q) a AY
  rw[show b7 m q+(c - b7 m q)=c from AY,b] at this;injection this with this
  subst this;exact⟨rfl,rfl⟩
 .rintro⟨f,g⟩;rcases JV e b with ⟨d,_⟩ | ⟨d,_⟩ | ⟨_,h,k,i,d,j,l,rfl⟩
  .omega
  .omega
  .have:h=q:=AY
   subst this
   have:i=p:=by have:=j.eq;have:=a.eq;omega
   subst this;omega
def Wp{m:Model}(e:(check m).bK=0){c:Nat}{x:Cell}(f:(bF m)[c]? = some x):0<=x.jg:=by
 rcases JV e f with ⟨_,a,b,d,_⟩ | ⟨_,a,b,d,_⟩ | ⟨_,a,b,g,d,_⟩<;>omega
def ayz{m:Model}(c:(check m).bK=0):p8 m 0 0=List.replicate (cH m) (0,0,0):=by
 apply List.ext_getElem?;intro d;by_cases a:d<cH m
 .obtain⟨e,b⟩:=JU a
  have:=Wp c b
  rw[Cs a,List.getElem?_replicate,if_pos a,b];simp only;rw[if_neg AY]
 .rw[List.getElem?_eq_none (by rw[va];omega),List.getElem?_eq_none (by simp;omega)]
def ayy{m:Model}(l:(check m).bK=0){i:Nat}(h:i<m.vars.length):p8 m (i+1) 0=if m.vars[i].over > 0 then wE (p8 m i 0) (dS m i:Nat) m.vars[i].over (cells m.vars[i] m.scalars).toNat else p8 m i 0:=by
 have n:=qV h;have p:=ni m;apply List.ext_getElem?;intro a;by_cases f:a<cH m;rotate_left
 .rw[List.getElem?_eq_none (by rw[va];omega)];split
  .rw[List.getElem?_eq_none (by rw[Iz,va];omega)]
  .rw[List.getElem?_eq_none (by rw[va];omega)]
 obtain⟨c,d⟩:=JU f;have q:=Wp l d;have j:=ay0 l d h;rw[Cs f,d];simp only;by_cases g:m.vars[i].over > 0
 .rw[if_pos g,VO _ _ _ _ (by rw[va];omega),Cs f,d];simp only;by_cases b:dS m i<=a/\a<dS m i+(cells m.vars[i] m.scalars).toNat
  .rw[if_pos b];have k:=j.1 b;rw[if_pos (.inl ⟨k.1,AY⟩)]
   have:=O9 (m:=m) (i:=i) (j:=a - dS m i) h AY
   rw[show dS m i+(a - dS m i)=a from AY,if_pos g] at this;rw[this]
  .rw[if_neg b];have r:=λk=>b (j.2 k);by_cases e:c.sort=1/\c.jg<(i:Int)
   .rw[if_pos (.inl ⟨e.1,AY⟩),if_pos (.inl e)]
   .rw[if_neg AY,if_neg AY]
 .rw[if_neg g,Cs f,d];simp only;by_cases b:c.sort=1/\c.jg=(i:Int)
  .rw[if_pos (.inl ⟨b.1,AY⟩),if_neg AY];have s:=j.2 b
   have:=O9 (m:=m) (i:=i) (j:=a - dS m i) h AY
   rw[show dS m i+(a - dS m i)=a from AY,if_neg g] at this;rw[this]
  .by_cases e:c.sort=1/\c.jg<(i:Int)
   .rw[if_pos (.inl ⟨e.1,AY⟩),if_pos (.inl e)]
   .rw[if_neg AY,if_neg AY]
def ayx{m:Model}(g:(check m).bK=0){q p:Nat}(h:hF m q p):p8 m m.vars.length (q+1)=wE (p8 m m.vars.length q) (b7 m q:Nat) (m.procs[p]'h.aB).over (1+(m.procs[p]'h.aB).vars.length):=by
 have k:=h.room;apply List.ext_getElem?;intro a;by_cases e:a<cH m;rotate_left
 .rw[List.getElem?_eq_none (by rw[va];omega),List.getElem?_eq_none (by rw[Iz,va];omega)]
 obtain⟨b,c⟩:=JU e;have l:=Wp g c;have i:=asG g c h;rw[Cs e,c,VO _ _ _ _ (by rw[va];omega),Cs e,c];simp only;by_cases d:b7 m q<=a/\a<b7 m q+(1+(m.procs[p]'h.aB).vars.length)
 .rw[if_pos d];have f:=i.1 d;rw[if_pos (.inr ⟨f.1,AY⟩)]
  have:=Wd (j:=a - b7 m q) h AY
  rw[show b7 m q+(a - b7 m q)=a from AY] at this;rw[this]
 .rw[if_neg d];have n:=λf=>d (i.2 f);by_cases j:(b.sort=1/\b.jg<(m.vars.length:Int))\/(b.sort=3/\b.jg<(q:Int))
  .rw[if_pos AY,if_pos j]
  .rw[if_neg AY,if_neg j]
def ayw{m:Model}(g:(check m).bK=0):p8 m m.vars.length (insts m).length=jA m:=by
 apply List.ext_getElem?;intro h;by_cases c:h<cH m;rotate_left
 .rw[List.getElem?_eq_none (by rw[va];omega),List.getElem?_eq_none (by rw[We];omega)]
 obtain⟨k,d⟩:=JU c;rw[Cs c,d];unfold jA;rw[List.getElem?_map,List.getElem?_range c,AI5];simp only;congr 1;rcases JV g d with ⟨a,i,e,f,b,_⟩ | ⟨a,i,e,f,b,j,rfl⟩ | ⟨a,l,e,n,f,b,_⟩
 .rw[if_pos (.inl ⟨a,AY⟩)]
 .rw[if_neg AY,aiC b j]
 .have:=b.ax
  rw[if_pos (.inr ⟨a,AY⟩)]
def ayv{m:Model}{c:Nat}(a:c<(jA m).length):(jA m)[c]=fH m c:=by simp[jA]
def ass{m:Model}{q q':Nat}(h:q<(insts m).length)(b:q'<(insts m).length)(e:b7 m q=b7 m q'):q=q':=by
 obtain⟨g,c⟩:=wg h;obtain⟨i,d⟩:=wg b;have a:=ps (j:=0) c AY;have f:=ps (j:=0) d AY;rw[e,f] at a;injection a with a
 injection a with _ a
 omega
def ast{m:Model}{q i:Nat}(h:q<(insts m).length)(c:i<m.vars.length)(d:(0:Int)<cells m.vars[i] m.scalars):b7 m q≠dS m i:=λe=>by
 obtain⟨g,f⟩:=wg h;have a:=ps (j:=0) f AY;have b:=sq (j:=0) c d;rw[AH1] at a b;rw[e,b] at a;injection a with a
 injection a with a
 omega
theorem alk{m:Model}{f b:Int->Int->Int}(g:eD m.scalars f b){c i:Nat}(h:gI m f c i)(a:(fH m c).2.2=0):i=c:=by
 cases h with
 | @var e j l h d n =>
  rw[O9 h d] at a;have p:m.vars[e].over<=0:=by
   by_cases k:m.vars[e].over > 0
   .rw[if_pos k] at a;simp only at a;omega
   .omega
  have:=g.out m.vars[e].over ((j:Int)+1) (.inr (by rw[Cj (.inl AY)];omega))
  omega
 | chan h d=>rfl
 | @inst q r s j h d =>
  rw[Wd h.a d] at a;rw[h.fix g a]
end o
namespace Go.Proofs.R
open Go Go.RowKit ba
attribute [local irreducible] o.ep o.bF o.insts
end Go.Proofs.R
namespace ba
open Go Go.RowKit
def ajw(_:A_)(cs:C_ B_)(x:Nat):Prop:=cs=vC x
instance aBW:Rel (Flat vC) ajw 1 where
 out h:=⟨_,h,rfl⟩
 kx h k:=by cases k;exact h
 len h:=by cases h;rfl
 one h:=by cases h;exact am0 _
 ext _ h:=h
end ba
namespace Go.Proofs.R
open Go Go.RowKit ba o
attribute [local irreducible] ep bF o.insts
attribute [local irreducible] o.refs
attribute [local irreducible] jA fH
end Go.Proofs.R
namespace o
open Go
def nN(t:Int×Int×Int):C_ B_:=[.int .i64 t.1,.int .i64 t.2.1,.int .i64 t.2.2]
def amZ:∀(a:Int×Int×Int),∀b∈nN a,b.oneCell'=true:=by
 intro a b c;simp[nN] at c;rcases c with rfl | rfl | rfl<;>rfl
theorem KE{α:Type}{p:α->Bool}:∀(b:C_ α) (a c:Nat) (e:a<b.length),p b[a]=true->(∀d (g:d<b.length),d<a->p b[d]=false)->ba.hd p b c=((c+a:Nat):Int)
 | [],_,_,e,_,_=>absurd e (Od _)
 | k :: h,0,c,_,f,_=>by
  simp only[List.getElem_cons_zero] at f;simp[ba.hd,f]
 | k :: h,a+1,c,e,f,i=>by
  have j:=i 0 Ah AY;simp only[List.getElem_cons_zero] at j;simp only[ba.hd,j,Bool.false_eq_true,if_false];rw[KE h a (c+1) (by simpa using e) (by simpa using f) λd g l=>i (d+1) (by simpa using g) AY];congr 1;omega
theorem Rt{α:Type}{p:α->Bool}:∀(c:C_ α) (a:Nat),(∀b∈c,p b=false)->ba.hd p c a = -1
 | [],_,_=>rfl
 | b :: e,a,d=>by
  simp only[ba.hd,d b (List.mem_cons_self ..),Bool.false_eq_true,if_false];exact Rt e (a+1) λf g=>d f (AG4 _ g)
def ahi{x y:Ref}(a:x.inst=y.inst)(b:x.cmd=y.cmd):x=y:=by
 cases x;cases y;simp only at a b;rw[a,b]
def asF{m:Model}{f b:Int->Int->Int}(g:eD m.scalars f b){q q' p:Nat}(h:jD m f q q' p) :
  ba.hd (λa=>decide ((⟨((insts m)[q]'h.a.ax).proc,f (m.procs[p]'h.a.aB).over ((insts m)[q]'h.a.ax).elem⟩:c9)=a)) (insts m) 0=q':=by
 have d:=h.b.ax;have c:(⟨((insts m)[q]'h.a.ax).proc,f (m.procs[p]'h.a.aB).over ((insts m)[q]'h.a.ax).elem⟩:c9)=(insts m)[q']:=TX (by rw[h.a.eq,h.b.eq]) h.elem.symm;rw[c]
 have:=KE (p:=λa=>decide ((insts m)[q']=a)) (insts m) q' 0 d Ah λi e j=>by
  simp only[decide_eq_false_iff_not];intro c
  have:=Mk d e c
  omega
 rw[this,ZQ]
theorem alo{m:Model}(A:qk m.scalars)(v:gh m){f b:Int->Int->Int}(q:eD m.scalars f b){c i:Nat}(k:gI m f c i) :
  ((fH m c).2.2=0->i=c)/\((fH m c).2.2≠0->(∃a j l:Nat,jD m f a j l/\ba.hd (λg=>decide ((fH m c).1=g)) (layout m).insts 0=a/\(i:Int)=b7 m j+(fH m c).2.1) \/
    (ba.hd (λg=>decide ((fH m c).1=g)) (layout m).insts 0 = -1/\1<=(fH m c).2.2/\(fH m c).2.2<=m.scalars.length/\0<=(fH m c).2.1/\(fH m c).2.1<=64/\0<=(fH m c).1/\(fH m c).1<=64/\(i:Int)=(fH m c).1+f (fH m c).2.2 ((fH m c).2.1+1) - 1)):=by
 refine⟨alk q k,λd=>?_⟩;have B:cH m<=64:=ij v;have C:=k.lt q;have G:(layout m).insts.length=(insts m).length:=(uO m).2.2;cases k with
 | @var r w H e h x =>
  rw[O9 e h] at d ⊢;by_cases s:m.vars[r].over > 0
  .rw[if_pos s] at d ⊢;simp only at d ⊢;refine .inr ⟨Rt _ _ λg y=>?_,AY,Classical.byContradiction λI=>?_,AY,AY,AY,AY,by rw[x];omega⟩
   .obtain⟨a,n,rfl⟩:=List.mem_iff_getElem.1 y;obtain⟨_,p⟩:=qH (m:=m) (i:=a) AY;simp only[decide_eq_false_iff_not];rw[p];intro t;exact ast (m:=m) (q:=a) AY e AY AY
   .have:=Cj (s:=m.scalars) (k:=m.vars[r].over) AY
    rw[aar,if_neg AY] at h;omega
  .rw[if_neg s] at d;exact absurd rfl d
 | chan e h =>
  rw[aiC e h] at d;exact absurd rfl d
 | @inst a j l w e h =>
  rw[Wd e.a h] at d ⊢;simp only at d ⊢;refine .inl ⟨a,j,l,e,?_,AY⟩;have n:=e.a.ax;obtain⟨z,p⟩:=qH n
  have:=KE (p:=λg=>decide ((b7 m a:Int)=g)) (layout m).insts a 0 z (by simp[p]) λu J K=>by
   obtain⟨_,t⟩:=qH (m:=m) (i:=u) AY;simp only[decide_eq_false_iff_not];rw[t];intro L
   have:=ass (m:=m) (q:=a) (q':=u) n AY AY
   omega
  rw[this,ZQ]
end o
namespace Go.Proofs.R
open Go Go.RowKit ba o
attribute [local irreducible] ep bF o.insts o.refs jA
structure Jt(w:World)(zs:List Value)(m:o.Model):Prop where
 ex:∃eL d0 c2 d1 dv d2 dY d3 eZ d4 ok pK hD h8 c0 ci of o2 gX gr,
  zs=[.slice eL m.scalars.length d0,.slice c2 m.vars.length d1,.slice dv m.aA.length d2,.slice dY m.procs.length d3,.slice eZ m.props.length d4,
   .slice ok (bF m).length pK,.slice hD (jA m).length h8,.slice c0 (o.insts m).length ci,.slice of (o.layout m).insts.length o2,.slice gX (ep m.scalars).length gr] /\
  dU w [.slice eL m.scalars.length d0,.slice c2 m.vars.length d1,.slice dv m.aA.length d2,.slice dY m.procs.length d3,.slice eZ m.props.length d4] m /\
  (∃mw:List Int,mw=(bF m).map (·.kind)/\cl w (.slice ok (bF m).length pK) mw)/\a6 3 (Flat nN) w (.slice hD (jA m).length h8) (jA m)/\rS w (.slice c0 (o.insts m).length ci) (o.insts m) /\
  cl w (.slice of (o.layout m).insts.length o2) (o.layout m).insts/\wT w (.slice gX (ep m.scalars).length gr) (ep m.scalars)
theorem Jt.ext{w w':A_}{a:C_ B_}{m:o.Model}(e:Ext w w')(h:Jt w a m):Jt w' a m:=by
 obtain⟨b,c,d,f,g,i,j,k,l,n,p,q,r,s,t,u,v,x,y,z,A,B,⟨C,G,H⟩,I,J,K,L⟩:=h.ex;exact⟨b,c,d,f,g,i,j,k,l,n,p,q,r,s,t,u,v,x,y,z,A,B.ext e,⟨C,G,H.ext Flat.ext e⟩,I.ext Flat.ext e,J.ext Flat.ext e,K.ext Flat.ext e,a6.ext A5 e L⟩
def nH(w:A_)(b:Nat)(m:o.Model):Prop := ∃a,w.heap[b]? = some (.cells a.toArray T.tW)/\Jt w a m
theorem nH.ext{w w':A_}{b:Nat}{m:o.Model}(e:Ext w w')(h:nH w b m):nH w' b m:=let ⟨a,c,d⟩:=h; ⟨a,e.obj c,d.ext e⟩
def U2(v:B_)(s:C_ o.Scalar)(g:C_ (C_ Int))(k e:Int)(w:A_)(h:gS w v g)(d:qk s)(f:fU s g)(z:1<=k)(A:k<=s.length)(B : -9000000000000000000<=e)(C:e<=9000000000000000000) :
  EL F.bj #[v,.I k,.I e] w λn p=>n = .I (gK g k e)/\Ext w p:=by
 obtain⟨a,rfl⟩:∃a:Nat,k=(a:Int)+1:=⟨(k - 1).toNat,AY⟩;have b:a<g.length:=by rw[f.len];omega
 have q:=f.perm a b AY;have r:=λ{t:Int} (i:t∈g[a])=>q.mem.1 i;have G:=d.2 _ (FA (show a<s.length by omega));have H:=d.1;obtain⟨I,bg,rfl,J⟩:=h.form;obtain⟨u,rfl⟩:=h.addr;have x:oT w (u.add (a*1)) (g[a]'b):=a6.at h a b;obtain⟨K,j,l⟩:=x;obtain⟨L,bj,rfl,M⟩:=l.form;rw[vB b];unfold nM;refine bn E.bj ?_;refine aa ?_;apply I_<;>intro m
 .refine aa ?_;exact⟨by rw[if_pos m],Ext.refl _⟩
 rw[if_neg m];refine aa ?_;refine M_ a ?_ b ?_
 .omega
 refine aa ?_;refine L_ j ?_;refine aa ?_;apply I_<;>intro N
 .refine aa ?_;exact⟨by rw[List.getElem?_eq_none AY],Ext.refl _⟩
 have c:(e - 1).toNat<(g[a]'b).length:=AY
 have y:=l.addr;obtain⟨O,rfl⟩:=y;have i:=r (FA c);refine aa ?_;refine M_ a ?_ b ?_
 .omega
 refine aa ?_;refine L_ j ?_;refine aa ?_;refine M_ (e - 1).toNat ?_ c ?_
 .omega
 refine aa ?_;exact⟨by rw[List.getElem?_eq_getElem c],Ext.refl _⟩
def J5(x y:Int):s3 [.i,.i] [.I x,.I y]:=⟨⟨_,rfl⟩,⟨_,rfl⟩,trivial⟩
def aeO(v:B_)(l:C_ c9)(x:c9)(w:A_)(h:rS w v l) :
  EL F.d3 #[v,.agg x.enc.toArray] w λq e=>q = .I (hd (λa=>decide (x=a)) l 0)/\Ext w e:=by
 obtain⟨A,bg,rfl,B⟩:=h.form;refine vh E.d3 ?_;refine om ?_;refine aa ?_;intro r C G s t;refine aa ?_;refine K_ 8 l.length [0,3,7] (λ_:Unit=>[]) () (λb _ e=>Ext r e/\hd (λa=>decide (x=a)) l 0=hd (λa=>decide (x=a)) (l.drop b) b) aW aW ⟨Ext.refl _,Ah⟩ ?_;rintro b _ H I J ⟨f,d⟩;have K:=f.obj t;have g:=s.trans f;have u:=h.ext Flat.ext g;refine aa ?_;apply I_<;>intro L
 .have k:b<l.length:=AY
  obtain⟨M,rfl⟩:=u.addr;rw[Dq k] at d;refine aa ?_;refine AA1 (sig:=[.i,.i]) (xs:=[_,_]) (ys:=[_,_]) Cl (J5 _ _) (J5 _ _) λy m=>?_;have n:y=true↔x=l[b]:=by
   rw[m];constructor
   .intro h;injection h with i c
    injection c with c
    injection i with _ i
    injection c with _ c
    exact TX i c
   .intro h;rw[h]
  clear m;refine aa ?_;intro N p;refine N_ (λj=>?_) (λj=>?_)
  .refine aa ?_;exact⟨by rw[d,if_pos (by simp[n.1 j])],g.trans p⟩
  .refine aa ?_;exact⟨k,aV,(),trivial,f.trans p,by rw[d,if_neg (by intro z;have:=n.2 (by simpa using z);rw[j] at this;cases this)]⟩
 .refine aa ?_;exact⟨by rw[d,VQ AY];rfl,g⟩
def asy(v:B_)(l:C_ o.Ref)(x:o.Ref)(w:A_)(h:Jq w v l) :
  EL F.dO #[v,.agg x.enc.toArray] w λq e=>q = .I (hd (λa=>decide (x=a)) l 0)/\Ext w e:=by
 obtain⟨A,bg,rfl,B⟩:=h.form;refine vh E.dO ?_;refine om ?_;refine aa ?_;intro r C G s t;refine aa ?_;refine K_ 8 l.length [0,3,7] (λ_:Unit=>[]) () (λb _ e=>Ext r e/\hd (λa=>decide (x=a)) l 0=hd (λa=>decide (x=a)) (l.drop b) b) aW aW ⟨Ext.refl _,Ah⟩ ?_;rintro b _ H I J ⟨f,d⟩;have K:=f.obj t;have g:=s.trans f;have u:=h.ext Flat.ext g;refine aa ?_;apply I_<;>intro L
 .have k:b<l.length:=AY
  obtain⟨M,rfl⟩:=u.addr;rw[Dq k] at d;refine aa ?_;refine AA1 (sig:=[.i,.i]) (xs:=[_,_]) (ys:=[_,_]) Cl (J5 _ _) (J5 _ _) λy m=>?_;have n:y=true↔x=l[b]:=by
   rw[m];constructor
   .intro h;injection h with i c
    injection c with c
    injection i with _ i
    injection c with _ c
    exact ahi i c
   .intro h;rw[h]
  clear m;refine aa ?_;intro N p;refine N_ (λj=>?_) (λj=>?_)
  .refine aa ?_;exact⟨by rw[d,if_pos (by simp[n.1 j])],g.trans p⟩
  .refine aa ?_;exact⟨k,aV,(),trivial,f.trans p,by rw[d,if_neg (by intro z;have:=n.2 (by simpa using z);rw[j] at this;cases this)]⟩
 .refine aa ?_;exact⟨by rw[d,VQ AY];rfl,g⟩
attribute [local irreducible] fH
def agH(b:Nat)(v:B_)(m:o.Model)(g:C_ (C_ Int))(x:Int)(q q' p:Nat)(w:A_)(Z:x=q)(h:nH w b m)(r:qk m.scalars)(L:fU m.scalars g)(ab:gS w v g)(e:jD m (gK g) q q' p) :
  EL F.uh #[.pointer (some ⟨b,0,none⟩),v,.I x] w λs i=>s = .I q'/\Ext w i:=by
 subst Z;obtain⟨az,t,M⟩:=h;obtain⟨aB,aC,aD,aE,aF,aG,aH,aI,aJ,aK,aL,aP,aQ,aR,aS,aU,aX,aY,aZ,a0,rfl,N,_,_,u,_⟩:=M.ex;obtain⟨_,_,_,_,_,_,_,_,_,_,c,_,_,_,y,_⟩:=N.form;injection c with ae c
 injection c with f c
 injection c with z c
 injection c with j c
 injection j with af a1 ag
 subst af ag;clear c ae f z N M;have ah:=L.pz r;have d:=e.a.ax;have A:=e.a.aB;have B:=e.a.F5;have a3:=e.a.fR;have ai:=e.a.eq;have k:=asF ah e;obtain⟨a,O⟩:∃a,a=(m.procs[p]'A).over:=⟨_,rfl⟩;rw[<-O] at B k;have aj:a=0\/(1<=a/\a<=m.scalars.length):=by
  by_cases P:a=0
  .exact .inl P
  .refine .inr (Classical.byContradiction λa5=>?_)
   have:=Cj (s:=m.scalars) (k:=a) AY
   omega
 have a7:=r.1;replace B:=i_ B trivial;obtain⟨a8,rfl⟩:=u.addr;obtain⟨ak,rfl⟩:=y.addr;obtain⟨_,a9,dN,Q,_,_⟩:=y.at p A;have al:w.cell? ((ak.add (p*5)).add 1)=some (.I a):=by rw[O];exact Q 1 _ rfl
 clear Q y;refine bn E.uh ?_;refine aa ?_;intro bb bf an l S;have U:=l.obj t;refine aa ?_;refine M_ p ai A ?_;refine aa ?_;refine L_ (l.cell al) ?_;refine aa ?_;intro ao C;have V:=C.obj U;have W:=C.obj S;have f:=l.trans C;have aq:=iR f ab;have G:=u.ext Flat.ext f;have bk:=cf t;have bl:=l.size;clear t U S;refine aa ?_;apply I_<;>intro bo
 .have bp:=aj.resolve_left AY;refine aa ?_;refine J_ (U2 v m.scalars g a ((o.insts m)[q]'d).elem ao aq r L AY AY AY AY) ?_;rintro _ bq ⟨rfl,n⟩;have X:=n.obj V;have ar:=n.obj W;have au:=G.ext Flat.ext n;have z:=f.trans n;refine aa ?_;intro bt Y bu;have j:=Y.ext z an;have bw:=Y.obj X AY;have av:=u.ext Flat.ext j;clear V X W ar G au;refine aa ?_;refine P_ (.I q') (λi H=>(aeO _ _ ⟨((o.insts m)[q]'d).proc,gK g a ((o.insts m)[q]'d).elem⟩ i (av.ext Flat.ext H)).mono λs aw ⟨I,J⟩=>⟨by rw[I,k],J⟩) ?_;refine aa ?_;intro ax K;refine aa ?_;exact⟨aV,j.trans K⟩
 .have P:a=0:=AY
  have ay:gK g a ((o.insts m)[q]'d).elem=((o.insts m)[q]'d).elem:=A0 (.inl AY) _;rw[ay] at k;refine aa ?_;refine P_ (.I q') (λi H=>(aeO _ _ ⟨((o.insts m)[q]'d).proc,((o.insts m)[q]'d).elem⟩ i (G.ext Flat.ext H)).mono λs aw ⟨I,J⟩=>⟨by rw[I,k],J⟩) ?_;refine aa ?_;intro ax K;refine aa ?_;exact⟨aV,f.trans K⟩
def agC(b:Nat)(v:B_)(m:o.Model)(g:C_ (C_ Int))(c z:Nat)(w:A_)(h:nH w b m)(A:(o.check m).bK=0)(n:fU m.scalars g)(U:gS w v g)(B:gI m (gK g) c z) :
  EL F.bA #[.pointer (some ⟨b,0,none⟩),v,.I c] w λe a=>e = .I z/\Ext w a:=by
 have V:=h;obtain⟨av,f,C⟩:=h;obtain⟨aw,ax,ay,az,aB,aC,aD,aE,aF,aG,aH,aI,aJ,aK,aL,aP,aQ,aR,aS,aU,rfl,_,_,p,_,W,_⟩:=C.ex;clear C;have d:=jX A;have G:=gA A;have H:=n.pz d;have aX:=B.lt H;have aY:cH m<=64:=ij G;have X:=alo d G H B;obtain⟨Y,q⟩:=X;replace q:=i_ q trivial;have aZ:=We m;have I:=ayv (m:=m) (c:=c) AY;have a0:=d.1;obtain⟨Z,rfl⟩:=p.addr;have i:fy w (Z.add (c*3)) [.I (fH m c).1,.I (fH m c).2.1,.I (fH m c).2.2]:=by
  have:=a6.at p c AY
  rw[I] at this;exact this
 have J:=i 0 _ rfl;have K:=i 1 _ rfl;have L:=i 2 _ rfl;clear i p I;refine bn E.bA ?_;refine aa ?_;refine _p AY ?_;refine aa ?_;refine L_ J ?_;refine aa ?_;refine _p AY ?_;refine aa ?_;refine L_ K ?_;refine aa ?_;refine _p AY ?_;refine aa ?_;refine L_ L ?_;refine aa ?_;intro M j;replace f:=j.obj f;clear J K L;refine aa ?_;apply I_<;>intro N
 .refine aa ?_;exact⟨by rw[Y N],j⟩
 have ab:=q.1 N;have r:=W.ext Flat.ext j;refine aa ?_;refine J_ ((asz kv E.aw _ _ (fH m c).1 M r).mono (R':=λe a=>(∃k:Int,e = .I k/\k=hd (λae=>decide ((fH m c).1=ae)) (o.layout m).insts 0)/\Ext M a) λe a ⟨af,ag⟩=>⟨⟨_,af,rfl⟩,ag⟩) ?_;rintro _ ah ⟨⟨k,rfl,s⟩,t⟩;have a1:=t.obj f;have l:=j.trans t;have ai:=r.ext Flat.ext t;have O:=iR l U;clear f r;rcases ab with ⟨aj,P,ak,Q,u,x⟩ | ⟨u,al,an,a3,a5,a7,a8,x⟩
 .rw[u] at s;have ao:=qH Q.b.ax;obtain⟨a9,aq⟩:=ao;have ar:=ai.addr;obtain⟨bb,rfl⟩:=ar;refine aa ?_;refine P_ (.I P) (λa S=>agH b v m g k aj P ak a s (V.ext (l.trans S)) d n (iR S O) Q) ?_;refine aa ?_;intro au y;refine aa ?_;exact⟨by rw[aq,x],l.trans y⟩
 .rw[u] at s;refine aa ?_;refine J_ (U2 v m.scalars g (fH m c).2.2 ((fH m c).2.1+1) ah O d n al an AY AY) ?_;rintro _ au ⟨rfl,y⟩;refine aa ?_;exact⟨by rw[x],l.trans y⟩
def U0(b:Nat)(v vs:B_)(m:o.Model)(g:C_ (C_ Int))(s:C_ Int)(w:A_)(h:nH w b m)(d:(o.check m).bK=0)(f:fU m.scalars g)(q:gS w v g)(G:cl w vs s)(H:o.Fits m s) :
  EL F.mP #[.pointer (some ⟨b,0,none⟩),v,vs] w λX I=>ft w.heap.size I X (hj m g s)/\Ext w I:=by
 have J:=h;obtain⟨ax,K,L⟩:=h;obtain⟨ay,az,aB,aC,aD,aE,aF,aG,aH,aI,aJ,aK,aL,aP,aQ,aR,aS,aU,aX,aY,rfl,_,⟨l,M,N⟩,_⟩:=L.ex;clear L;have n:=jX d;have O:=gA d;have P:=f.pz n;have aZ:cH m<=64:=ij O;have r:=H.len;have a0:(bF m).length=cH m:=rfl;have Y:l.length=(bF m).length:=by rw[M,AG8]
 rw[<-Y] at N K;obtain⟨a1,a3,rfl,a5⟩:=G.form;have a7:=n.1;have Z:(List.replicate s.length (0:Int)).length=cH m:=by rw[AG1,r]
 refine bn E.mP ?_;refine aa ?_;refine _Y s.length AY AY λab Q t ae S=>?_;have af:ft w.heap.size ab (.slice (some ⟨Q,0,none⟩) s.length s.length) (List.replicate s.length 0):=aT.JH (n:=s.length) S t Ah (by simp[maxLen];omega);clear S;refine aa ?_;refine K_ 16 s.length [0,1,7,14,15] (λ_:Unit=>[]) () (λa _ U=>ft w.heap.size U (.slice (some ⟨Q,0,none⟩) s.length s.length) (tT m (gK g) s (List.replicate s.length 0) a)/\Ext w U) aW aW ⟨af,ae⟩ ?_;rintro a - a8 u a9 ⟨p,c⟩;have bb:=c.obj K;have ag:=G.ext Flat.ext c;have ah:=N.ext Flat.ext c;have ai:=Jy m (gK g) s (List.replicate s.length 0) a;rw[AG1] at ai;refine aa ?_;apply I_<;>intro bf;rotate_left
 .have:a=s.length:=AY
  subst this;refine aa ?_;refine⟨?_,c⟩;have V:=aj4 d f r Z;rw[<-r] at V;rw[V] at p;exact p
 have i:a<s.length:=AY
 have x:a<(bF m).length:=AY
 have W:=wi (List.getElem?_eq_getElem x);have aj:l[a]' AY=(bF m)[a].kind:=by simp[M]
 have ak:=De O P (c:=a) AY;obtain⟨e,j⟩:=ak;have bk:=j.lt P;have bl:=H.cell a i x;have al:=i_ (as0 d (List.getElem?_eq_getElem x)) trivial;have an:=a6.addr ag AY;obtain⟨bo,rfl⟩:=an;have ao:=a6.addr ah AY;obtain⟨bp,rfl⟩:=ao;refine aa ?_;apply I_<;>intro bq
 .have aq:=al.1 AY;obtain⟨bt,ar,bu,bw,bx⟩:=aq;have bz:=n.2 _ (FA ar);refine aa ?_;refine J_ (U2 v m.scalars g ((l[a]' AY) - 1) s[a] u (iR c q) n f AY AY AY AY) ?_;rintro _ au ⟨rfl,hA⟩;refine aa ?_;refine J_ (agC b v m g a e au (J.ext (c.trans hA)) d f (iR (c.trans hA) q) j) ?_;rintro _ av ⟨rfl,y⟩;have k:=hA.trans y;have z:=p.ext k;refine aa ?_;refine _a (k:=e) z AY λaw A B=>?_;refine aa ?_;refine⟨i,aV,(),trivial,?_,A.ext (c.trans k) t⟩;have C:tT m (gK g) s (List.replicate s.length 0) (a+1)=(tT m (gK g) s (List.replicate s.length 0) a).set e (gK g ((l[a]' AY) - 1) s[a]):=by
   show List.set _ _ _=_;rw[j.g,W,List.getD,List.getElem?_eq_getElem i];unfold fp;rw[if_pos AY,aj];rfl
  rw[C];exact B
 .have hA:=Ext.refl u;refine aa ?_;refine J_ (agC b v m g a e u (J.ext c) d f (iR c q) j) ?_;rintro _ av ⟨rfl,y⟩;have k:=hA.trans y;have z:=p.ext k;refine aa ?_;refine _a (k:=e) z AY λaw A B=>?_;refine aa ?_;refine⟨i,aV,(),trivial,?_,A.ext (c.trans k) t⟩;have C:tT m (gK g) s (List.replicate s.length 0) (a+1)=(tT m (gK g) s (List.replicate s.length 0) a).set e (s[a]):=by
   show List.set _ _ _=_;rw[j.g,W,List.getD,List.getElem?_eq_getElem i];unfold fp;rw[if_neg AY];rfl
  rw[C];exact B
end Go.Proofs.R
namespace o
def asM(s:C_ Int)(p:Nat)(x:Int)(xs:C_ Int)(h:p+(xs.length+1)<=s.length):hQ (s.set p x) (p+1) xs=hQ s p (x :: xs):=by
 have c:p+1+xs.length<=(s.set p x).length:=by rw[ZP];omega
 have d:p+(x :: xs).length<=s.length:=by simpa using h
 apply List.ext_getElem?;intro a;rw[x3 c,x3 d];by_cases e:a=p
 .subst e;rw[if_neg AY,if_pos ⟨AY,Ah⟩,List.getElem?_set_self AY];simp
 .by_cases b:p+1<=a/\a<p+1+xs.length
  .rw[if_pos b,if_pos ⟨AY,by simp;omega⟩,show a - p=(a - (p+1))+1 from AY,List.getElem?_cons_succ]
  .rw[if_neg b,if_neg (by simp;omega),List.getElem?_set_ne AY]
def ae1(s:C_ Int)(p:Nat):hQ s p []=s:=by simp[hQ]
end o
namespace ba
open Go Go.RowKit
def ags{e:F_}{base:Nat}{w:A_}{l:C_ Int}{g n c k:Nat}{x:Int}(h:aT da e 1 base w (.slice (some ⟨g,0,none⟩) n c) l)(u:k<l.length) :
  aT da e 1 base (w.setCell ⟨g,k,none⟩ (.I x)) (.slice (some ⟨g,0,none⟩) n c) (l.set k x)/\(∃j,w.cell? ⟨g,k,none⟩=some j)/\w.frozen? ⟨g,k,none⟩=false:=by
 rcases h.2 with ⟨m,v⟩ | ⟨y,cap,cur,p,z,b,A,B,C,G⟩
 .cases m
 .injection p with a d q
  injection a with a
  injection a with a
  subst a q;have r:k<cur.size:=AY
  have s:Addr.add ⟨g,0,none⟩ k=⟨g,k,none⟩:=by rw[add_eq,ZQ]
  have f:w.cell? (Addr.add ⟨g,0,none⟩ k)=some cur[k]:=gH b (Array.getElem?_eq_getElem r);rw[s] at f;have t:w.ownsRow base e 1 (.slice (some ⟨g,0,none⟩) l.length c) l.length (l.flatMap da):=by unfold aT at h;rw[d] at h;exact h
  have i:=World.ownsRow.stored t k (.I x);rw[RB] at i;refine⟨?_,⟨_,f⟩,by simp[World.frozen?,b]⟩;unfold aT;rw[ZP,d];exact i.1
theorem agt{e:F_}{base:Nat}{g n c p:Nat}:∀(b:C_ Int) (a:Nat) (f:A_) (d:C_ Int),aT da e 1 base f (.slice (some ⟨g,0,none⟩) n c) d->p+a+b.length<=d.length ->
  aT da e 1 base (kT f ⟨g,p,none⟩ (b.flatMap da) a) (.slice (some ⟨g,0,none⟩) n c) (o.hQ d (p+a) b)
 | [],a,f,d,h,_=>by rw[o.ae1];exact h
 | i :: b,a,f,d,h,k=>by
  have l:p+a+(b.length+1)<=d.length:=by simpa using k
  have m:=(ags (x:=i) h (k:=p+a) AY).1;have j:=agt (p:=p) b (a+1) _ _ m (by rw[ZP];omega);rw[<-AH4,o.asM _ _ _ _ l] at j;show aT da e 1 base (kT (f.setCell (Addr.add ⟨g,p,none⟩ a) (.I i)) ⟨g,p,none⟩ (b.flatMap da) (a+1)) _ _;rw[add_eq];exact j
def _e{S:Fr}{w:A_}{c:B_->Prop}{n cap g:Nat}{x y:G_}{k k':IntKind}{xs:C_ Int}{t}(l a:Nat)(d:a6 1 (Flat da) w (.slice (some ⟨g,0,none⟩) n cap) xs)(h:br S x = .int k (l:Int))(i:br S y = .int k' (a:Int))(e:l<=a)(j:a<=xs.length)
  (m:∀b f,(0<a - l->b=some ⟨g,l,none⟩)->a6 1 (Flat da) w (.slice b (a - l) f) ((xs.drop l).take (a - l))->c (.slice b (a - l) f)):sR S 1 (.slice (some ⟨g,0,none⟩) n cap) (some x) (some y) none c t:=by
 obtain⟨p,q,r⟩:=d.len;refine _K l a cap (by simp[e6,h]) (by simp[e6,i]) (by simp[e6]) ⟨e,AY,EM _⟩ Ah ?_;refine m _ _ (λs=>?_) (d.sub l a e j);rw[if_neg AY];simp[add_eq]
def AE5{S:Fr}{w:A_}{a:B_->Prop}{n cap g:Nat}{x:G_}{k:IntKind}{xs:C_ Int}{t}(l:Nat)(c:a6 1 (Flat da) w (.slice (some ⟨g,0,none⟩) n cap) xs)(d:br S x = .int k (l:Int))(h:l<=xs.length)
  (e:∀b f,(0<n - l->b=some ⟨g,l,none⟩)->a (.slice b (n - l) f)):sR S 1 (.slice (some ⟨g,0,none⟩) n cap) (some x) none none a t:=by
 obtain⟨i,j,m⟩:=c.len;refine _K l n cap (by simp[e6,d]) (by simp[e6]) (by simp[e6]) ⟨AY,AY,EM _⟩ Ah ?_;refine e _ _ (λp=>?_);rw[if_neg AY];simp[add_eq]
def _g{P:D_}{S:Fr}{w:A_}{e j:F_}{base g n c p k V m cs:Nat}{l xs:C_ Int}{x y:G_}{q d:H_ Addr}{B:B_->A_->Prop}{W:F_}{t}(r:aT da e 1 base w (.slice (some ⟨g,0,none⟩) n c) l)(s:a6 1 (Flat da) w (.slice d m cs) xs)
  (C:br S x = .slice q k V)(G:br S y = .slice d m cs)(X:0<k->q=some ⟨g,p,none⟩)(au:p+k<=l.length)(H:P.underlying j=some (.slice e))(Y:(P.info? e).map (·.size)=some 1)
  (I:∀Z u,dX g w u->aT da e 1 base u (.slice (some ⟨g,0,none⟩) n c) (o.hQ l p (xs.take k))->B Z u):wX P (.call ⟨.builtin .copy,#[x,y],#[j,j]⟩) W S w B t:=by
 obtain⟨av,J,K⟩:=Option.map_eq_some_iff.1 Y;obtain⟨ab,aw,ax⟩:=s.len;subst ab;have L:(xs.take k).length=min k xs.length:=IP;have ae:∀b,d=some b->fy w b ((xs.take k).flatMap da):=λb v a M N=>by
  have f:(List.map (Value.int .i64) (xs.take k))[a]? = some M:=by rw[<-N];congr 1;induction xs.take k with | nil=>rfl | cons i af ag=>simp[da,ag]
  rw[List.getElem?_map] at f;cases h:(xs.take k)[a]? with
  | none=>rw[h] at f;cases f
  | some i =>
   rw[h] at f;have ah:M = .I i:=by simpa using f.symm
   subst ah;obtain⟨ai,O⟩:=List.getElem?_eq_some_iff.1 h;rw[L] at ai;subst v;have aj:=s.at a AY;have Q:w.cell? ((b.add (a*1)).add 0)=some (.I xs[a]):=aj 0 _ rfl;rw[add_zero,AH2] at Q;rw[Q]
   have:(xs.take k)[a]=xs[a]:=Ah
   rw[this] at O;rw[O]
 have ak:((xs.take k).flatMap da).length=min xs.length k:=by rw[mV (sz:=1) (λ_=>rfl),L];omega
 have z:(Builtin.firstCells 1 (min xs.length k) (.slice d xs.length cs)).run P w = .ok ((xs.take k).flatMap da).toArray w:=by
  cases d with
  | none =>
   have al:xs=[]:=by
    cases an:xs with
    | nil=>rfl
    | cons i af=>obtain⟨b,v⟩:=s.addr (by rw[an];simp);cases v
   subst al;simp[Builtin.firstCells]
  | some b =>
   have U:=run_loadCells_list (P:=P) w b _ (ae b rfl);rw[ak] at U;simp only[Builtin.firstCells,Nat.mul_one];exact U
 rcases Nat.eq_zero_or_pos k with A | A
 .subst A;have ao:(xs.take 0).flatMap da=[]:=rfl;rw[ao,Nat.min_zero] at z;refine _V (v:=goInt 0) (w':=w) ?_ (I _ _ (dX.refl _ _) (by rw[show xs.take 0=[] from rfl,o.ae1];exact r));cases q<;>simp[execOp,resolve,invoke,builtin,C,G,Builtin.copy_,run_underlying H,Builtin.lenOf,p4 J,K,z,storeCells]
 .obtain rfl:=X A;have aq:=OP P ⟨g,p,none⟩ ((xs.take k).flatMap da) 0 w (λa N=>by
   rw[ZQ,add_eq];exact(ags (x:=0) r (k:=p+a) AY).2) (λi h=>by
   obtain⟨ay,_,ar⟩:=List.mem_flatMap.1 h;rw[List.mem_singleton.1 ar];rfl)
  refine _V (v:=goInt ((Nat.min xs.length k:Nat):Int)) (w':=kT w ⟨g,p,none⟩ ((xs.take k).flatMap da) 0) ?_ (I _ _ (dX.kT _ w ⟨g,p,none⟩ 0) (agt _ 0 w l r AY));simp[execOp,resolve,invoke,builtin,C,G,Builtin.copy_,run_underlying H,Builtin.lenOf,p4 J,K,z,aq]
def AE6{α:Type}{S:Fr}{w:A_}{d:B_->Prop}{sz n cap:Nat}{R:A_->Addr->α->Prop}{c:H_ Addr}{x y e:G_}{k k' k'':IntKind}{xs:C_ α}{t}(l a:Nat)(f:a6 sz R w (.slice c n cap) xs)(m:br S x = .int k (l:Int))(p:br S y = .int k' (a:Int))(q:br S e = .int k'' (a:Int))(g:l<=a)(r:a<=xs.length)
  (s:∀h,a6 sz R w (.slice h (a - l) (a - l)) ((xs.drop l).take (a - l))->d (.slice h (a - l) (a - l))):sR S sz (.slice c n cap) (some x) (some y) (some e) d t:=by
 obtain⟨C,G,H⟩:=f.len;refine _K l a a (by simp[e6,m]) (by simp[e6,p]) (by simp[e6,q]) ⟨g,EM _,AY⟩ Ah ?_;refine s _ ?_;have i:((xs.drop l).take (a - l)).length=a - l:=by rw[IP,AG7];omega
 by_cases j:a=l
 .subst j;have u:(xs.drop a).take (a - a)=[]:=by rw[AK7];rfl
  rw[u];rw[if_pos rfl,AK7];exact⟨c,0,rfl,EM _,AG6 _,λb=>absurd rfl b,λI _ J v=>absurd v (Od _)⟩
 .have b:=f.sub l a g r;rw[if_neg AY] at b;rw[if_neg j];obtain⟨K,L,z,M,N,A,B⟩:=b;injection z with f1 f2 f3
  subst f1;exact⟨_,_,by rw[i],by rw[i];exact EM _,AY,A,B⟩
end ba
namespace o
theorem asP{l:C_ Int}(d:0<l.length)(e:0<=l[0])(f:l[0]<=(l.length:Int) - 1):iO l = !((l.drop (1+l[0].toNat)).any λa=>decide (a≠0)):=by
 cases l with
 | nil=>simp at d
 | cons a c =>
  simp only[List.getElem_cons_zero,List.length_cons] at e f ⊢;rw[Nat.add_comm,List.drop_succ_cons];unfold iO;show(decide (0<=a/\a<=(c.length:Int))&&(c.drop a.toNat).all λb=>decide (b=0))=_;rw[decide_eq_true AY,Bool.true_and,List.not_any_eq_all_not];congr 1;funext b;by_cases g:b=0<;>simp[g]
theorem ae4{l:C_ Int}(h:∀a:0<l.length,¬(0<=l[0]/\l[0]<=(l.length:Int) - 1)):iO l=false:=by
 cases b:iO l with
 | false=>rfl
 | true =>
  obtain⟨a,c,d,_⟩:=zU.1 b;exact absurd ⟨c,d⟩ (h a)
theorem avx(n:Nat)(l:C_ Int)(h:1<=n):hQ ((List.replicate n 0).set 0 (l.length:Int)) 1 (l.take (n - 1))=p3 n l:=by
 have d:1+(l.take (n - 1)).length<=((List.replicate n (0:Int)).set 0 (l.length:Int)).length:=by
  rw[ZP,AG1,IP];omega
 apply List.ext_getElem?;intro a;rw[x3 d];have e:(l.take (n - 1)).length=min (n - 1) l.length:=IP;cases a with
 | zero =>
  rw[if_neg AY,List.getElem?_set_self (by rw[AG1];omega)];simp[p3]
 | succ a =>
  by_cases b:a+1<n
  .rw[agy b];by_cases c:a<l.length
   .rw[if_pos AY,show a+1 - 1=a from rfl,List.getElem?_take_of_lt AY,List.getElem?_eq_getElem c];simp[c]
   .rw[if_neg AY,List.getElem?_set_ne AY,List.getElem?_replicate,if_pos b];simp[List.getD,List.getElem?_eq_none (show l.length<=a by omega)]
  .rw[if_neg AY,List.getElem?_eq_none (by rw[ZP,AG1];omega),List.getElem?_eq_none (by rw[UZ h];omega)]
end o
namespace Go.Proofs.R
open Go Go.RowKit ba o
def auK(n c d:Int)(w:A_):EL F.o7 #[.I n,.I c,.I d] w λf g=>(∃e:Bool,f = .bool e/\(e=true↔c<=n/\n<=d))/\Ext w g:=by
 refine bn E.o7 ?_;refine aa ?_;refine I_ (λb=>?_) (λb=>?_)
 .refine aa ?_;exact⟨⟨_,rfl,by rw[decide_eq_true_eq];exact⟨λa=>⟨b,a⟩,λa=>a.2⟩⟩,Ext.refl _⟩
 .refine aa ?_;exact⟨⟨false,rfl,by simp only[Bool.false_eq_true,false_iff];exact λa=>b a.1⟩,Ext.refl _⟩
def alH(n:Int)(w:A_):EL F.tW #[.I n] w λa b=>a = .bool (decide (n≠0))/\Ext w b:=by
 refine bn E.tW ?_;refine aa ?_;refine⟨?_,Ext.refl _⟩
 first | trivial | (congr 1;simp)
def al3(v:B_)(l:C_ Int)(w:A_)(h:cl w v l) :
  EL F.FU #[v,.func (.func F.tW) #[] #[]] w λj f=>j = .I (hd (λc=>decide (c≠0)) l 0)/\Ext w f:=by
 obtain⟨m,bg,rfl,n⟩:=h.form;refine vh E.FU ?_;refine om ?_;refine aa ?_;refine K_ 8 l.length [0,1,7] (λ_:Unit=>[]) () (λa _ f=>Ext w f/\hd (λc:Int=>decide (c≠0)) l 0=hd (λc:Int=>decide (c≠0)) (l.drop a) a) aW aW ⟨Ext.refl _,Ah⟩ ?_;rintro a _ p k q ⟨d,b⟩;have r:=h.ext Flat.ext d;refine aa ?_;apply I_<;>intro s
 .have g:a<l.length:=AY
  obtain⟨t,rfl⟩:=h.addr;rw[Dq g] at b;refine aa ?_;refine W_ (first:=[]) (cap:=[]) Cl (alH l[a] k) ?_;rintro _ u ⟨rfl,i⟩;by_cases e:l[a]≠0
  .rw[if_pos (by simpa using e)] at b;rw[decide_eq_true e];refine aa ?_;exact⟨by rw[b],d.trans i⟩
  .rw[if_neg (by simpa using e)] at b;rw[decide_eq_false e];refine aa ?_;exact⟨g,aV,(),trivial,d.trans i,b⟩
 .refine aa ?_;exact⟨by rw[b,VQ AY];rfl,d⟩
def ale(v:B_)(l:C_ Int)(w:A_)(h:cl w v l) :
  EL F.a1 #[v,.func (.func F.tW) #[] #[]] w λa b=>a = .bool (l.any λc=>decide (c≠0))/\Ext w b:=by
 refine vh E.a1 ?_;refine om ?_;refine aa ?_;refine J_ (al3 v l w h) ?_;rintro _ e ⟨rfl,d⟩;refine aa ?_;refine⟨?_,d⟩;congr 1;exact Bool.eq_iff_iff.2 (by rw[decide_eq_true_eq];exact KD)
theorem aau(v:B_)(l:C_ Int)(w:A_)(h:cl w v l)(n:l.length<=100000):EL F.fo #[v] w λf g=>f = .bool (iO l)/\Ext w g:=by
 obtain⟨p,q,rfl,r⟩:=h.form;refine bn E.fo ?_;refine aa ?_;apply I_<;>intro s
 .refine aa ?_;exact⟨by rw[ae4 λa=>by omega],Ext.refl _⟩
 have a:0<l.length:=AY
 obtain⟨t,rfl⟩:=h.addr a;refine aa ?_
 try (refine M_ 0 rfl AY ?_;refine aa ?_)
 refine J_ (auK _ _ _ w) ?_;rintro _ i ⟨⟨j,rfl,c⟩,b⟩;cases j with
 | false =>
  refine aa ?_;exact⟨by rw[ae4 λ_ h=>by have:=c.2 h;cases this],b⟩
 | true =>
 have d:=c.1 rfl;have k:=h.ext Flat.ext b;refine aa ?_
 try (refine M_ 0 rfl AY ?_;refine aa ?_)
 refine _m (k:=.i64) (1+l[0].toNat) k (by simp[dE,bR];omega) AY λu x e=>?_;refine aa ?_;refine J_ (ale _ (l.drop (1+l[0].toNat)) i (by have:=e.len.1;exact e)) ?_;rintro _ y ⟨rfl,m⟩;refine aa ?_;exact⟨by rw[asP a d.1 d.2],b.trans m⟩
def aav(v:B_)(l:C_ Int)(w:A_)(h:cl w v l)(k:l.length<=100000) :
  EL F.mX #[v] w λf g=>ft w.heap.size g f (iA l)/\Ext w g:=by
 obtain⟨z,A,rfl,B⟩:=h.form;refine bn E.mX ?_;refine aa ?_;refine J_ (aau _ l w h k) ?_;rintro _ C ⟨rfl,b⟩;by_cases a:iO l=true;rotate_left
 .have m:iO l=false:=by simpa using a
  rw[m];refine aa ?_;exact⟨by rw[ae6 a];exact aT.nil _ _ _ _ _,b⟩
 rw[a];obtain⟨c,G,H,I⟩:=zU.1 a;obtain⟨J,rfl⟩:=h.addr c;have n:=h.ext Flat.ext b;refine aa ?_
 try (refine M_ 0 rfl AY ?_;refine aa ?_)
 refine _Y l[0].toNat AY AY ?_;intro p q K i r;have s:ft w.heap.size p (.slice (some ⟨q,0,none⟩) l[0].toNat l[0].toNat) (List.replicate l[0].toNat 0):=aT.y5 _ r (by have:=b.size;omega) (zS _) (λ_=>rfl) Ah (by rw[AG1];unfold maxLen;omega);refine aa ?_;intro L d;have t:=n.ext Flat.ext (i.trans d);have u:=s.ext d;refine aa ?_
 try (refine M_ 0 rfl AY ?_;refine aa ?_)
 try (refine M_ 0 rfl AY ?_;refine aa ?_)
 refine AE6 (k:=.i64) (k':=.i64) (k'':=.i64) 1 (1+l[0].toNat) t (by simp[o6]) (by simp[dE,bR];omega) (by simp[dE,bR];omega) AY AY λM j=>?_;rw[show 1+l[0].toNat - 1=l[0].toNat from AY] at j ⊢;refine aa ?_;refine _g (p:=0) u j (by simp only[dE,bR];rfl) (by simp only[dE,bR];rfl) (λ_=>rfl) (by rw[AG1];omega) Cl Cl λf N x e=>?_;have y:=(b.trans i).trans d;refine aa ?_;refine⟨?_,x.ext y (by have:=b.size;omega)⟩;have O:=asR a c;rw[<-T3 a c,IA AY] at e
 have:hQ (List.replicate l[0].toNat 0) 0 (iA l)=iA l:=by
  unfold hQ;rw[AL3,AH9,VQ (by rw[AG1];omega),AG5]
 rw[this] at e;exact e
def aat(n:Nat)(v:B_)(l:C_ Int)(w:A_)(h:cl w v l)(j:1<=n/\n<=100000) :
  EL F.ix #[.I n,v] w λa b=>ft w.heap.size b a (p3 n l)/\Ext w b:=by
 obtain⟨x,y,rfl,z⟩:=h.form;refine bn E.ix ?_;refine aa ?_;refine _Y n AY AY ?_;intro k m c d e;have p:ft w.heap.size k (.slice (some ⟨m,0,none⟩) n n) (List.replicate n 0):=aT.y5 _ e AY (zS _) (λ_=>rfl) Ah (by rw[AG1];unfold maxLen;omega);have A:=h.ext Flat.ext d;clear e;refine aa ?_
 try (refine M_ 0 rfl AY ?_;refine aa ?_)
 refine _a (k:=0) p (by rw[AG1];omega) λq r f=>?_;have g:Ext w q:=r.ext d c;have s:=h.ext Flat.ext g;refine aa ?_;refine AE5 (k:=.i64) 1 (ha f) (by simp[o6]) (by rw[ZP,AG1];omega) λB C t=>?_;refine aa ?_;refine _g (p:=1) f s (by simp only[dE,bR];rfl) (by simp only[dE,bR];rfl) t (by rw[ZP,AG1];omega) Cl Cl λa G u i=>?_;rw[avx n l j.1] at i;refine aa ?_;exact⟨i,u.ext g c⟩
def alJ(v:B_)(l:C_ Int)(w:A_)(h:cl w v l)(r:l.length<=100000) :
  EL F.ak #[v] w λd m=>((n3 l=none/\d = .tuple #[.slice none 0 0,.I 0,.bool false])\/(∃a b g i,n3 l=some (a,b)/\d = .tuple #[.slice g a.length i,.I b,.bool true]/\ft w.heap.size m (.slice g a.length i) a))/\Ext w m:=by
 obtain⟨C,G,rfl,H⟩:=h.form;refine bn E.ak ?_;refine aa ?_;refine J_ (aav _ l w h r) ?_;rintro d I ⟨s,e⟩;have j:=ha s;obtain⟨J,K,rfl,_⟩:=j.form;refine aa ?_;apply I_<;>intro n
 .have c:iA l=[]:=AF8 AY;refine aa ?_;exact⟨.inl ⟨by unfold n3;rw[c],aV⟩,e⟩
 have L:=Mq l;obtain⟨b,a,c⟩:∃b a,iA l=b :: a:=by
  cases t:iA l with
  | nil=>rw[t] at n;simp at n
  | cons b a=>exact⟨b,a,rfl⟩
 obtain⟨M,rfl⟩:=j.addr;refine aa ?_;intro u f;have x:=j.ext Flat.ext f;have N:=h.ext Flat.ext (e.trans f);refine aa ?_;refine _m (k:=.i64) 1 x rfl AY λg i k=>?_;have y:(iA l).drop 1=a:=by rw[c];rfl
 have z:(iA l)[0]' AY=b:=by simp[c]
 rw[y] at k;refine aa ?_
 try (refine M_ 0 rfl AY ?_;refine aa ?_)
 refine J_ (aat l.length _ a u (by have:=k.len.1;exact k) AY) ?_;rintro d O ⟨p,q⟩;obtain⟨A,B,rfl,_⟩:=(ha p).form;refine⟨q,?_⟩;refine aa ?_;exact⟨.inr ⟨p3 l.length a,b,A,B,by unfold n3;rw[c],by rw[z],aT.low (e.trans f).size p⟩,(e.trans f).trans q⟩
def alI(v:B_)(l:C_ Int)(x:Int)(w:A_)(h:cl w v l)(j:l.length<=100000) :
  EL F.c1 #[v,.I x] w λd k=>((l6 l x=none/\d = .tuple #[.slice none 0 0,.bool false])\/(∃a m e,l6 l x=some a/\d = .tuple #[.slice m a.length e,.bool true]/\ft w.heap.size k (.slice m a.length e) a))/\Ext w k:=by
 obtain⟨L,M,rfl,N⟩:=h.form;refine bn E.c1 ?_;refine aa ?_;refine J_ (aau _ l w h j) ?_;rintro _ n ⟨rfl,b⟩;by_cases c:iO l=true;rotate_left
 .have y:iO l=false:=by simpa using c
  rw[y];refine aa ?_;exact⟨.inl ⟨by unfold l6;rw[if_neg (λf=>c f.1)],aV⟩,b⟩
 rw[c];obtain⟨p,O,P,Q⟩:=zU.1 c;obtain⟨S,rfl⟩:=h.addr p;have z:=h.ext Flat.ext b;have q:l.headD 0=l[0]:=by cases l with | nil=>simp at p | cons U a=>rfl
 refine aa ?_;apply I_<;>intro V
 .refine aa ?_;exact⟨.inl ⟨by unfold l6;rw[if_neg (λf=>f.2 (by rw[q];omega))],aV⟩,b⟩
 refine aa ?_;refine J_ (aav _ l n z j) ?_;rintro d W ⟨g,r⟩;obtain⟨X,Y,rfl,_⟩:=(ha g).form;have Z:=Mq l;refine aa ?_;intro ab ae af i A;refine aa ?_;refine T_ (y:=x) (g.ext i) A rfl (λ_=>rfl) j8 AY (by unfold maxLen;omega) (by have:=r.size;have:=i.size;omega) λag e ah s B C=>?_;have t:Ext n s:=(r.trans i).grown C λG H=>(g.lt G H).1;refine aa ?_;refine J_ (aat l.length _ _ s (ha B) AY) ?_;rintro d ai ⟨u,I⟩;obtain⟨J,K,rfl,_⟩:=(ha u).form;refine aa ?_;exact⟨.inr ⟨_,J,K,by unfold l6;rw[if_pos ⟨c,by rw[q];omega⟩],rfl,aT.low (b.trans t).size u⟩,(b.trans t).trans I⟩
def ql(w:A_)(b:Nat)(m:o.Model):Prop := ∃a,w.heap[b]? = some (.cells a.toArray T.vv)/\oj w a m
theorem ql.ext{w w':A_}{b:Nat}{m:o.Model}(a:Ext w w')(h:ql w b m):ql w' b m:=let ⟨c,d,e⟩:=h; ⟨c,a.obj d,e.ext a⟩
def an3(cs:C_ B_)(m:o.Model)(w:A_)(h:dU w cs m)(i:m.cB)(n:gi w) :
  EL F.f1 #[.agg cs.toArray] w λp q=>((¬(o.check m).bK=0/\p = .tuple #[.pointer none,.bool false])\/((o.check m).bK=0/\∃j,p = .tuple #[.pointer (some ⟨j,0,none⟩),.bool true]/\w.heap.size<=j/\ql q j m))/\Ext w q:=by
 have a:=h;obtain⟨O,P,Q,bg,S,bj,U,V,W,X,rfl,_⟩:=h.form;refine bn E.f1 ?_;refine aa ?_;intro G Y Z k c;refine aa ?_;refine J_ (N9 _ m G (a.ext k) i (n.ext k)) ?_;rintro _ ab ⟨rfl,r⟩;replace c:=r.obj c;have s:=k.trans r;refine aa ?_;refine _d (v:=.I (o.check m).bK) rfl ?_;refine aa ?_;refine I_ (λb=>?_) (λb=>?_);rotate_left
 .refine aa ?_;exact⟨.inl ⟨b,aV⟩,s⟩
 have H:lyz m=o.layout m:=Ee b;refine aa ?_;intro I t;replace c:=t.obj c;have l:=s.trans t;refine aa ?_;refine J_ (Ue _ m I (a.ext l) i (n.ext l)) ?_;rintro _ J ⟨⟨ys,rfl,u⟩,d⟩;rw[H] at u;have v:=l.trans d;refine⟨d,?_⟩;refine aa ?_;refine J_ (Mm _ m J (a.ext v) i) ?_;rintro ae K ⟨L,e⟩;have x:=v.trans e;refine⟨d.trans e,?_⟩;refine aa ?_;refine J_ (ahn _ m K (a.ext x) (gA b).HM) ?_;rintro af ag ⟨y,f⟩;have z:=x.trans f;refine⟨(d.trans e).trans f,?_⟩;have A:=L.ext f;have B:=u.here.ext (e.trans f);obtain⟨ah,ai,aj,ak,al,an,ao,aq,ar,au,rfl,_⟩:=B.form;obtain⟨av,aw,rfl,_⟩:=(aT.lF (enc:=c9.enc) (λ_=>rfl) A).form;obtain⟨ax,ay,rfl,_⟩:=(aT.lF (enc:=o.Ref.enc) (λ_=>rfl) y).form;refine aa ?_;intro az M aB g N;have C:=z.trans g;refine aa ?_;exact⟨.inr ⟨b,M,aV,by have:=z.size;omega,_,N,_,_,_,_,rfl,a.ext C,B.ext g,(aT.lF (enc:=c9.enc) (λ_=>rfl) (A.ext g)),(aT.lF (enc:=o.Ref.enc) (λ_=>rfl) (y.ext g))⟩,C⟩
def Rr(b:Nat)(m:o.Model)(ref:Int)(q p k:Nat)(w:A_)(h:ql w b m)(a:gf m ref q p k) :
  EL F.l #[.pointer (some ⟨b,0,none⟩),.I ref] w λM N=>(∃f g v x,M = .agg ((cT m p k).enc (.slice f (cT m p k).guard.length g) (.slice v (cT m p k).b6.length x)).toArray/\fJ w (.slice f (cT m p k).guard.length g) (cT m p k).guard/\ob w (.slice v (cT m p k).b6.length x) (cT m p k).b6)/\Ext w N:=by
 obtain⟨Y,d,h⟩:=h;obtain⟨Z,ab,ae,af,ag,ah,ai,aj,ak,al,an,ao,aq,bg,ar,bj,au,av,aw,ax,ay,az,aB,aC,rfl,_,_,_,_,_,_,_,_,_,_,y,z,A⟩:=h.form;have aD:=a.at_.ab;have l:=a.at_.aB;have B:=a.at_.J;have O:=a.at_.ip;obtain⟨i,rfl⟩:=Uh a.aQ;have aE:i<(o.refs m).length:=a.ab;have P:(o.refs m)[i].inst=(q:Int):=a.at_.rH;have Q:(o.refs m)[i].cmd=(k:Int):=a.at_.sD;obtain⟨aF,rfl⟩:=A.addr;obtain⟨aG,rfl⟩:=z.addr;obtain⟨aH,rfl⟩:=y.addr;obtain⟨aI,aJ,dN,C,aK,n⟩:=y.at p l;obtain⟨aL,aP,rfl,aQ⟩:=n.form;obtain⟨aR,rfl⟩:=n.addr;obtain⟨aS,aU,aX,G,H,I⟩:=n.at k B;obtain⟨f,g,rfl,_⟩:=H.form;obtain⟨S,U,rfl,_⟩:=I.form;unfold ed.enc at C;unfold ew.enc at G;refine bn E.l ?_;refine aa ?_;intro aY aZ a0 r e;replace d:=r.obj d;have V:=A.ext Flat.ext r;refine aa ?_;intro a1 a3 a5 s t;have W:(o.refs m)[i].enc=[.I q,.I k]:=by unfold o.Ref.enc;rw[P,Q]
 rw[W] at t;have a7:=cf e;replace e:=s.obj e;replace d:=s.obj d;have j:=r.trans s;have J:=z.ext Flat.ext j;have K:=C.ext j;have L:=G.ext j;clear V;refine aa ?_;intro a8 c;replace e:=c.obj e;replace t:=c.obj t;replace d:=c.obj d;replace J:=J.ext Flat.ext c;replace K:=K.ext c;replace L:=L.ext c;refine aa ?_;refine M_ p (by rw[O]) l ?_;refine aa ?_;intro a9 X bb;refine aa ?_;have u:=Dh l B;exact⟨⟨f,g,S,U,by rw[u];rfl,by rw[u];exact H,by rw[u];exact I⟩,X.ext (j.trans c) AY⟩
def Rq(b:Nat)(m:o.Model)(c:Nat)(w:A_)(h:ql w b m)(d:gh m)(a:c<m.aA.length) :
  EL F.go #[.pointer (some ⟨b,0,none⟩),.I c] w λf g=>f = .tuple #[.I (bS m c),.I (bS m c+(1+gq m c):Nat)]/\Ext w g:=by
 obtain⟨l,n,h⟩:=h;obtain⟨p,q,r,s,t,u,v,x,y,z,A,B,C,bg,G,bj,H,I,J,K,L,M,N,O,rfl,_,_,P,i,Q,S,U,V,W,e,X,Y,Z⟩:=h.form;obtain⟨ab,j⟩:=AS a;have ae:=(d.chan _ (FA a)).cap;have af:=o0 a;have ag:=mj a;have ah:cH m<=64:=ij d;obtain⟨ai,rfl⟩:=i.addr;obtain⟨aj,rfl⟩:=e.addr;have ak:=(e.at c a).cells;refine bn E.go ?_;refine aa ?_;intro al k;refine aa ?_;refine⟨?_,k⟩;rw[j,show(((bS m c+(1+gq m c):Nat)):Int)=(bS m c:Int)+1+m.aA[c].cap from AY]
end Go.Proofs.R
namespace o
open Go
def A2(x:Nat×Nat):C_ B_:=[.slice (some ⟨x.1,0,none⟩) x.2 x.2]
def rl(m:Model)(bs:C_ Nat):C_ (Nat×Nat):=bs.zip (m.procs.map λa=>a.cb.toNat)
theorem zx{m:Model}{bs:C_ Nat}(h:bs.length<=m.procs.length):(rl m bs).length=bs.length:=by simp[rl];omega
def GX{m:Model}{bs:C_ Nat}{k:Nat}(h:k<bs.length)(a:k<m.procs.length):(rl m bs)[k]? = some (bs[k],m.procs[k].cb.toNat):=by
 simp[rl,List.getElem?_zip_eq_some,h,a]
def aqw{m:Model}{bs:C_ Nat}{b:Nat}(d:bs.length<m.procs.length):rl m (bs++[b])=rl m bs++[(b,m.procs[bs.length].cb.toNat)]:=by
 apply List.ext_getElem?;intro c;by_cases a:c<bs.length
 .rw[GX (by simp;omega) AY,List.getElem?_append_left (by rw[zx AY];exact a),GX a AY];simp[List.getElem_append_left a]
 .by_cases e:c=bs.length
  .subst e;rw[GX Ah d,List.getElem?_append_right (by rw[zx AY];exact EM _),zx AY];simp
  .rw[List.getElem?_eq_none (by rw[zx (by simp;omega)];simp;omega),List.getElem?_eq_none (by rw[JM,zx AY];simp;omega)]
end o
namespace Go.Proofs.R
open Go Go.RowKit ba o
structure oP(m:o.Model)(base:Nat)(bs:List Nat)(ot:Nat->List Int)(v:Value)(W:World):Prop where
 row:aT A2 T.b 1 base W v (rl m bs)
 low:∀b∈bs,base<=b
 nodup:bs.Nodup
 b0:∀p (h:p<bs.length),W.heap[bs[p]]? = some (.cells (fG (ot p)).toArray T.a)
theorem oP.ext{m:o.Model}{base:Nat}{bs:C_ Nat}{a:Nat->C_ Int}{v:B_}{w w':A_}(h:oP m base bs a v w)(b:Ext w w'):oP m base bs a v w' :=
 ⟨h.row.ext b,h.low,h.nodup,λc d=>b.obj (h.b0 c d)⟩
def oP.mod{m:o.Model}{base:Nat}{bs:C_ Nat}{c:Nat->C_ Int}{v:B_}{w w':A_}{A:Nat->Prop}(h:oP m base bs c v w)(d:Mod A w w')(e:∀a,A a->a<base):oP m base bs c v w' :=
 ⟨h.row.mod d λa g b=>by have:=(h.row.lt a g).1;have:=e a b;omega,h.low,h.nodup,λi f=>d.obj (λb=>by have:=h.low _ (FA f);have:=e _ b;omega) (h.b0 i f)⟩
def auF{l:C_ Nat}(h:l.Nodup){i j:Nat}(a:i<l.length)(b:j<l.length)(e:l[i]=l[j]):i=j:=by
 rcases AK6 i j with I | I | I
 .exact absurd e (List.pairwise_iff_getElem.1 h i j a b I)
 .exact I
 .exact absurd e.symm (List.pairwise_iff_getElem.1 h j i b a I)
def am1(x:Nat×Nat):∀a∈A2 x,a.oneCell'=true:=by simp[A2,Value.oneCell']
def oP.step{m:o.Model}{base:Nat}{bs:C_ Nat}{f d:Nat->C_ Int}{v:B_}{w w':A_}{q:Nat}(h:oP m base bs f v w)(g:q<bs.length)(i:dX bs[q] w w')(j:w'.heap[bs[q]]? = some (.cells (fG (d q)).toArray T.a))
  (k:∀a,a<bs.length->a≠q->d a=f a):oP m base bs d v w':=by
 refine⟨h.row.mod (i.mod (A:=λl=>l=bs[q]) rfl) λn p c=>?_,h.low,h.nodup,λa e=>?_⟩
 .obtain⟨cur,b⟩:=h.row.b0 n p;have r:=h.b0 q g;rw[c,r] at b;injection b with b
  injection b with _ b
  revert b;decide
 .by_cases c:a=q
  .subst c;exact j
  .rw[k a e c];exact i.obj (h.b0 a e) λs=>c (auF h.nodup e g s)
def oP.snoc{m:o.Model}{base:Nat}{bs:C_ Nat}{f:Nat->C_ Int}{v i:B_}{w w':A_}{b:Nat}(h:oP m base bs f v w)(l:bs.length<m.procs.length)(n:aT A2 T.b 1 base w' i (rl m bs++[(b,m.procs[bs.length].cb.toNat)]))
  (j:w.grownBy w' v.ownBlock)(s:base<=b)(p:∀a (d:a<bs.length),bs[a]≠b)(e:w.heap[b]? = some (.cells (fG (f bs.length)).toArray T.a)):oP m base (bs++[b]) f i w':=by
 refine⟨by rw[aqw l];exact n,λq c=>?_,?_,λa d=>?_⟩
 .rcases List.mem_append.1 c with c | c
  .exact h.low q c
  .rw[AH0] at c;omega
 .rw[List.nodup_append];refine⟨h.nodup,Ah,λt r u e g=>?_⟩;rw[AH0] at e;obtain⟨a,d,rfl⟩:=List.mem_iff_getElem.1 r;exact p a d (by rw[g,e])
 .by_cases k:a<bs.length
  .rw[AJ4 k];exact h.row.box j (h.b0 a k) Ae
  .have g:a=bs.length:=by simp at d;omega
   subst g;rw[AJ5 (EM _)];simpa using h.row.box j e Ae
def oP.auL{m:o.Model}{base:Nat}{bs:C_ Nat}{d:Nat->C_ Int}{v:B_}{g:A_}{e:C_ (C_ Int)}(h:oP m base bs d v g)(k:bs.length=m.procs.length)(l:e.length=m.procs.length)
  (i:∀a (G:a<m.procs.length),(d a).length=m.procs[a].cb.toNat/\m.procs[a].cb.toNat<=12)(n:∀a,a<m.procs.length->e[a]? = some (d a)):gS g v e:=by
 obtain⟨p,q,rfl,H,r,s,t⟩:=(aT.im (enc:=A2) (sz:=1) (λ_=>rfl) h.row).ex;have f:=zx (m:=m) (bs:=bs) AY;refine⟨p,q,by rw[f,k,l],AY,r,λu=>s (by intro w;rw[w] at f;simp at f;exact u (AF8 AY)),λx y b I=>?_⟩;have c:b<m.procs.length:=AY
 have z:=GX (m:=m) (bs:=bs) (k:=b) AY c;obtain⟨A,B⟩:=List.getElem?_eq_some_iff.1 z;have j:=t x y b A 0 _ (show(A2 (rl m bs)[b])[0]? = some _ from rfl);rw[B,add_zero] at j;refine⟨_,j,?_⟩;obtain⟨_,C⟩:=List.getElem?_eq_some_iff.1 (n b c);rw[C];exact UR (h.b0 b AY) (i b c).1.symm (by have:=i b c;unfold maxLen;omega)
end Go.Proofs.R
namespace o
def atu(m:Model):(layout m).aA.length=m.aA.length:=by simp[layout,BW,cn,rK]
end o
namespace Go.Proofs.R
open Go Go.RowKit ba o
theorem q3.ext{w w':A_}{cs:C_ B_}{l:C_ Int}(a:Ext w w')(h:q3 w cs l):q3 w' cs l:=let ⟨b,c,d⟩:=h; ⟨b,c,d.ext Flat.ext a⟩
def anR(a7 a8 q p:Nat)(v:B_)(m:o.Model)(s:C_ Int)(w:A_)(e:w.heap[a7]? = some (.cells #[.pointer (some ⟨a8,0,none⟩),.I q,v] T.y1))(a9:ql w a8 m)(c2:(o.check m).bK=0)(J:cl w v s)(bX:o.Fits m s)(c3:hF m q p) :
  EL F.La #[.pointer (some ⟨a7,0,none⟩)] w λc4 bY=>(∃b0,c4 = .agg b0.toArray/\PE bY b0 (bZ m s q))/\Ext w bY:=by
 obtain⟨e9,f,b1⟩:=a9;obtain⟨fa,fc,fe,ff,fh,fi,fj,fk,fl,fo,fr,fu,fw,bg,fx,bj,fA,fC,fD,fE,fF,fK,fM,fN,rfl,_,_,b3,b4,au,_,_,c5,W,av,aH,aI,c8⟩:=b1.form;obtain⟨fP,fS,rfl,fV⟩:=J.form;have X:=gA c2;have db:=bX.len;have fW:cH m<=64:=ij X;have fX:=X.gT;have fY:(o.layout m).aA.length=m.aA.length:=atu m;have ga:(o.insts m).length<=30:=by have:=ts m;have:=X.procs;omega
 clear b1 c8;refine bn E.La ?_;refine aa ?_;intro gb dc gg bb bf;refine aa ?_;intro C g gk aJ d;have gl:=cf bf;have dd:=cf d;have gr:=aJ.size;have bk:∀{b},Mod (λa=>a=g) C b->Ext w b:=λj=>bb.trans (j.ext aJ λa u h=>AY);have b5:∀{b},Mod (λa=>a=g) C b->b.heap[dc]? = _:=λj=>(j.ext aJ λa u h=>AY).obj bf;have aK:∀{b},Ext w b->b.heap[a7]? = _:=λh=>h.obj e;have aL:∀{b},Ext w b->b.heap[a8]? = _:=λh=>h.obj f;have b6:=bb.trans aJ;replace e:=b6.obj e;replace f:=b6.obj f;clear bf;refine aa ?_;refine K_ 24 m.vars.length [0,2,3,22,23] (λ_:ez=>[]) (none,0,0) (λc v b=>(Mod (λa=>a=g) C b/\b.heap[g]? = some (.cells #[.slice v.1 v.2.1 v.2.2,.slice none 0 0,.slice none 0 0,.slice none 0 0,.I 0] T.s))/\∃Y:C_ (hz 1),Y.length=c/\og T.b 1 C.heap.size b (.slice v.1 v.2.1 v.2.2) Y/\∀a (W:a<Y.length) (av:a<(bZ m s q).vars.length),q3 w Y[a].1 (bZ m s q).vars[a]) aW aW ⟨⟨Mod.refl _ _,d⟩,[],rfl,aT.nil _ _ _ _ _,λa j=>absurd j (Od _)⟩ ?_;clear d e f;rintro c v bl G bo ⟨⟨aw,d⟩,Y,aP,ax,bp⟩;have ko:=bk aw;have e:=aK ko;have f:=aL ko;refine aa ?_;apply I_<;>intro bq
 .have k:c<m.vars.length:=AY
  obtain⟨ay,rfl⟩:=W.addr;have de:=r3 m.vars[c] m.scalars;have b8:=qV k;have df:=ni m;obtain⟨bt,Z⟩:=An k;have di:=((W.at c k).cells).ext ko;refine aa ?_;intro dj dk dp az dq;refine aa ?_;intro A b9 aB;have ai:Ext G A:=b9.ext az dp;replace aB:A.heap[dk]? = some (.cells m.vars[c].enc.toArray T.j):=aB;replace e:=ai.obj e;replace f:=ai.obj f;replace d:=ai.obj d;have O:=ax.ext ai;have h7:=ko.trans ai;have ab:Mod (λa=>a=g) C A:=aw.trans ai.mod;clear b9 az dq di ax;obtain⟨gu,rfl⟩:=b3.addr;have dr:=b3.ext Flat.ext h7;refine aa ?_;intro I y;replace d:=y.obj d;replace e:=y.obj e;replace f:=y.obj f;replace aB:=y.obj aB;have aC:=O.ext y;have iV:=h7.trans y;have K:Mod (λa=>a=g) C I:=ab.trans y.mod;have du:=J.ext Flat.ext iV;clear dr O;refine aa ?_;refine J_ (Df m.vars[c] _ m.scalars I (c5.ext iV)) ?_;rintro _ t ⟨rfl,z⟩;refine⟨z,?_⟩;refine aa ?_;refine _X (k:=.i64) (k':=.i64) (dS m c) (dS m c+(o.cells m.vars[c] m.scalars).toNat) J (by simp[dE,bR,Z]) (by simp[dE,bR,Z];omega) AY AY λbu P B=>?_;rw[show dS m c+(o.cells m.vars[c] m.scalars).toNat - dS m c=(o.cells m.vars[c] m.scalars).toNat from AY] at B ⊢;have bw:=Cm (s:=s) (inst:=q) k;refine aa ?_;intro ae aQ dv r Q;refine⟨z.trans r,?_⟩;have dw:=z.size;have gw:=r.size;have bx:Ext I ae:=z.trans r;have aR:=aC.ext bx;have gx:=K.size;refine T_ (enc:=kE) (y:=(⟨[.slice bu (o.cells m.vars[c] m.scalars).toNat P],rfl,by simp[Value.oneCell']⟩:hz 1)) aR Q rfl iZ vD AY (by unfold maxLen;omega) AY λaj ak dx af dy ca=>?_;have gy:=aR.box ca (bx.obj d) Ae;have aS:=(K.trans bx.mod).own ca λa u=>(aR.lt a u).1;clear d aR aC Q aB e f;refine aa ?_;intro aD cb dz;refine aa ?_;refine⟨k,aV,(aj,ak,dx),trivial,⟨aS.trans (cb.mod rfl),dz⟩,_,by simp[aP],dy.wr cb dd,λa W av=>?_⟩;by_cases u:a<Y.length
  .rw[AJ4 u];exact bp a u av
  .have h:a=Y.length:=by simp at W;omega
   subst h;rw[AJ5 (EM _)];obtain⟨_,dA⟩:=List.getElem?_eq_some_iff.1 bw;subst aP;rw[dA];exact⟨.slice bu _ P,Ah,B⟩
 have dB:m.vars.length=c:=AY
 subst dB;obtain⟨bz,bA,bB⟩:=v;have gz:=cf d;have gB:=aw.size;have dC:∀{b},Mod (λa=>a<C.heap.size) G b->Ext w b->gS b (.slice bz bA bB) (bZ m s q).vars:=λ{b} j dF =>
  a6.B9 (by rw[aP,OZ]) (aT.im iZ (aT.mod ax j λa u ay=>by have:=(ax.lt a u).1;omega)) λa W av=>(bp a W av).ext dF
 clear ax bp aP;have cc:∀{b},Mod (λa=>a=g) G b->Mod (λa=>a=g) C b:=λj=>aw.trans j;refine aa ?_;clear e f;refine K_ 73 m.aA.length [0,2,3,71,72] (λ_:ez=>[]) (none,0,0) (λc v b=>(Mod (λa=>a=g) G b/\b.heap[g]? = some (.cells #[.slice bz bA bB,.slice v.1 v.2.1 v.2.2,.slice none 0 0,.slice none 0 0,.I 0] T.s))/\aT da T.a 1 G.heap.size b (.slice v.1 v.2.1 v.2.2) (((bZ m s q).lens).take c)) aW aW ⟨⟨Mod.refl _ _,d⟩,by simpa using aT.nil _ _ _ _ _⟩ ?_;clear d;rintro c v bl A bo ⟨⟨ab,d⟩,O⟩;have h7:=bk (cc ab);have e:=aK h7;have f:=aL h7;refine aa ?_;apply I_<;>intro bq
 .have k:c<m.aA.length:=AY
  have b8:=ub k;have df:=ni m;obtain⟨bt,dG⟩:=AS k;obtain⟨gC,rfl⟩:=b4.addr;obtain⟨gD,rfl⟩:=J.addr;have ch:=J.ext Flat.ext h7;have dI:=b4.ext Flat.ext h7;refine aa ?_;intro I y;replace d:=y.obj d;replace e:=y.obj e;replace f:=y.obj f;have aC:=O.ext y;have K:Mod (λa=>a=g) G I:=ab.trans y.mod;have du:=ch.ext Flat.ext y;clear ch O dI;refine aa ?_;refine M_ (bS m c) (by rw[dG]) AY ?_;refine aa ?_;intro t gF gM z cj;refine⟨z,?_⟩;have dK:bS m c<s.length:=AY
  have bw:=aim (inst:=q) k dK;have gN:(((bZ m s q).lens).take c).length<=12:=by rw[IP,OY];omega
  have aU:=aC.ext z;have gO:=K.size;have dw:=z.size;refine T_ (y:=s[bS m c]) aU cj rfl (λ_=>rfl) j8 AY (by unfold maxLen;omega) AY λaj ak P S cm cp=>?_;have gP:=aU.box cp (z.obj d) Ae;have al:=(K.trans z.mod).own cp λa u=>(aU.lt a u).1;clear d aU aC cj e f;refine aa ?_;intro ae cq Q;refine aa ?_;refine⟨k,aV,(aj,ak,P),trivial,⟨al.trans (cq.mod rfl),Q⟩,?_⟩;rw[AJ9,bw];exact cm.mod (cq.mod (A:=λa=>a=g) rfl) λa u h=>by have:=(cm.lt a u).1;omega
 have gT:m.aA.length=c:=AY
 rw[IA (by rw[OY];omega)] at O;have cr:ec G (λw=>cl w (.slice v.1 v.2.1 v.2.2) (bZ m s q).lens) A:=aT.new (λ_=>rfl) O;obtain⟨ct,cu,cv⟩:=v;have gU:=cf d;have gV:=ab.size;have dL:∀{b},Mod (λa=>a=g) A b->Mod (λa=>a=g) C b:=λj=>cc (ab.trans j);clear O;refine aa ?_;clear e f;refine K_ 99 m.procs.length [0,2,3,97,98] (λ_:ez=>[]) (none,0,0) (λc v b=>(Mod (λa=>a=g) A b/\b.heap[g]? = some (.cells #[.slice bz bA bB,.slice ct cu cv,.slice none 0 0,.slice v.1 v.2.1 v.2.2,.I 0] T.s))/\∃l:C_ Nat,l.length=c/\oP m A.heap.size l (λp=>jI m s p (m.procs[p]?.map (·.cb) |>.getD 0) 0) (.slice v.1 v.2.1 v.2.2) b) aW aW ⟨⟨Mod.refl _ _,d⟩,[],rfl,⟨aT.nil _ _ _ _ _,(λgW j=>nomatch j),AK9,(λp j=>nomatch j)⟩⟩ ?_;clear d;rintro c v bl I bo ⟨⟨K,d⟩,l,aX,an⟩;have iV:=bk (dL K);have e:=aK iV;have f:=aL iV;refine aa ?_;apply I_<;>intro bq
 .have k:c<m.procs.length:=AY
  obtain⟨ay,rfl⟩:=aH.addr;obtain⟨dM,dO,dN,N,bC,bD⟩:=aH.at c k;obtain⟨dP,dQ,rfl,dR⟩:=bC.form;obtain⟨dV,dW,rfl,dY⟩:=bD.form;have dZ:=(X.proc _ (FA k)).cb;replace N:=N.ext iV;refine aa ?_;intro t gX gZ z aY;replace d:=z.obj d;have U:=an.ext z;have ao:Mod (λa=>a=g) A t:=K.trans z.mod;clear N an e f;refine aa ?_;intro S i;replace d:=i.obj d;replace aY:=i.obj aY;have aq:=U.ext i;have al:Mod (λa=>a=g) A S:=ao.trans i.mod;refine aa ?_;refine _Y m.procs[c].cb.toNat AY AY ?_;intro ae aQ dv r Q;refine⟨r,?_⟩;refine aa ?_;intro af g4 g6 L x;refine⟨r.trans L,?_⟩;have aZ:=r.trans L;have aE:=aq.ext aZ;have ee:=zx (m:=m) (bs:=l) AY;have g7:=X.procs;have g8:=al.size;have g9:=aZ.size;refine T_ (y:=(aQ,m.procs[c].cb.toNat)) aE.row x rfl (λ_=>rfl) am1 AY (by unfold maxLen;omega) AY λaj ak P aD ef bE=>?_;have hc:=aE.row.box bE (aZ.obj d) Ae;have bG:=(al.trans aZ.mod).own bE λa u=>(aE.row.lt a u).1;have eg:oP m A.heap.size (l++[aQ]) _ (.slice aj ak P) aD:=aE.snoc AY (by subst aX;exact ef) bE AY (λp B h=>by have:=cf (aq.b0 p B);omega) (by
   subst aX;rw[ZX];simp only[List.getElem?_eq_getElem k,Option.map_some,Option.getD_some];exact L.obj Q)
  clear d aE aq U x;refine aa ?_;intro bH cw aY;refine aa ?_;exact⟨k,aV,(aj,ak,P),trivial,⟨bG.trans (cw.mod rfl),aY⟩,l++[aQ],by simp[aX],eg.mod (cw.mod (A:=λa=>a=g) rfl) λa h=>AY⟩
 have eh:m.procs.length=c:=AY
 subst eh;obtain⟨bI,cx,cy⟩:=v;have hf:=cf d;have hg:=K.size;have ei:∀{b},Mod (λa=>a∈l) I b->Ext w b:=λj=>j.ext iV λa u h=>by have:=an.low a h;have:=bb.size;omega
 have ej:¬g∈l:=λj=>by have:=an.low _ j;omega
 have cz:∀{b},Mod (λa=>a∈l) I b->b.heap[g]? = _:=λj=>j.obj ej d;refine aa ?_;refine K_ 120 (o.insts m).length [0,2,3,118,119] (λ_:Unit=>[]) () (λc _ b=>Mod (λa=>a∈l) I b/\oP m A.heap.size l (λp=>jI m s p (m.procs[p]?.map (·.cb) |>.getD 0) c) (.slice bI cx cy) b) aW aW ⟨Mod.refl _ _,an⟩ ?_;clear an d e f;rintro c _ bl t bo ⟨ao,U⟩;have iW:=ei ao;have e:=aK iW;have f:=aL iW;have d:=cz ao;refine aa ?_;apply I_<;>intro bq
 .have k:c<(o.insts m).length:=AY
  have a0:=aI.ext Flat.ext iW;obtain⟨eo,rfl⟩:=aI.addr;have bJ:=qJ _ (FA k);obtain⟨n,M,cB,bK⟩:=uL bJ;have cE:(o.insts m)[c]?.map (·.proc)=some (n:Int):=by rw[List.getElem?_eq_getElem k,AI5,cB]
  obtain⟨aF,cF,hk⟩:=bX.loc k M bK;obtain⟨hl,cG⟩:=List.getElem?_eq_some_iff.1 cF;obtain⟨bt,Z⟩:=qH k;obtain⟨hn,rfl⟩:=J.addr;obtain⟨er,rfl⟩:=au.addr;have dZ:=(X.proc _ (FA M)).cb;refine aa ?_;intro dj et eu az eB;refine aa ?_;intro S cI aG;have i:Ext t S:=cI.ext az eu;replace aG:S.heap[et]? = some (.cells #[.I n,.I (o.insts m)[c].elem] T.c):=by rw[<-cB];exact aG
  replace d:=i.obj d;replace e:=i.obj e;replace f:=i.obj f;have aq:=U.ext i;have al:Mod (λa=>a∈l) I S:=ao.trans i.mod;clear cI az eB a0 U;refine aa ?_;intro ae r;replace d:=r.obj d;replace f:=r.obj f;replace e:=r.obj e;replace aG:=r.obj aG;have bL:=aq.ext r;have eC:Mod (λa=>a∈l) I ae:=al.trans r.mod;have ho:=J.ext Flat.ext ((iW.trans i).trans r);have hp:=au.ext Flat.ext ((iW.trans i).trans r);clear aq;have ee:=zx (m:=m) (bs:=l) AY;have cK:=aT.im (enc:=A2) (sz:=1) (λ_=>rfl) bL.row;obtain⟨ht,rfl⟩:∃ay,bI=some ay:=cK.addr;have hx:=cK.len.1;obtain⟨hB,cL⟩:=List.getElem?_eq_some_iff.1 (GX (m:=m) (bs:=l) (k:=n) AY M);have a1:aF<m.procs[n].cb.toNat:=AY
  have cM:(rl m l)[n].1=l[n]:=by rw[cL]
  have bM:(rl m l)[n].2=m.procs[n].cb.toNat:=by rw[cL]
  have a3:=bL.b0 n AY;simp only[List.getElem?_eq_getElem M,Option.map_some,Option.getD_some] at a3;rw[<-cM] at a3;have cN:=w3 m s n m.procs[n].cb c;have eE:=FC (m:=m) (s:=s) (p:=n) (k:=c) a1;have de:=JE m s n aF c;have hC:cl ae (.slice (some ⟨(rl m l)[n].1,0,none⟩) (rl m l)[n].2 (rl m l)[n].2) (jI m s n m.procs[n].cb c):=UR a3 (by rw[bM,cN]) (by rw[cN];unfold maxLen;omega);have hD:aF<(jI m s n m.procs[n].cb c).length:=AY
  obtain⟨_,eF⟩:=List.getElem?_eq_some_iff.1 eE;refine aa ?_;refine M_ (b7 m c) (by rw[Z]) (by rw[db];omega) ?_;refine aa ?_;refine M_ aF cG (by rw[bM];exact a1) ?_;refine aa ?_;refine M_ aF cG (by rw[bM];exact a1) ?_;refine aa ?_;refine _B a3 (by rw[AK5,x4];omega) rfl λaf ar x=>?_;rw[Mn (AH2 _),eF,<-ZW cE cF a1] at x;rw[cM] at ar x;refine aa ?_;refine⟨k,aV,(),trivial,eC.trans (ar.mod (FA _)),bL.step (q:=n) AY ar (by simp only[List.getElem?_eq_getElem M,Option.map_some,Option.getD_some];exact x) λp B hJ=>?_⟩;have eG:p<m.procs.length:=AY
  simp only[List.getElem?_eq_getElem eG,Option.map_some,Option.getD_some];exact ZV (by rw[cE];intro h;have:=Option.some.inj h;omega)
 have eH:(o.insts m).length=c:=AY
 subst eH;have cP:Mod (λa=>a=g) A t:=K.comp ao (λa _ h=>h) λa u h=>by have:=U.low a h;omega
 have bN:Mod (λa=>a=g) G t:=ab.trans cP;have eK:Mod (λa=>a=g) C t:=aw.trans bN;have H:=b5 eK;have eL:ec G (λw=>cl w (.slice ct cu cv) (bZ m s q).lens) t:=cr.move cP (λa _ h=>AY) λa _ h=>h;have eM:∀{b},Mod (λa=>a<G.heap.size) t b->gS b (.slice bI cx cy) (bZ m s q).at_:=λ{b} a9=>(U.mod a9 λa h=>AY).auL aX (VU m s q) (λp B=>by
   simp only[List.getElem?_eq_getElem B,Option.map_some,Option.getD_some];exact⟨w3 _ _ _ _ _,by have:=(X.proc _ (FA B)).cb;omega⟩) λp B=>by
   simp only[List.getElem?_eq_getElem B,Option.map_some,Option.getD_some];exact ail B
 have hK:=bN.size;clear cr U b5 cz;have M:=c3.ax;have b8:=HD M;obtain⟨bt,Z⟩:=qH M;obtain⟨er,rfl⟩:=au.addr;have cQ:=au.ext Flat.ext iW;obtain⟨eo,rfl⟩:=aI.addr;have a0:=aI.ext Flat.ext iW;have bJ:=qJ _ (FA M);obtain⟨ag,B,eP,bK⟩:=uL bJ;have hL:(kf m (o.insts m)[q]).length=1+m.procs[ag].vars.length:=by rw[bK,py]
 obtain⟨ay,rfl⟩:=aH.addr;obtain⟨dM,dO,dN,N,bC,bD⟩:=aH.at ag B;obtain⟨dP,dQ,rfl,dR⟩:=bC.form;obtain⟨dV,dW,rfl,dY⟩:=bD.form;refine aa ?_;intro S i;replace d:=i.obj d;replace f:=i.obj f;replace e:=i.obj e;replace H:=i.obj H;have eQ:=cQ.ext Flat.ext i;have eR:=a0.ext Flat.ext i;clear cQ a0;refine aa ?_;intro ae cS eS r Q;refine⟨r,?_⟩;refine aa ?_;intro af ar x;have L:Ext S af:=ar.ext r eS;replace x:af.heap[cS]? = some (.cells #[.I ag,.I (o.insts m)[q].elem] T.c):=by rw[<-eP];exact x
 replace d:=L.obj d;replace e:=L.obj e;replace f:=L.obj f;replace H:=L.obj H;have aS:Mod (λa=>a=g) t af:=i.mod.trans L.mod;have hM:=aS.size;have cU:Ext w af:=iW.trans (i.trans L);have eU:=au.ext Flat.ext cU;clear Q ar eR eQ;refine aa ?_;intro aD ah;replace d:=ah.obj d;replace e:=ah.obj e;replace f:=ah.obj f;replace H:=ah.obj H;replace x:=ah.obj x;have bG:Mod (λa=>a=g) t aD:=aS.trans ah.mod;have bO:Ext w aD:=cU.trans ah;have hN:=J.ext Flat.ext bO;clear eU;replace N:=N.ext bO;unfold ed.enc at N;refine aa ?_;intro bH V;replace d:=V.obj d;replace e:=V.obj e;replace f:=V.obj f;replace H:=V.obj H;replace x:=V.obj x;have eV:Mod (λa=>a=g) t bH:=bG.trans V.mod;have cV:Ext w bH:=bO.trans V;have hO:=J.ext Flat.ext cV;replace N:=N.ext V;refine aa ?_;refine _X (k:=.i64) (k':=.i64) (b7 m q+1) (b7 m q+1+m.procs[ag].vars.length) J (by simp[dE,bR,Z]) (by simp[dE,bR,Z]) AY AY λbu P cW=>?_;rw[show b7 m q+1+m.procs[ag].vars.length - (b7 m q+1)=m.procs[ag].vars.length from AY] at cW ⊢;refine aa ?_;intro cX a5 hP;have eW:cS≠g:=by have:=i.size;omega
 replace x:=a5.obj x eW;replace H:=a5.obj H AY;have eX:Mod (λa=>a=g) t cX:=eV.trans (a5.mod rfl);have eY:Ext w cX:=a5.ext cV AY;refine aa ?_;intro cY bQ aG;have c0:Mod (λa=>a=g) t cY:=eX.trans (bQ.mod rfl);have eZ:Ext w cY:=bQ.ext eY AY;replace H:=bQ.obj H AY;refine aa ?_;intro bU bV hR;have bW:Ext w bU:=bV.ext eZ AY;have c1:Mod (λa=>a<G.heap.size) t bU:=(c0.Cy λa h=>AY).trans (bV.mod AY);have e0:Mod (λa=>a<C.heap.size) G t:=bN.Cy λa h=>AY
 have e4:Mod (λa=>a<C.heap.size) t bU:=(c0.Cy λa h=>AY).trans (bV.mod AY);refine aa ?_;obtain⟨e7,e8⟩:=yt s M (n:=m.procs[ag].vars.length) AY;refine⟨⟨_,rfl,_,_,_,_,by rw[e8];rfl,dC (e0.trans e4) bW,eL _ c1,?_,eM c1⟩,bW⟩;rw[e7];exact cW.ext Flat.ext bW
end Go.Proofs.R