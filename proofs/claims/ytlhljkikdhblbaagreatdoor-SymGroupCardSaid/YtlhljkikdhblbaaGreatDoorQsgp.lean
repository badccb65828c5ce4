/- Parts. -/
import Derived.Test.YtlhljkikdhblbaaGreatDoorQsgo
set_option linter.all false
set_option maxRecDepth 4000
set_option maxHeartbeats 16000000
namespace o
open Go
def lost(m:Model)(s t:C_ Int)(c:et):C_ Int:=hY t (bT m (comm c.b6).2.toNat) (chanOf m s (comm c.b6).2.toNat)
structure IU(m:Model)(s:List Int)(ref eM:Int)(t:List Int)(e:Int):Prop where
 f0:¬(nm m s/\Told m ref)->t=[]/\e=2
 f1:∀q p k,nm m s->gi m ref q p k->¬(0<=eM/\eM<ways (cR m p k) m.ay)->t=[]/\e=2
 f2:∀q p k,nm m s->gi m ref q p k->0<=eM/\eM<ways (cR m p k) m.ay->hr m s q (cR m p k)=none->t=[]/\e=15
 f3:∀q p k u,nm m s->gi m ref q p k->0<=eM/\eM<ways (cR m p k) m.ay->hr m s q (cR m p k)=some u->t=(if eM=1 then lost m s u (cR m p k) else u)/\e=0
theorem IU.none{m:Model}{s:C_ Int}{ref a:Int}{q p k:Nat}(b:gi m ref q p k)(f:nm m s)(g:0<=a/\a<ways (cR m p k) m.ay)(h:hr m s q (cR m p k)=Option.none):IU m s ref a [] 15 :=
 ⟨λc=>absurd ⟨f,b.told⟩ c,λi j l _ d c=>(by obtain⟨rfl,rfl,rfl⟩:=b.one d;exact absurd g c),λ_ _ _ _ _ _ _=>⟨rfl,rfl⟩,λi j l n _ d _ e=>by obtain⟨rfl,rfl,rfl⟩:=b.one d;rw[h] at e;cases e⟩
def IU.some{m:Model}{s e:C_ Int}{ref c:Int}{q p k:Nat}(d:gi m ref q p k)(l:nm m s)(n:0<=c/\c<ways (cR m p k) m.ay)(h:hr m s q (cR m p k)=Option.some e):IU m s ref c (if c=1 then lost m s e (cR m p k) else e) 0 :=
 ⟨λf=>absurd ⟨l,d.told⟩ f,λg i j _ b f=>(by obtain⟨rfl,rfl,rfl⟩:=d.one b;exact absurd n f),λg i j _ b _ a=>(by obtain⟨rfl,rfl,rfl⟩:=d.one b;rw[h] at a;cases a),
  λg i j r _ b _ a=>by obtain⟨rfl,rfl,rfl⟩:=d.one b;rw[h] at a;injection a with a;subst a;exact⟨rfl,rfl⟩⟩
def ayQ{c:et}{l:C_ ed}(h:1<ways c l):∃a:Nat,(comm c.b6).2=a/\a<l.length/\(comm c.b6).1=4:=by
 unfold ways at h;split at h
 .rename_i d;cases b:nth l (comm c.b6).2 with
  | none=>rw[b] at h;simp at h
  | some f =>
   obtain⟨g,_,e⟩:=z6 b;exact⟨(comm c.b6).2.toNat,AW,e,d⟩
 .omega
def aal{m:Model}{s t:C_ Int}{ref:Int}{q p k:Nat}(a:gi m ref q p k)(b:Fits m s)(h:hr m s q (cR m p k)=some t):t.length=cG m :=
 (alA a.inst.av rfl a.cin b.len h).1.trans b.len
end o
namespace Go.Proofs.R
open Go Go.RowKit a8
def av5(cs:C_ B_)(v:B_)(m:o.Model)(s:C_ Int)(w:A_)(h:nR w cs m)(e:o.gm m)(c:cH w v s) :
  EG F.NC #[.agg cs.toArray,v] w λf g=>(∃a:Bool,f = .bool a/\(a=true↔o.Fits m s))/\Ext w g:=by
 obtain⟨i,j,k,l,n,p,q,r,t,u,x,y,z,bg,A,bj,B,C,G,H,N,O,P,Q,rfl,I,J,_⟩:=h.form;obtain⟨S,U,rfl,V⟩:=c.form;refine bm E.NC ?_;refine aa ?_;intro K W X b d;refine aa ?_;refine _W [.slice i m.scalars.length j,.slice k m.vars.length l,.slice n m.ay.length p,.slice q m.procs.length r,.slice t m.props.length u] d rfl rfl ?_;refine aa ?_;refine _W [.slice x (o.layout m).vars.length y,.slice z (o.layout m).ay.length bg,.slice A (o.layout m).insts.length bj,.I (o.layout m).cells,.slice B (o.layout m).aQ.length C,.slice G (o.layout m).ab.length H] d rfl rfl ?_;refine aa ?_;refine J_ (av1 _ _ m _ s K (I.ext b) (J.ext b) e (c.ext Flat.ext b)) ?_;rintro _ Y ⟨⟨a,rfl,L⟩,M⟩;refine aa ?_;exact⟨⟨a,rfl,L⟩,b.trans M⟩
end Go.Proofs.R
namespace o
open Go
structure j6 where
 cmd:Int
 eM:Int
 to:List Int
def H2(m:Model)(q:Nat):Nat:=match (insts m)[q]? with
 | some a=>a.proc.toNat
 | none=>0
def kl(m:Model)(s:C_ Int)(r:Nat):C_ j6:=match (refs m)[r]? with
 | none=>[]
 | some a=>match hr m s a.inst.toNat (cR m (H2 m a.inst.toNat) a.cmd.toNat) with
  | none=>[]
  | some b=>⟨r,0,b⟩ :: if ways (cR m (H2 m a.inst.toNat) a.cmd.toNat) m.ay=2 then [⟨r,1,lost m s b (cR m (H2 m a.inst.toNat) a.cmd.toNat)⟩] else []
def hy(m:Model)(s:C_ Int)(n:Nat):C_ j6:=(List.range n).flatMap (kl m s)
def eP(m:Model)(s:C_ Int):C_ j6:=match hy m s (refs m).length with
 | []=>[⟨-1,0,s⟩]
 | l=>l
def HP(m:Model)(s:C_ Int)(n:Nat):hy m s (n+1)=hy m s n++kl m s n:=by
 unfold hy;rw[AI5,AJ6];simp
def atT(m:Model)(s:C_ Int)(r:Nat):(kl m s r).length<=2:=by
 unfold kl;split
 .simp
 .split
  .simp
  .split<;>simp
theorem Uo(m:Model)(s:C_ Int):∀a,(hy m s a).length<=2*a
 | 0=>by simp[hy]
 | a+1=>by
  rw[HP,Jv]
  have:=Uo m s a
  have:=atT m s a
  omega
theorem gi.kl{m:Model}{r q p k:Nat}(h:gi m r q p k)(s:C_ Int):kl m s r=match hr m s q (cR m p k) with
  | none=>[]
  | some b=>⟨r,0,b⟩ :: if ways (cR m p k) m.ay=2 then [⟨r,1,lost m s b (cR m p k)⟩] else []:=by
 have c:=h.ab;have a:=h.at_;simp only[Int.toNat_natCast] at c a;have d:(refs m)[r].inst.toNat=q:=by have:=a.rS;omega
 have e:(refs m)[r].cmd.toNat=k:=by have:=a.sO;omega
 have f:H2 m q=p:=by
  unfold H2;rw[List.getElem?_eq_getElem a.ab]
  have:=a.ip
  simp only;omega
 unfold o.kl;rw[List.getElem?_eq_getElem c];simp only[d,e,f]
def gi.off{m:Model}{r q p k:Nat}(h:gi m r q p k){s:C_ Int}(a:hr m s q (cR m p k)=none):o.kl m s r=[]:=by rw[h.kl,a]
def gi.HV{m:Model}{r q p k:Nat}(h:gi m r q p k){s t:C_ Int}(a:hr m s q (cR m p k)=some t)(b:¬ways (cR m p k) m.ay=2):o.kl m s r=[⟨r,0,t⟩]:=by
 rw[h.kl,a];simp only[if_neg b]
def gi.HW{m:Model}{r q p k:Nat}(h:gi m r q p k){s t:C_ Int}(a:hr m s q (cR m p k)=some t)(b:ways (cR m p k) m.ay=2):o.kl m s r=[⟨r,0,t⟩,⟨r,1,lost m s t (cR m p k)⟩]:=by
 rw[h.kl,a];simp only[if_pos b]
structure Aw(m:Model)(s:List Int)(x:j6)(q p k:Nat)(u:List Int):Prop where
 at_:gi m x.cmd q p k
 aaJ:hr m s q (cR m p k)=some u
 ah8:x.eM=0/\x.to=u\/x.eM=1/\ways (cR m p k) m.ay=2/\x.to=lost m s u (cR m p k)
theorem HQ{m:Model}{s:C_ Int}{r:Nat}(h:(check m).bN=0)(i:r<(refs m).length){x:j6}(a:x∈kl m s r):∃d b c g,Aw m s x d b c g/\x.cmd=r:=by
 obtain⟨d,b,c,e⟩:=FX (m:=m) (ref:=r) ⟨h,AW,AW⟩;cases f:hr m s d (cR m b c) with
 | none=>rw[e.off f] at a;cases a
 | some g =>
  by_cases hw:ways (cR m b c) m.ay=2
  .rw[e.HW f hw] at a;simp only[List.mem_cons,List.not_mem_nil,or_false] at a;rcases a with rfl | rfl
   .exact⟨d,b,c,g,⟨e,f,.inl ⟨rfl,rfl⟩⟩,rfl⟩
   .exact⟨d,b,c,g,⟨e,f,.inr ⟨rfl,hw,rfl⟩⟩,rfl⟩
  .rw[e.HV f hw] at a;simp only[List.mem_cons,List.not_mem_nil,or_false] at a;subst a;exact⟨d,b,c,g,⟨e,f,.inl ⟨rfl,rfl⟩⟩,rfl⟩
def Uq{m:Model}{s:C_ Int}(g:(check m).bN=0){x:j6}(a:x∈eP m s):(x.cmd = -1/\x.eM=0/\x.to=s)\/∃b c d e,Aw m s x b c d e:=by
 have h:x∈hy m s (refs m).length->∃b c d e,Aw m s x b c d e:=λf=>by
  unfold hy at f;obtain⟨j,i,a⟩:=List.mem_flatMap.1 f;obtain⟨b,c,d,e,f,_⟩:=HQ g (List.mem_range.1 i) a;exact⟨b,c,d,e,f⟩
 unfold eP at a;split at a
 .simp only[List.mem_cons,List.not_mem_nil,or_false] at a;subst a;exact .inl ⟨rfl,rfl,rfl⟩
 .exact .inr (h a)
def O4{m:Model}{c:et}(h:ways c m.ay=2):∃a:Nat,(comm c.b6).2=a/\a<m.ay.length:=by
 obtain⟨a,b,d,_⟩:=ayQ (c:=c) (l:=m.ay) AW;exact⟨a,b,d⟩
def att{m:Model}{f b:Int->Int->Int}(d:eN m.scalars f b){s t e v:C_ Int}(h:fL m f s t)(k:fL m f e v){c:et}(g:ways c m.ay=2):fL m f (lost m s e c) (lost m t v c):=by
 obtain⟨j,i,a⟩:=O4 g;unfold lost;rw[i,AG4,h.chan d a];have l:=mn a;exact k.D3 d a (pI (by rw[h.ls];omega))
theorem Vf(m:Model):∀(e:C_ c7) (d:Nat),(mI m e d).Pairwise (λb a=>b.inst<a.inst\/b.inst=a.inst/\b.cmd<a.cmd)/\∀b∈mI m e d,(d:Int)<=b.inst
 | [],_=>⟨List.Pairwise.nil,λb i=>by simp[mI] at i⟩
 | b :: j,d=>by
  obtain⟨k,f⟩:=Vf m j (d+1);have g:∀a∈refsOf d (p4 m b),a.inst=d:=λa c=>by
   unfold refsOf at c;obtain⟨q,_,rfl⟩:=List.mem_map.1 c;rfl
  simp only[mI];refine⟨List.pairwise_append.2 ⟨?_,k,λh l n p=>.inl ?_⟩,λa c=>?_⟩
  .unfold refsOf;rw[List.pairwise_map];exact List.Pairwise.imp (λ{h r} s=>.inr ⟨rfl,by simp only;omega⟩) List.pairwise_lt_range
  .rw[g h l]
   have:=f n p
   omega
  .rcases List.mem_append.1 c with c | c
   .rw[g a c];omega
   .have:=f a c
    omega
def agM{m:Model}{q r:Nat}(b:q<(refs m).length)(c:r<(refs m).length)(e:(refs m)[q].inst=(refs m)[r].inst)(f:(refs m)[q].cmd=(refs m)[r].cmd):q=r:=by
 have a:=(Vf m (insts m) 0).1;rw[AJ9] at a;rcases AK8 q r with h | h | h
 .have:=a q r b c h
  have d:(refs m)[q].inst<(refs m)[r].inst\/(refs m)[q].inst=(refs m)[r].inst/\(refs m)[q].cmd<(refs m)[r].cmd:=this;omega
 .exact h
 .have:=a r q c b h
  have d:(refs m)[r].inst<(refs m)[q].inst\/(refs m)[r].inst=(refs m)[q].inst/\(refs m)[r].cmd<(refs m)[q].cmd:=this;omega
theorem agJ{m:Model}:∀(c:C_ c7) (a b d:Nat) (e:b<c.length),d<p4 m c[b]->(⟨((a+b:Nat):Int),(d:Int)⟩:Ref)∈mI m c a
 | [],_,_,_,e,_=>by simp at e
 | g :: c,a,0,d,_,f=>by
  simp only[mI];refine AI4 _ ?_;unfold refsOf;exact List.mem_map.2 ⟨d,List.mem_range.2 f,Ah⟩
 | g :: c,a,b+1,d,e,f=>by
  simp only[mI];refine AI7 _ ?_
  have:=agJ c (a+1) b d (by simpa using e) (by simpa using f)
  rwa[show a+1+b=a+(b+1) from AW] at this
def awz{m:Model}(f:(check m).bN=0){q p k:Nat}(a:hI m q p)(h:k<(m.procs[p]'a.aC).cL.length):∃b:Nat,gi m b q p k:=by
 have g:p4 m ((insts m)[q]'a.av)=(m.procs[p]'a.aC).cL.length:=by
  unfold p4;rw[a.nth]
 have e:=agJ (m:=m) (insts m) 0 q k a.av (by rw[g];exact h);rw[ZB] at e;obtain⟨b,c,d⟩:=List.mem_iff_getElem.1 e;have d:(refs m)[b]'c=⟨(q:Int),(k:Int)⟩:=d;have i:(refs m)[(b:Int).toNat]'(by rw[AG4];exact c)=⟨(q:Int),(k:Int)⟩:=d;refine⟨b,f,AW,by rw[AG4];exact c,?_⟩;rw[i];exact⟨a.av,rfl,a.eq,a.aC,rfl,h⟩
def alw{m:Model}{r a q p k:Nat}(h:gi m r q p k)(b:gi m a q p k):r=a:=by
 have c:=h.at_;have d:=b.at_
 have:=h.ab
 have:=b.ab
 exact agM (q:=r) (r:=a) AW AW (c.rS.trans d.rS.symm) (c.sO.trans d.sO.symm)
structure pB(m:Model)(f:Int->Int->Int)(r en:Nat)(q q' p k:Nat):Prop where
 a:gi m r q p k
 b:gi m en q' p k
 i:jK m f q q' p
def Om{m:Model}{f b:Int->Int->Int}(l:eN m.scalars f b)(j:(check m).bN=0){r:Nat}(h:r<(refs m).length):∃a c d e g,pB m f r a c d e g:=by
 obtain⟨c,e,g,i⟩:=FX (m:=m) (ref:=r) ⟨j,AW,AW⟩;obtain⟨d,k⟩:=D2 l i.inst;obtain⟨a,n⟩:=awz j k.b i.at_.J;exact⟨a,c,d,e,g,i,n,k⟩
theorem pB.symm{m:Model}{f b:Int->Int->Int}(c:eN m.scalars f b){r a q q' p k:Nat}(h:pB m f r a q q' p k):pB m b a r q' q p k:=⟨h.b,h.a,h.i.symm c⟩
theorem pB.one{m:Model}{f:Int->Int->Int}{r d e q q' p k a i b c:Nat}(h:pB m f r d q q' p k)(g:pB m f r e a i b c):d=e:=by
 obtain⟨rfl,rfl,rfl⟩:=h.a.one g.a
 have:=(h.i.one g.i).1
 subst this;exact alw h.b g.b
theorem gi.e{m:Model}{r:Int}{q p k:Nat}(h:gi m r q p k):IS (inner (m.procs[p]'(h.at_.aC)) (fw m)) (cR m p k):=by
 rw[C9 h.at_.aC h.at_.J];exact alz h.ok h.at_.aC h.at_.J
theorem afu{m:Model}{f b:Int->Int->Int}(g:eN m.scalars f b){s t:C_ Int}(h:fL m f s t){r i q q' p k:Nat}(a:pB m f r i q q' p k) :
  (kl m t i).length=(kl m s r).length/\∀d∈kl m s r,∃l∈kl m t i,l.eM=d.eM/\fL m f d.to l.to:=by
 cases e:hr m s q (cR m p k) with
 | none =>
  rw[a.a.off e,a.b.off (alE g a.i a.a.e h e)];exact⟨rfl,λd c=>by cases c⟩
 | some u =>
  obtain⟨v,n,j⟩:=aam g a.i a.a.e h e;by_cases hw:ways (cR m p k) m.ay=2
  .rw[a.a.HW e hw,a.b.HW n hw];refine⟨rfl,λd c=>?_⟩;simp only[List.mem_cons,List.not_mem_nil,or_false] at c;rcases c with rfl | rfl
   .exact⟨_,AG3 ..,rfl,j⟩
   .exact⟨_,AG6 _ (AG3 ..),rfl,att g h j hw⟩
  .rw[a.a.HV e hw,a.b.HV n hw];refine⟨rfl,λd c=>?_⟩;simp only[List.mem_cons,List.not_mem_nil,or_false] at c;subst c;exact⟨_,AG3 ..,rfl,j⟩
def awB{m:Model}{f b:Int->Int->Int}(i:eN m.scalars f b)(n:(check m).bN=0):∃p:Nat->Nat,(∀a,a<(refs m).length->∃d e g h,pB m f a (p a) d e g h)/\((List.range (refs m).length).map p).Perm (List.range (refs m).length):=by
 have j:∀a,∃k,a<(refs m).length->∃d e g h,pB m f a k d e g h:=λa=>by
  by_cases q:a<(refs m).length
  .obtain⟨k,c⟩:=Om i n q;exact⟨k,λ_=>c⟩
  .exact⟨a,λc=>absurd c q⟩
 refine⟨λa=>Classical.choose (j a),λa=>Classical.choose_spec (j a),?_⟩;refine N7 _ _ AL4 Ah λu r=>?_;obtain⟨a,d,e,g,h,c⟩:=Om i.symm n (List.mem_range.1 r);have s:=c.symm i.symm;have l:=c.b.ab;rw[AG4] at l;obtain⟨_,_,_,_,t⟩:=Classical.choose_spec (j a) l;exact List.mem_map.2 ⟨a,List.mem_range.2 l,t.one s⟩
def atK{m:Model}{f b:Int->Int->Int}(a:eN m.scalars f b)(c:(check m).bN=0){s t:C_ Int}(h:fL m f s t):(hy m t (refs m).length).length=(hy m s (refs m).length).length:=by
 obtain⟨k,d,e⟩:=awB a c;unfold hy;rw[<-(e.flatMap_right _).length_eq,List.length_flatMap,List.length_flatMap,List.map_map];congr 1;refine AJ1 λg i=>?_;obtain⟨_,_,_,_,j⟩:=d g (List.mem_range.1 i);exact(afu a h j).1
theorem atM{m:Model}{f b:Int->Int->Int}(j:eN m.scalars f b)(i:(check m).bN=0){s t:C_ Int}(h:fL m f s t){x:j6}(c:x∈eP m s) :
  ∃a∈eP m t,a.eM=x.eM/\fL m f x.to a.to/\((x.cmd = -1/\a.cmd = -1)\/∃e d k l n p,x.cmd=((e:Nat):Int)/\a.cmd=((d:Nat):Int)/\pB m f e d k l n p):=by
 have g:=atK j i h;unfold eP at c ⊢;cases q:hy m s (refs m).length with
 | nil =>
  rw[q] at g c;rw[AG1 g];simp only[List.mem_cons,List.not_mem_nil,or_false] at c;subst c;exact⟨⟨-1,0,t⟩,AG3 ..,rfl,h,.inl ⟨rfl,rfl⟩⟩
 | cons I J =>
  rw[q] at g c;have w:x∈hy m s (refs m).length:=by rw[q];exact c
  unfold hy at w;obtain⟨e,y,z⟩:=List.mem_flatMap.1 w;obtain⟨d,k,l,n,p,r⟩:=Om j i (List.mem_range.1 y);obtain⟨a,A,G,H⟩:=(afu j h r).2 x z;have u:=r.b.ab;rw[AG4] at u;have B:a∈hy m t (refs m).length:=List.mem_flatMap.2 ⟨d,List.mem_range.2 u,A⟩;have bg:x.cmd=e:=by obtain⟨_,_,_,_,_,v⟩:=HQ i (List.mem_range.1 y) z;exact v
  have bj:a.cmd=d:=by obtain⟨_,_,_,_,_,v⟩:=HQ i u A;exact v
  cases C:hy m t (refs m).length with
  | nil=>rw[C] at g;simp at g
  | cons K L =>
   rw[C] at B;exact⟨a,B,G,H,.inr ⟨e,d,k,l,n,p,bg,bj,r⟩⟩
theorem atL{m:Model}(h:(check m).bN=0){s:C_ Int}{x y:j6}(d:x∈eP m s)(e:y∈eP m s)(B:x.cmd=y.cmd)(p:x.eM=y.eM):x=y:=by
 have t:∀{b f:Nat},b<(refs m).length->f<(refs m).length->x∈kl m s b->y∈kl m s f->x=y:=λ{b f} i j a c=>by
  have bg:x.cmd=b:=by obtain⟨_,_,_,_,_,k⟩:=HQ h i a;exact k
  have bj:y.cmd=f:=by obtain⟨_,_,_,_,_,k⟩:=HQ h j c;exact k
  have:b=f:=AW
  subst this;obtain⟨u,q,r,l⟩:=FX (m:=m) (ref:=b) ⟨h,AW,AW⟩;cases n:hr m s u (cR m q r) with
  | none=>rw[l.off n] at a;cases a
  | some C =>
   by_cases hw:ways (cR m q r) m.ay=2
   .rw[l.HW n hw] at a c;simp only[List.mem_cons,List.not_mem_nil,or_false] at a c;rcases a with rfl | rfl<;>rcases c with rfl | rfl
    .rfl
    .simp at p
    .simp at p
    .rfl
   .rw[l.HV n hw] at a c;simp only[List.mem_cons,List.not_mem_nil,or_false] at a c;rw[a,c]
 unfold eP at d e;cases g:hy m s (refs m).length with
 | nil =>
  rw[g] at d e;simp only[List.mem_cons,List.not_mem_nil,or_false] at d e;rw[d,e]
 | cons a G =>
  rw[g] at d e;have v:x∈hy m s (refs m).length:=by rw[g];exact d
  have w:y∈hy m s (refs m).length:=by rw[g];exact e
  obtain⟨b,i,z⟩:=List.mem_flatMap.1 v;obtain⟨f,j,A⟩:=List.mem_flatMap.1 w;exact t (List.mem_range.1 i) (List.mem_range.1 j) z A
def ayO(c:et)(l:C_ ed):ways c l<=2:=by
 unfold ways;split
 .split
  .split<;>omega
  .omega
 .omega
def apT{c:et}{a:Int}(h:head c a=0):0<=c.from_/\c.from_<a/\0<=c.to/\c.to<a:=by
 unfold head at h;by_cases b:isName c.name=false
 .rw[if_pos b] at h;exact absurd h Ae
 rw[if_neg b] at h;by_cases d:c.from_<0\/a<=c.from_\/c.to<0\/a<=c.to
 .rw[if_pos d] at h;exact absurd h Ae
 omega
def alD{m:Model}(h:(check m).bN=0){p k:Nat}(c:p<m.procs.length)(d:k<m.procs[p].cL.length):0<=m.procs[p].cL[k].from_/\m.procs[p].cL[k].from_<m.procs[p].cb/\0<=m.procs[p].cL[k].to/\m.procs[p].cL[k].to<m.procs[p].cb:=by
 obtain⟨e,_,_⟩:=N9 (QB h);obtain⟨_,f,_,_⟩:=Dg c (e p c);obtain⟨_,_,g⟩:=U0 f;have a:=(JI _ _ g k d).1;unfold jP at a;by_cases b:head m.procs[p].cL[k] m.procs[p].cb≠0
 .rw[if_pos b] at a;exact absurd a b
 .exact apT (Classical.byContradiction b)
def gi.cb{m:Model}{ref:Int}{q p k:Nat}(h:gi m ref q p k):0<=(cR m p k).to/\(cR m p k).to<(m.procs[p]'(h.at_.aC)).cb:=by
 have:=alD h.ok h.at_.aC h.at_.J
 rw[C9 h.at_.aC h.at_.J];omega
theorem alB{m:Model}{ref:Int}{q p k:Nat}(a:gi m ref q p k){s t:C_ Int}(d:Fits m s)(h:hr m s q (cR m p k)=some t):Fits m t:=by
 have e:=g6 a.ok;unfold hr at h;split at h
 .cases h
 split at h
 .cases h
 cases b:jo m q (cR m p k).b6 s with
 | none=>rw[b] at h;cases h
 | some c =>
  rw[b] at h;have f:c.set (b7 m q) (cR m p k).to=t:=by injection h
  subst f;have g:=Zq e a.inst _ s c (λn i=>by
   obtain⟨j,l,rfl⟩:=List.mem_iff_getElem.1 i;exact a.cin.act j l) d b
  refine abt g (.inr (by have:=Uc (m:=m) (q:=q) 0;omega)) λr=>?_;obtain⟨_,u,v⟩:=ae1 a.inst.av a.inst.aC a.inst.CX
  have:=a.cb
  omega
def ats{m:Model}(e:gm m){s t:C_ Int}{c:et}(d:Fits m s)(f:Fits m t)(g:ways c m.ay=2):Fits m (lost m s t c):=by
 obtain⟨b,h,a⟩:=O4 g;have k:=mn a;have l:=(e.chan _ (ID a)).cap;have i:=o4 a;unfold lost;rw[h,AG4];have j:(chanOf m s b).length=1+gq m b:=pI (by rw[d.len];omega);refine Rj f a AW j ?_
 have:=d.queue b a
 unfold lU at this;unfold chanOf;rw[i];exact this
structure cV where
 cmd:Int
 eM:Int
deriving DecidableEq
def Up{m:Model}(d:(check m).bN=0){s:C_ Int}(b:Fits m s){x:j6}(e:x∈eP m s):Fits m x.to:=by
 rcases Uq d e with ⟨_,_,a⟩ | ⟨f,g,h,i,c⟩
 .rw[a];exact b
 .have hu:=alB c.at_ b c.aaJ;rcases c.ah8 with ⟨_,a⟩ | ⟨_,hw,a⟩
  .rw[a];exact hu
  .rw[a];exact ats (g6 d) b hu hw
def mK(m:Model)(s:C_ Int)(x:cV):H_ (C_ Int):=((eP m s).find? λa=>decide (a.cmd=x.cmd/\a.eM=x.eM)).map (·.to)
theorem VK{m:Model}{s d:C_ Int}{x:cV}(h:mK m s x=some d):∃a∈eP m s,a.cmd=x.cmd/\a.eM=x.eM/\a.to=d:=by
 unfold mK at h;cases b:(eP m s).find? λa=>decide (a.cmd=x.cmd/\a.eM=x.eM) with
 | none=>rw[b] at h;cases h
 | some a =>
  rw[b] at h;have e:=List.mem_of_find?_eq_some b;have c:=List.find?_some b;simp only[decide_eq_true_eq] at c;simp only[Option.map_some,Option.some.injEq] at h;exact⟨a,e,c.1,c.2,h⟩
theorem axN{m:Model}(e:(check m).bN=0){s:C_ Int}{y:j6}(d:y∈eP m s):mK m s ⟨y.cmd,y.eM⟩=some y.to:=by
 unfold mK;cases a:(eP m s).find? λb=>decide (b.cmd=y.cmd/\b.eM=y.eM) with
 | none =>
  have:=List.find?_eq_none.1 a y d
  simp at this
 | some b =>
  have f:=List.mem_of_find?_eq_some a;have c:=List.find?_some a;simp only[decide_eq_true_eq] at c
  have:=atL e f d c.1 c.2
  rw[this];rfl
def VJ{m:Model}(b:(check m).bN=0){s a:C_ Int}(c:Fits m s){x:cV}(h:mK m s x=some a):Fits m a:=by
 obtain⟨f,d,_,_,e⟩:=VK h;rw[<-e];exact Up b c d
def wq(m:Model)(c:C_ Int)(x:cV):H_ (C_ Int):=(mK m c x).map (fj m)
def gB(m:Model):C_ cV->C_ Int->H_ (C_ Int)
 | [],a=>some a
 | b :: c,a=>match wq m a b with
  | none=>none
  | some d=>gB m c d
theorem Jn(m:Model):∀(c a:C_ cV) (b:C_ Int),gB m (c++a) b=match gB m c b with | none=>none | some d=>gB m a d
 | [],a,b=>rfl
 | e :: c,a,b=>by
  simp only[List.cons_append,gB];cases wq m b e with
  | none=>rfl
  | some d=>exact Jn m c a d
def Ab(m:Model)(f:Int->Int->Int)(r:Nat):Int:=match (refs m)[r]? with
 | some a=>((refs m).idxOf ⟨(HA m f a.inst.toNat:Nat),a.cmd⟩:Nat)
 | none=>r
theorem awF(m:Model):(refs m).Nodup:=by
 refine(Vf m (insts m) 0).1.imp λ{b c} d a=>?_;subst a;omega
theorem pB.g{m:Model}{f:Int->Int->Int}{r a q q' p k:Nat}(h:pB m f r a q q' p k):Ab m f r=a:=by
 have d:=h.a.ab;have e:=h.b.ab;have b:=h.a.at_;have c:=h.b.at_;simp only[Int.toNat_natCast] at d e b c;have j:(refs m)[a]=⟨((HA m f ((refs m)[r].inst.toNat):Nat):Int),((refs m)[r]).cmd⟩:=by
  have l:=b.rS;have n:=b.sO;have g:=c.rS;have i:=c.sO;rw[l,AG4,h.i.g,n];generalize (refs m)[a]=s at *;cases s;simp only at g i;rw[g,i]
 unfold Ab;rw[List.getElem?_eq_getElem d];simp only;rw[<-j,(awF m).idxOf_getElem a e]
def ZL(m:Model)(s:C_ Int):Int->Int->Int:=gI (l3 (vx m s))
def k6(m:Model)(s:C_ Int)(x:cV):cV:=if x.cmd<0 then x else ⟨Ab m (ZL m s) x.cmd.toNat,x.eM⟩
def p9(m:Model)(s:C_ Int)(y:cV):C_ Int:=if y.cmd<0 then s else (mK m s y).getD []
def axL{m:Model}(b:(check m).bN=0){s:C_ Int}{y:j6}(c:y∈eP m s)(h:y.cmd<0):y.cmd = -1/\y.eM=0/\y.to=s:=by
 rcases Uq b c with a | ⟨d,e,f,g,a⟩
 .exact a
 .have:=a.at_.aQ
  omega
def Qi{m:Model}(a:(check m).bN=0){s t:C_ Int}(i:Fits m s){x:cV}(h:mK m (fj m s) x=some t) :
  ∃d,mK m s (k6 m s x)=some d/\p9 m s (k6 m s x)=d/\Fits m d/\fj m d=fj m t/\(x.cmd<0->x.cmd = -1) /\
   (0<=x.cmd->∃e j k l n,pB m (ZL m s) x.cmd.toNat e j k l n/\k6 m s x=⟨(e:Nat),x.eM⟩):=by
 obtain⟨f,G⟩:=Qz a i.len;have u:=f.qS (ko a);have v:=CT a f i.len;rw[G] at v;obtain⟨H,I,w,g,rfl⟩:=VK h;obtain⟨b,p,q,y,J⟩:=atM u.symm a (v.symm u) I;have r:=axN a p;have z:=Up a i p;have A:fj m b.to=fj m H.to:=by
  rw[Fv a (xX f) y,akA a y.ls (xX f)]
 rcases J with ⟨bg,bj⟩ | ⟨K,e,j,k,l,n,bg,bj,B⟩
 .have c:k6 m s x=⟨b.cmd,b.eM⟩:=by
   unfold k6;rw[if_pos AW];cases x;simp only at w g;rw[<-w,<-g,bg,bj,q]
  rw[c];refine⟨b.to,r,?_,z,A,λ_=>AW,λL=>AW⟩;unfold p9;simp only;rw[if_pos AW];exact(axL a p AW).2.2.symm
 .have C:x.cmd.toNat=K:=AW
  have c:k6 m s x=⟨b.cmd,b.eM⟩:=by
   unfold k6;rw[if_neg AW,C,bj,q,g];congr 1;exact B.g
  refine⟨b.to,by rw[c];exact r,?_,z,A,λL=>AW,λ_=>⟨e,j,k,l,n,by rw[C];exact B,by rw[c,bj,q,g]⟩⟩;rw[c];unfold p9;simp only;rw[if_neg AW,r];rfl
def runM(m:Model):C_ cV->C_ Int->C_ cV×C_ Int
 | [],a=>([],a)
 | b :: c,a=>(k6 m a b :: (runM m c (p9 m a (k6 m a b))).1,(runM m c (p9 m a (k6 m a b))).2)
theorem Cd(m:Model):∀(a:C_ cV) (b:C_ Int),(runM m a b).1.length=a.length
 | [],_=>rfl
 | c :: a,b=>by simp only[runM,List.length_cons,Cd m a]
theorem u6(m:Model):∀(a b:C_ cV) (c:C_ Int),runM m (a++b) c=((runM m a c).1++(runM m b (runM m a c).2).1,(runM m b (runM m a c).2).2)
 | [],b,c=>rfl
 | d :: a,b,c=>by simp only[List.cons_append,runM,u6 m a b]
theorem Ig{m:Model}(g:(check m).bN=0):∀(c:C_ cV) (b d:C_ Int),Fits m b->gB m c (fj m b)=some d->Fits m (runM m c b).2/\fj m (runM m c b).2=d
 | [],b,d,e,a=>by
  injection a with a
  exact⟨e,a⟩
 | h :: c,b,d,e,a=>by
  simp only[gB,wq] at a;cases f:mK m (fj m b) h with
  | none=>rw[f] at a;cases a
  | some n =>
   rw[f] at a;simp only[Option.map_some] at a;obtain⟨i,p,j,k,l,_⟩:=Qi g e f;simp only[runM];rw[j];rw[<-l] at a;exact Ig g c i d k a
def ho(l:C_ cV):Nat->C_ cV
 | 0=>[]
 | a+1=>ho l a++l
theorem On(l:C_ cV):∀a,(ho l a).length=a*l.length
 | 0=>by simp[ho]
 | a+1=>by simp only[ho,List.length_append,On l a,Nat.succ_mul]
theorem Jo{m:Model}{l:C_ cV}{c:C_ Int}(h:gB m l c=some c):∀a,gB m (ho l a) c=some c
 | 0=>rfl
 | a+1=>by simp only[ho,Jn,Jo h a];exact h
def jF(m:Model)(l:C_ cV)(s:C_ Int)(n:Nat):C_ Int:=(runM m (ho l n) s).2
def awX(m:Model)(l:C_ cV)(s:C_ Int)(n:Nat):jF m l s (n+1)=(runM m l (jF m l s n)).2:=by
 unfold jF;simp only[ho,u6]
theorem ahk(m:Model)(l:C_ cV)(s:C_ Int)(n:Nat):(runM m (ho l (n+1)) s).1=(runM m (ho l n) s).1++(runM m l (jF m l s n)).1:=by
 unfold jF;simp only[ho,u6]
theorem afC{α:Type}[DecidableEq α]:∀(a b:C_ α),a.Nodup->(∀c∈a,c∈b)->a.length<=b.length
 | [],_,_,_=>AG2 _
 | d :: a,b,e,f=>by
  rw[List.nodup_cons] at e;have h:=f d (AG3 ..);have i:=(List.perm_cons_erase h).length_eq;have k:=afC a (b.erase d) e.2 λc g=>(List.mem_erase_of_ne (λ(j:c=d)=>e.1 (j ▸ g))).2 (f c (AG6 _ g));simp only[List.length_cons] at i ⊢;omega
def avh(n:Nat):(hF n).length=dA n:=by simp[hF]
theorem abN{s:C_ Scalar}(i:pD s):(dE s).length<=576:=by
 have d:∀a,a<=4->dA a<=24:=Ae
 have e:∀a f,(kI (a :: f)).length=dA a*(kI f).length:=λa f=>by
  simp only[kI,List.length_flatMap,List.length_map];rw[List.map_const',List.sum_replicate_nat,avh]
 obtain⟨j,k⟩:=i;have b:∀a∈j3 s,a<=4:=λa l=>by
  obtain⟨m,n,rfl⟩:=List.mem_map.1 l
  have:=k m n
  omega
 have p:(j3 s).length<=2:=by simpa[j3] using j
 unfold dE
 match g:j3 s,p with
 | [],_=>decide
 | [c],_ =>
  rw[g] at b
  have:=d c (b c Ah)
  rw[e];simp only[kI,List.length_singleton];omega
 | [c,h],_ =>
  rw[g] at b;have q:=d c (b c Ah);have r:=d h (b h Ah);rw[e,e];simp only[kI,List.length_singleton,Nat.mul_one];exact AI0 q r
def ajH{m:Model}(c:(check m).bN=0){s:C_ Int}{l:C_ (C_ Int)}(e:l.Nodup)(h:∀a∈l,Alike m s a):l.length<=576:=by
 have d:=afC l ((dE m.scalars).map λb=>hK m b s) e λa f=>by
  obtain⟨b,g,rfl⟩:=h a f;exact List.mem_map.2 ⟨b,(uV (ko c)).2 g,rfl⟩
 rw[AG7] at d;exact T6 d (abN (ko c))
def ajI{m:Model}(a:(check m).bN=0){s t:C_ Int}(c:s.length=cG m)(d:t.length=cG m)(h:fj m t=fj m s):Alike m s t:=by
 obtain⟨⟨f,e,g⟩,_⟩:=C1 a c;obtain⟨⟨i,b,j⟩,_⟩:=C1 a d;refine⟨x6 f (l3 i),Ef e (xX b),?_⟩;rw[<-PZ a e (xX b) c,<-g,<-h,j,Zi a b d]
def jU(m:Model)(l:C_ cV)(s:C_ Int)(n:Nat):C_ (C_ Int):=(List.range n).map (jF m l s)
def acR(m:Model)(l:C_ cV)(s:C_ Int)(n:Nat):jU m l s (n+1)=jU m l s n++[jF m l s n]:=by unfold jU;rw[AI5,AF8];rfl
def Sq(m:Model)(l:C_ cV)(s:C_ Int)(n:Nat):(jU m l s n).length=n:=by simp[jU]
def apO(m:Model)(l:C_ cV)(s:C_ Int){n i:Nat}(h:i<n):(jU m l s n)[i]? = some (jF m l s i):=by simp[jU,h]
def Vl{m:Model}(a:(check m).bN=0){l:C_ cV}{s:C_ Int}(b:Fits m s)(h:gB m l (fj m s)=some (fj m s))(n:Nat):Fits m (jF m l s n)/\fj m (jF m l s n)=fj m s:=Ig a _ s _ b (Jo h n)
def acQ{m:Model}(a:(check m).bN=0){l:C_ cV}{s:C_ Int}(b:Fits m s)(h:gB m l (fj m s)=some (fj m s)){n:Nat}(d:(jU m l s n).Nodup):n<=576:=by
 have:=ajH a (s:=s) d λi c=>by
  unfold jU at c;obtain⟨e,_,rfl⟩:=List.mem_map.1 c;obtain⟨f,g⟩:=Vl a b h e;exact ajI a b.len f.len g
 rwa[Sq] at this
structure YI(m:Model)(l:List cV)(s:List Int)(i n:Nat):Prop where
 lt:i<n
 same:jF m l s n=jF m l s i
 nodup:(jU m l s n).Nodup
structure CH(m:Model)(de loop:List cV)(a b:List cV)(e:Int):Prop where
 arg:(check m).bN≠0->a=[]/\b=[]/\e=2
 none_:(check m).bN=0->loop=[]->a=[]/\b=[]/\e=8
 ahW:(check m).bN=0->loop≠[]->gB m de (fj m (dp m))=none->a=[]/\b=[]/\e=17
 afi:(check m).bN=0->loop≠[]->∀c,gB m de (fj m (dp m))=some c->gB m loop c≠some c->a=[]/\b=[]/\e=18
 Vr:(check m).bN=0->loop≠[]->∀c,gB m de (fj m (dp m))=some c->gB m loop c=some c->e=0/\∃i n,YI m loop (runM m de (dp m)).2 i n /\
  a=(runM m (de++ho loop i) (dp m)).1/\a++b=(runM m (de++ho loop n) (dp m)).1
def TN{x y:c7}(a:x.proc=y.proc)(b:x.elem=y.elem):x=y:=by
 cases x;cases y;simp only at a b;rw[a,b]
def asb{m:Model}{f b:Int->Int->Int}(r:eN m.scalars f b){q q' p:Nat}(h:jK m f q q' p){k:Nat}(c:k<(insts m).length) :
  ((insts m)[k].proc=p/\((m.procs[p]'h.a.aC).over=0\/(insts m)[k].elem=f (m.procs[p]'h.a.aC).over ((insts m)[q]'h.a.av).elem))↔k=q':=by
 constructor
 .rintro⟨i,a⟩;refine L4 c h.b.av (TN (i.trans h.b.eq.symm) ?_);rcases a with a | a
  .obtain⟨j,d⟩:=wh c;have l:j=p:=by have:=d.eq;omega
   subst l;have e:=h.b.F2;have g:=d.F2;have n:=ahD m.scalars;rw[a] at e g;rw[n] at e g;omega
  .rw[a,h.elem]
 .rintro rfl;exact⟨h.b.eq,.inr h.elem⟩
def jK.fix{m:Model}{f b:Int->Int->Int}(a:eN m.scalars f b){q q' p:Nat}(h:jK m f q q' p)(c:(m.procs[p]'h.a.aC).over=0):q'=q :=
 ((asb a h h.a.av).1 ⟨h.a.eq,.inl c⟩).symm
def pB.at_{m:Model}{f:Int->Int->Int}{r c q q' p k:Nat}(h:pB m f r c q q' p k):∃d:r<(refs m).length,(refs m)[r].inst=q/\(refs m)[r].cmd=k:=by
 have b:=h.a.ab;have a:=h.a.at_;simp only[Int.toNat_natCast] at b a;exact⟨b,a.rS,a.sO⟩
def Qg{s:C_ Scalar}(h:pD s){a b c:Int}(i:a=0\/size a s≠0)(e:2<=(dM a b c s).kind):∃f:Nat,∃d:f<s.length,(dM a b c s).kind=f+2/\(dM a b c s).aQ=0/\(dM a b c s).ab=s[f].size:=by
 unfold dM at e ⊢;by_cases d:a=0
 .rw[if_pos d] at e;simp only at e;omega
 rw[if_neg d];have g:=i.resolve_left d;have k:1<=a:=Classical.byContradiction λj=>g (Cf (.inl AW));have l:a<=s.length:=Classical.byContradiction λj=>g (Cf (.inr AW))
 have:=Ox h (i:=(a - 1).toNat) AW
 rw[show(((a - 1).toNat:Nat):Int)+1=a from AW] at this;exact⟨(a - 1).toNat,AW,by simp only;omega,rfl,this⟩
theorem asA{m:Model}(j:(check m).bN=0){c:Nat}{x:Cell}(a:(bD m)[c]? = some x)(d:2<=x.kind):∃i:Nat,∃b:i<m.scalars.length,x.kind=i+2/\x.aQ=0/\x.ab=m.scalars[i].size:=by
 have g:=ko j;have h:=g6 j;have k:c<cG m:=by
  exact(List.getElem?_eq_some_iff.1 a).1
 obtain⟨p,l⟩:=C4 h ((Hz m.scalars).qS g) k;cases l with
 | @var n e q b f r =>
  rw[sF b f] at a;injection a with a
  subst a;exact Qg g (h.var _ (ID b)).fc d
 | @chan n e b f =>
  rw[uQ b f] at a;injection a with a
  subst a;cases e with
  | zero=>simp[iM] at d
  | succ e =>
   simp only[iM,List.getElem_cons_succ,List.getElem_replicate] at d ⊢;exact Qg g (h.chan _ (ID b)).fc d
 | @inst s t u e b f =>
  rw[p0 b.a f] at a;injection a with a
  subst a;cases e with
  | zero=>simp[kX] at d
  | succ e =>
   simp only[kX,List.getElem_cons_succ,List.getElem_map] at d ⊢;exact Qg g ((h.proc _ (ID b.a.aC)).var _ (ID _)).fc d
def tX(m:Model)(f:Int->Int->Int)(s b:C_ Int):Nat->C_ Int
 | 0=>b
 | a+1=>(tX m f s b a).set (Jz m f a) (fl f (pZ m a) (s.getD a 0))
theorem Jk(m:Model)(f:Int->Int->Int)(s a:C_ Int):∀b,(tX m f s a b).length=a.length
 | 0=>rfl
 | b+1=>by rw[tX,ZA,Jk m f s a b]
theorem Zj{m:Model}(j:gm m){f b:Int->Int->Int}(d:eN m.scalars f b){s k:C_ Int}(n:s.length=cG m)(p:k.length=cG m):∀a,a<=cG m->∀c e,c<a->gE m f c e->(tX m f s k a)[e]? = s[c]?.map (fl f (pZ m c))
 | 0,_,_,_,h,_=>absurd h (Og _)
 | a+1,q,c,e,r,g=>by
  obtain⟨t,i⟩:=C4 j d (c:=a) AW;rw[tX,i.g];by_cases l:c=a
  .subst l
   have:=JA g i rfl
   subst this;have u:=(g.lt d).2;rw[List.getElem?_set_self (by rw[Jk];omega),List.getElem?_eq_getElem AW,List.getD,List.getElem?_eq_getElem AW];rfl
  .rw[List.getElem?_set_ne (λh=>l ((JB d g i).2 h.symm))];exact Zj j d n p a AW c e AW g
def aju{m:Model}(a:(check m).bN=0){g:C_ (C_ Int)}(b:hi m.scalars g){s c:C_ Int}(d:s.length=cG m)(e:c.length=cG m):tX m (gI g) s c (cG m)=hK m g s:=by
 have f:=b.qS (ko a);exact Fv a b ⟨d,by rw[Jk];exact e,λi j h=>Zj (g6 a) f d e _ (Fy _) i j (h.lt f).1 h⟩
def fE(m:Model)(c:Nat):Int×Int×Int:=match (bD m)[c]? with
 | some a=>if a.sort=1 then (match m.vars[a.jm.toNat]? with | some b=>if b.over > 0 then ((dU m a.jm.toNat:Int),a.place,b.over) else (0,0,0) | none=>(0,0,0))
  else if a.sort=3 then ((b7 m a.jm.toNat:Int),a.place,(match (insts m)[a.jm.toNat]? with | some d=>En m d.proc | none=>0)) else (0,0,0)
 | none=>(0,0,0)
def jH(m:Model):C_ (Int×Int×Int):=(List.range (cG m)).map (fE m)
def VX(m:Model):(jH m).length=cG m:=by simp[jH]
def OQ{m:Model}{i j:Nat}(h:i<m.vars.length)(a:(j:Int)<cells m.vars[i] m.scalars):fE m (dU m i+j)=if m.vars[i].over > 0 then ((dU m i:Int),(j:Int),m.vars[i].over) else (0,0,0):=by
 unfold fE;rw[sF h a];simp only[if_true,Int.toNat_natCast];rw[List.getElem?_eq_getElem h]
def ah7{m:Model}{i j:Nat}(h:i<m.ay.length)(a:j<1+m.ay[i].cap.toNat):fE m (bT m i+j)=(0,0,0):=by
 unfold fE;rw[uQ h a];rfl
def VW{m:Model}{q p j:Nat}(h:hI m q p)(a:j<1+(m.procs[p]'h.aC).vars.length):fE m (b7 m q+j)=((b7 m q:Int),(j:Int),(m.procs[p]'h.aC).over):=by
 unfold fE;rw[p0 h a];simp only[Int.toNat_natCast];rw[if_neg AW,if_pos trivial,List.getElem?_eq_getElem h.av];simp only[En];rw[h.eq,AG4,List.getElem?_eq_getElem h.aC]
def qa(m:Model)(i j:Nat):C_ (Int×Int×Int):=(List.range (cG m)).map λb=>match (bD m)[b]? with
 | some a=>if (a.sort=1/\a.jm<(i:Int))\/(a.sort=3/\a.jm<(j:Int)) then fE m b else (0,0,0)
 | none=>(0,0,0)
def vb(m:Model)(i j:Nat):(qa m i j).length=cG m:=by simp[qa]
def wB(l:C_ (Int×Int×Int))(first b:Int):Nat->C_ (Int×Int×Int)
 | 0=>l
 | a+1=>(wB l first b a).set (first.toNat+a) (first,(a:Int),b)
theorem Il(l:C_ (Int×Int×Int))(first b:Int):∀a,(wB l first b a).length=l.length
 | 0=>rfl
 | a+1=>by rw[wB,ZA,Il l first b a]
theorem Vy(l:C_ (Int×Int×Int))(first:Nat)(c:Int):∀b,first+b<=l.length->∀a,(wB l first c b)[a]? = if first<=a/\a<first+b then some ((first:Int),((a - first:Nat):Int),c) else l[a]?
 | 0,_,a=>by rw[if_neg AW];rfl
 | b+1,d,a=>by
  rw[wB,AG4];by_cases e:a=first+b
  .subst e;rw[List.getElem?_set_self (by rw[Il];omega),if_pos AW,show first+b - first=b from AW]
  .rw[List.getElem?_set_ne (λd=>e d.symm),Vy l first c b AW a];by_cases f:first<=a/\a<first+b
   .rw[if_pos f,if_pos AW]
   .rw[if_neg f,if_neg AW]
theorem Co{m:Model}{i j c:Nat}(b:c<cG m):(qa m i j)[c]? = some (match (bD m)[c]? with
 | some a=>if (a.sort=1/\a.jm<(i:Int))\/(a.sort=3/\a.jm<(j:Int)) then fE m c else (0,0,0)
 | none=>(0,0,0)):=by
 unfold qa;rw[List.getElem?_map,List.getElem?_range b];rfl
theorem akL{m:Model}(f:(check m).bN=0){c:Nat}(i:c<cG m) :
  (∃d b:Nat,∃a:d<m.vars.length,(b:Int)<cells m.vars[d] m.scalars/\c=dU m d+b)\/(∃d b,∃a:d<m.ay.length,b<1+m.ay[d].cap.toNat/\c=bT m d+b) \/
   ∃g h b,∃a:hI m g h,b<1+(m.procs[h]'a.aC).vars.length/\c=b7 m g+b:=by
 obtain⟨k,j⟩:=C4 (g6 f) ((Hz m.scalars).qS (ko f)) i;cases j with
 | var a e l=>exact .inl ⟨_,_,a,e,rfl⟩
 | chan a e=>exact .inr (.inl ⟨_,_,a,e,rfl⟩)
 | inst a e=>exact .inr (.inr ⟨_,_,_,a.a,e,rfl⟩)
def JC{m:Model}{c:Nat}(a:c<cG m):∃b,(bD m)[c]? = some b:=⟨_,List.getElem?_eq_getElem (show c<(bD m).length from a)⟩
def akO{m:Model}{c:Nat}{x:Cell}(a:(bD m)[c]? = some x):c<cG m:=(List.getElem?_eq_some_iff.1 a).1
def JD{m:Model}(i:(check m).bN=0){c:Nat}{x:Cell}(b:(bD m)[c]? = some x) :
  (x.sort=1/\∃d a:Nat,x.jm=d/\∃e:d<m.vars.length,(a:Int)<cells m.vars[d] m.scalars/\c=dU m d+a)\/(x.sort=2/\∃d a:Nat,x.jm=d/\∃e:d<m.ay.length,a<1+m.ay[d].cap.toNat/\c=bT m d+a) \/
   (x.sort=3/\∃g a h:Nat,x.jm=g/\∃e:hI m g h,a<1+(m.procs[h]'e.aC).vars.length/\c=b7 m g+a):=by
 rcases akL i (akO b) with ⟨d,a,e,f,rfl⟩ | ⟨d,a,e,f,rfl⟩ | ⟨g,h,a,e,f,rfl⟩
 .rw[sF e f] at b;injection b with b
  subst b;exact .inl ⟨rfl,d,a,rfl,e,f,rfl⟩
 .rw[uQ e f] at b;injection b with b
  subst b;exact .inr (.inl ⟨rfl,d,a,rfl,e,f,rfl⟩)
 .rw[p0 e f] at b;injection b with b
  subst b;exact .inr (.inr ⟨rfl,g,a,h,rfl,e,f,rfl⟩)
def ayx{m:Model}(d:(check m).bN=0){c i:Nat}{x:Cell}(a:(bD m)[c]? = some x)(e:i<m.vars.length):(dU m i<=c/\c<dU m i+(cells m.vars[i] m.scalars).toNat)↔(x.sort=1/\x.jm=i):=by
 constructor
 .rintro⟨f,g⟩
  have:=sF (m:=m) (i:=i) (j:=c - dU m i) e AW
  rw[show dU m i+(c - dU m i)=c from AW,a] at this;injection this with this
  subst this;exact⟨rfl,rfl⟩
 .rintro⟨f,g⟩;rcases JD d a with ⟨_,h,j,b,k,l,rfl⟩ | ⟨b,_⟩ | ⟨b,_⟩
  .have:h=i:=AW
   subst this;omega
  .omega
  .omega
def ase{m:Model}(e:(check m).bN=0){c q p:Nat}{x:Cell}(b:(bD m)[c]? = some x)(a:hI m q p):(b7 m q<=c/\c<b7 m q+(1+(m.procs[p]'a.aC).vars.length))↔(x.sort=3/\x.jm=q):=by
 constructor
 .rintro⟨f,g⟩
  have:=p0 (m:=m) (j:=c - b7 m q) a AW
  rw[show b7 m q+(c - b7 m q)=c from AW,b] at this;injection this with this
  subst this;exact⟨rfl,rfl⟩
 .rintro⟨f,g⟩;rcases JD e b with ⟨d,_⟩ | ⟨d,_⟩ | ⟨_,h,k,i,d,j,l,rfl⟩
  .omega
  .omega
  .have:h=q:=AW
   subst this
   have:i=p:=by have:=j.eq;have:=a.eq;omega
   subst this;omega
def V8{m:Model}(e:(check m).bN=0){c:Nat}{x:Cell}(f:(bD m)[c]? = some x):0<=x.jm:=by
 rcases JD e f with ⟨_,a,b,d,_⟩ | ⟨_,a,b,d,_⟩ | ⟨_,a,b,g,d,_⟩<;>omega
def ayb{m:Model}(c:(check m).bN=0):qa m 0 0=List.replicate (cG m) (0,0,0):=by
 apply List.ext_getElem?;intro d;by_cases a:d<cG m
 .obtain⟨e,b⟩:=JC a
  have:=V8 c b
  rw[Co a,List.getElem?_replicate,if_pos a,b];simp only;rw[if_neg AW]
 .rw[List.getElem?_eq_none (by rw[vb];omega),List.getElem?_eq_none (by simp;omega)]
def aya{m:Model}(l:(check m).bN=0){i:Nat}(h:i<m.vars.length):qa m (i+1) 0=if m.vars[i].over > 0 then wB (qa m i 0) (dU m i:Nat) m.vars[i].over (cells m.vars[i] m.scalars).toNat else qa m i 0:=by
 have n:=qZ h;have p:=nu m;apply List.ext_getElem?;intro a;by_cases f:a<cG m;rotate_left
 .rw[List.getElem?_eq_none (by rw[vb];omega)];split
  .rw[List.getElem?_eq_none (by rw[Il,vb];omega)]
  .rw[List.getElem?_eq_none (by rw[vb];omega)]
 obtain⟨c,d⟩:=JC f;have q:=V8 l d;have j:=ayx l d h;rw[Co f,d];simp only;by_cases g:m.vars[i].over > 0
 .rw[if_pos g,Vy _ _ _ _ (by rw[vb];omega),Co f,d];simp only;by_cases b:dU m i<=a/\a<dU m i+(cells m.vars[i] m.scalars).toNat
  .rw[if_pos b];have k:=j.1 b;rw[if_pos (.inl ⟨k.1,AW⟩)]
   have:=OQ (m:=m) (i:=i) (j:=a - dU m i) h AW
   rw[show dU m i+(a - dU m i)=a from AW,if_pos g] at this;rw[this]
  .rw[if_neg b];have r:=λk=>b (j.2 k);by_cases e:c.sort=1/\c.jm<(i:Int)
   .rw[if_pos (.inl ⟨e.1,AW⟩),if_pos (.inl e)]
   .rw[if_neg AW,if_neg AW]
 .rw[if_neg g,Co f,d];simp only;by_cases b:c.sort=1/\c.jm=(i:Int)
  .rw[if_pos (.inl ⟨b.1,AW⟩),if_neg AW];have s:=j.2 b
   have:=OQ (m:=m) (i:=i) (j:=a - dU m i) h AW
   rw[show dU m i+(a - dU m i)=a from AW,if_neg g] at this;rw[this]
  .by_cases e:c.sort=1/\c.jm<(i:Int)
   .rw[if_pos (.inl ⟨e.1,AW⟩),if_pos (.inl e)]
   .rw[if_neg AW,if_neg AW]
def ax9{m:Model}(g:(check m).bN=0){q p:Nat}(h:hI m q p):qa m m.vars.length (q+1)=wB (qa m m.vars.length q) (b7 m q:Nat) (m.procs[p]'h.aC).over (1+(m.procs[p]'h.aC).vars.length):=by
 have k:=h.room;apply List.ext_getElem?;intro a;by_cases e:a<cG m;rotate_left
 .rw[List.getElem?_eq_none (by rw[vb];omega),List.getElem?_eq_none (by rw[Il,vb];omega)]
 obtain⟨b,c⟩:=JC e;have l:=V8 g c;have i:=ase g c h;rw[Co e,c,Vy _ _ _ _ (by rw[vb];omega),Co e,c];simp only;by_cases d:b7 m q<=a/\a<b7 m q+(1+(m.procs[p]'h.aC).vars.length)
 .rw[if_pos d];have f:=i.1 d;rw[if_pos (.inr ⟨f.1,AW⟩)]
  have:=VW (j:=a - b7 m q) h AW
  rw[show b7 m q+(a - b7 m q)=a from AW] at this;rw[this]
 .rw[if_neg d];have n:=λf=>d (i.2 f);by_cases j:(b.sort=1/\b.jm<(m.vars.length:Int))\/(b.sort=3/\b.jm<(q:Int))
  .rw[if_pos AW,if_pos j]
  .rw[if_neg AW,if_neg j]
def ax8{m:Model}(g:(check m).bN=0):qa m m.vars.length (insts m).length=jH m:=by
 apply List.ext_getElem?;intro h;by_cases c:h<cG m;rotate_left
 .rw[List.getElem?_eq_none (by rw[vb];omega),List.getElem?_eq_none (by rw[VX];omega)]
 obtain⟨k,d⟩:=JC c;rw[Co c,d];unfold jH;rw[List.getElem?_map,List.getElem?_range c,AI3];simp only;congr 1;rcases JD g d with ⟨a,i,e,f,b,_⟩ | ⟨a,i,e,f,b,j,rfl⟩ | ⟨a,l,e,n,f,b,_⟩
 .rw[if_pos (.inl ⟨a,AW⟩)]
 .rw[if_neg AW,ah7 b j]
 .have:=b.av
  rw[if_pos (.inr ⟨a,AW⟩)]
def ax7{m:Model}{c:Nat}(a:c<(jH m).length):(jH m)[c]=fE m c:=by simp[jH]
def arZ{m:Model}{q q':Nat}(h:q<(insts m).length)(b:q'<(insts m).length)(e:b7 m q=b7 m q'):q=q':=by
 obtain⟨g,c⟩:=wh h;obtain⟨i,d⟩:=wh b;have a:=p0 (j:=0) c AW;have f:=p0 (j:=0) d AW;rw[e,f] at a;injection a with a
 injection a with _ a
 omega
def ar0{m:Model}{q i:Nat}(h:q<(insts m).length)(c:i<m.vars.length)(d:(0:Int)<cells m.vars[i] m.scalars):b7 m q≠dU m i:=λe=>by
 obtain⟨g,f⟩:=wh h;have a:=p0 (j:=0) f AW;have b:=sF (j:=0) c d;rw[AH1] at a b;rw[e,b] at a;injection a with a
 injection a with a
 omega
theorem akK{m:Model}{f b:Int->Int->Int}(g:eN m.scalars f b){c i:Nat}(h:gE m f c i)(a:(fE m c).2.2=0):i=c:=by
 cases h with
 | @var e j l h d n =>
  rw[OQ h d] at a;have p:m.vars[e].over<=0:=by
   by_cases k:m.vars[e].over > 0
   .rw[if_pos k] at a;simp only at a;omega
   .omega
  have:=g.out m.vars[e].over ((j:Int)+1) (.inr (by rw[Cf (.inl AW)];omega))
  omega
 | chan h d=>rfl
 | @inst q r s j h d =>
  rw[VW h.a d] at a;rw[h.fix g a]
end o
namespace Go.Proofs.R
open Go Go.RowKit a8 o
attribute [local irreducible] dE bD o.insts
def PW.form{w:A_}{H:C_ B_}{m:o.Model}(h:PW w H m):∃a b c d q r e f s t g i u bg j bj v x y z k l n p A B C G,
  H=[.slice a m.scalars.length b,.slice c m.vars.length d,.slice q m.ay.length r,.slice e m.procs.length f,.slice s m.props.length t,
   .slice g (o.layout m).vars.length i,.slice u (o.layout m).ay.length bg,.slice j (o.layout m).insts.length bj,.I (o.layout m).cells,.slice v (o.layout m).aQ.length x,.slice y (o.layout m).ab.length z,.slice k (o.insts m).length l,.slice n (o.refs m).length p,
   .slice A (bD m).length B,.slice C (dE m.scalars).length G] /\
  nR w [.slice a m.scalars.length b,.slice c m.vars.length d,.slice q m.ay.length r,.slice e m.procs.length f,.slice s m.props.length t,
   .slice g (o.layout m).vars.length i,.slice u (o.layout m).ay.length bg,.slice j (o.layout m).insts.length bj,.I (o.layout m).cells,.slice v (o.layout m).aQ.length x,.slice y (o.layout m).ab.length z,.slice k (o.insts m).length l,.slice n (o.refs m).length p] m /\
  a4 1 (Flat da) w (.slice g (o.layout m).vars.length i) (o.layout m).vars/\a4 1 (Flat da) w (.slice j (o.layout m).insts.length bj) (o.layout m).insts /\
  hC w (.slice a m.scalars.length b) m.scalars/\jO w (.slice c m.vars.length d) m.vars/\r4 w (.slice e m.procs.length f) m.procs /\
  q6 w (.slice k (o.insts m).length l) (o.insts m)/\Fp w (.slice n (o.refs m).length p) (o.refs m) /\
  a4 6 (Flat o.Cell.enc) w (.slice A (bD m).length B) (bD m)/\q5 w (.slice C (dE m.scalars).length G) (dE m.scalars):=by
 obtain⟨ys,dI,U,rfl,_,I,J,K⟩:=h.ex;obtain⟨a,b,c,d,q,r,e,f,s,t,g,i,u,bg,j,bj,v,x,y,z,k,l,n,p,rfl,_,_,L,_,M,_,_,N,O,_,P,Q,S⟩:=I.form;obtain⟨A,B,rfl,_⟩:=J.form;obtain⟨C,G,rfl,_⟩:=K.form;exact⟨a,b,c,d,q,r,e,f,s,t,g,i,u,bg,j,bj,v,x,y,z,k,l,n,p,A,B,C,G,rfl,I,L,M,N,O,P,Q,S,J,K⟩
end Go.Proofs.R
namespace a8
open Go Go.RowKit
def aiY(_:A_)(cs:C_ B_)(x:Nat):Prop:=cs=vC x
instance aBl:Rel (Flat vC) aiY 1 where
 out h:=⟨_,h,rfl⟩
 kC h k:=by cases k;exact h
 len h:=by cases h;rfl
 one h:=by cases h;exact amq _
 ext _ h:=h
end a8
namespace Go.Proofs.R
open Go Go.RowKit a8 o
attribute [local irreducible] dE bD o.insts
attribute [local irreducible] o.refs
attribute [local irreducible] jH fE
def aiL(cs:C_ B_)(m:o.Model)(w:A_)(h:eu w cs m)(g:m.cS) :
  EG F.NL #[.agg cs.toArray] w λc d=>(((o.check m).bN=0/\q5 d c (dE m.scalars))\/(¬(o.check m).bN=0/\c = .slice none 0 0))/\Ext w d:=by
 have i:=h;obtain⟨j,k,l,bg,n,bj,p,q,r,s,rfl,_⟩:=h.form;refine bm E.NL ?_;refine aa ?_;intro t G H e I;refine aa ?_;refine J_ (auF _ m t (i.ext e) g) ?_;rintro _ J ⟨u,v⟩;have f:=e.trans v;rcases u with ⟨b,rfl⟩ | ⟨b,K,rfl,x⟩
 .unfold Pa;refine aa ?_;intro y z A a B;refine aa ?_;exact⟨.inr ⟨b,aZ⟩,f.trans a⟩
 obtain⟨L,M,N,O,P,Q,S,U,V,W,j,k,l,bg,n,bj,p,q,r,s,X,Y,Z,ab,ae,af,ag,ah,rfl,_,_,_,_,_,_,_,_,_,C⟩:=x.form;refine aa ?_;intro y z A a B;refine aa ?_;exact⟨.inl ⟨b,a4.ext uq a C⟩,f.trans a⟩
end Go.Proofs.R
namespace o
open Go
def nV(t:Int×Int×Int):C_ B_:=[.int .i64 t.1,.int .i64 t.2.1,.int .i64 t.2.2]
def amp:∀(a:Int×Int×Int),∀b∈nV a,b.oneCell'=true:=by
 intro a b c;simp[nV] at c;rcases c with rfl | rfl | rfl<;>rfl
theorem Kj{α:Type}{p:α->Bool}:∀(b:C_ α) (a c:Nat) (e:a<b.length),p b[a]=true->(∀d (g:d<b.length),d<a->p b[d]=false)->a8.g9 p b c=((c+a:Nat):Int)
 | [],_,_,e,_,_=>absurd e (Og _)
 | k :: h,0,c,_,f,_=>by
  simp only[List.getElem_cons_zero] at f;simp[a8.g9,f]
 | k :: h,a+1,c,e,f,i=>by
  have j:=i 0 Ah AW;simp only[List.getElem_cons_zero] at j;simp only[a8.g9,j,Bool.false_eq_true,if_false];rw[Kj h a (c+1) (by simpa using e) (by simpa using f) λd g l=>i (d+1) (by simpa using g) AW];congr 1;omega
theorem Rc{α:Type}{p:α->Bool}:∀(c:C_ α) (a:Nat),(∀b∈c,p b=false)->a8.g9 p c a = -1
 | [],_,_=>rfl
 | b :: e,a,d=>by
  simp only[a8.g9,d b (List.mem_cons_self ..),Bool.false_eq_true,if_false];exact Rc e (a+1) λf g=>d f (AG6 _ g)
def agG{x y:Ref}(a:x.inst=y.inst)(b:x.cmd=y.cmd):x=y:=by
 cases x;cases y;simp only at a b;rw[a,b]
def asd{m:Model}{f b:Int->Int->Int}(g:eN m.scalars f b){q q' p:Nat}(h:jK m f q q' p) :
  a8.g9 (λa=>decide ((⟨((insts m)[q]'h.a.av).proc,f (m.procs[p]'h.a.aC).over ((insts m)[q]'h.a.av).elem⟩:c7)=a)) (insts m) 0=q':=by
 have d:=h.b.av;have c:(⟨((insts m)[q]'h.a.av).proc,f (m.procs[p]'h.a.aC).over ((insts m)[q]'h.a.av).elem⟩:c7)=(insts m)[q']:=TN (by rw[h.a.eq,h.b.eq]) h.elem.symm;rw[c]
 have:=Kj (p:=λa=>decide ((insts m)[q']=a)) (insts m) q' 0 d Ah λi e j=>by
  simp only[decide_eq_false_iff_not];intro c
  have:=L4 d e c
  omega
 rw[this,ZB]
theorem akN{m:Model}(A:pD m.scalars)(v:gm m){f b:Int->Int->Int}(q:eN m.scalars f b){c i:Nat}(k:gE m f c i) :
  ((fE m c).2.2=0->i=c)/\((fE m c).2.2≠0->(∃a j l:Nat,jK m f a j l/\a8.g9 (λg=>decide ((fE m c).1=g)) (layout m).insts 0=a/\(i:Int)=b7 m j+(fE m c).2.1) \/
    (a8.g9 (λg=>decide ((fE m c).1=g)) (layout m).insts 0 = -1/\1<=(fE m c).2.2/\(fE m c).2.2<=m.scalars.length/\0<=(fE m c).2.1/\(fE m c).2.1<=64/\0<=(fE m c).1/\(fE m c).1<=64/\(i:Int)=(fE m c).1+f (fE m c).2.2 ((fE m c).2.1+1) - 1)):=by
 refine⟨akK q k,λd=>?_⟩;have B:cG m<=64:=iq v;have C:=k.lt q;have G:(layout m).insts.length=(insts m).length:=(uR m).2.2;cases k with
 | @var r w H e h x =>
  rw[OQ e h] at d ⊢;by_cases s:m.vars[r].over > 0
  .rw[if_pos s] at d ⊢;simp only at d ⊢;refine .inr ⟨Rc _ _ λg y=>?_,AW,Classical.byContradiction λI=>?_,AW,AW,AW,AW,by rw[x];omega⟩
   .obtain⟨a,n,rfl⟩:=List.mem_iff_getElem.1 y;obtain⟨_,p⟩:=qK (m:=m) (i:=a) AW;simp only[decide_eq_false_iff_not];rw[p];intro t;exact ar0 (m:=m) (q:=a) AW e AW AW
   .have:=Cf (s:=m.scalars) (k:=m.vars[r].over) AW
    rw[Z8,if_neg AW] at h;omega
  .rw[if_neg s] at d;exact absurd rfl d
 | chan e h =>
  rw[ah7 e h] at d;exact absurd rfl d
 | @inst a j l w e h =>
  rw[VW e.a h] at d ⊢;simp only at d ⊢;refine .inl ⟨a,j,l,e,?_,AW⟩;have n:=e.a.av;obtain⟨z,p⟩:=qK n
  have:=Kj (p:=λg=>decide ((b7 m a:Int)=g)) (layout m).insts a 0 z (by simp[p]) λu J K=>by
   obtain⟨_,t⟩:=qK (m:=m) (i:=u) AW;simp only[decide_eq_false_iff_not];rw[t];intro L
   have:=arZ (m:=m) (q:=a) (q':=u) n AW AW
   omega
  rw[this,ZB]
end o
namespace Go.Proofs.R
open Go Go.RowKit a8 o
attribute [local irreducible] dE bD o.insts o.refs jH
structure Jf(w:World)(zs:List Value)(m:o.Model):Prop where
 ex:∃eE d0 c3 d1 dv d2 dR d3 eQ d4 ok mS iv hM cO ci of o6 fC fN,
  zs=[.slice eE m.scalars.length d0,.slice c3 m.vars.length d1,.slice dv m.ay.length d2,.slice dR m.procs.length d3,.slice eQ m.props.length d4,
   .slice ok (bD m).length mS,.slice iv (jH m).length hM,.slice cO (o.insts m).length ci,.slice of (o.layout m).insts.length o6,.slice fC (dE m.scalars).length fN] /\
  eu w [.slice eE m.scalars.length d0,.slice c3 m.vars.length d1,.slice dv m.ay.length d2,.slice dR m.procs.length d3,.slice eQ m.props.length d4] m /\
  (∃mD:List Int,mD=(bD m).map (·.kind)/\cH w (.slice ok (bD m).length mS) mD)/\a4 3 (Flat nV) w (.slice iv (jH m).length hM) (jH m)/\q6 w (.slice cO (o.insts m).length ci) (o.insts m) /\
  cH w (.slice of (o.layout m).insts.length o6) (o.layout m).insts/\q5 w (.slice fC (dE m.scalars).length fN) (dE m.scalars)
theorem Jf.ext{w w':A_}{a:C_ B_}{m:o.Model}(e:Ext w w')(h:Jf w a m):Jf w' a m:=by
 obtain⟨b,c,d,f,g,i,j,k,l,n,p,q,r,s,t,u,v,x,y,z,A,B,⟨C,G,H⟩,I,J,K,L⟩:=h.ex;exact⟨b,c,d,f,g,i,j,k,l,n,p,q,r,s,t,u,v,x,y,z,A,B.ext e,⟨C,G,H.ext Flat.ext e⟩,I.ext Flat.ext e,J.ext Flat.ext e,K.ext Flat.ext e,a4.ext uq e L⟩
def nQ(w:A_)(b:Nat)(m:o.Model):Prop := ∃a,w.heap[b]? = some (.cells a.toArray T.ua)/\Jf w a m
theorem nQ.ext{w w':A_}{b:Nat}{m:o.Model}(e:Ext w w')(h:nQ w b m):nQ w' b m:=let ⟨a,c,d⟩:=h; ⟨a,e.obj c,d.ext e⟩
def US(v:B_)(s:C_ o.Scalar)(g:C_ (C_ Int))(k e:Int)(w:A_)(h:hB w v g)(d:pD s)(f:hi s g)(z:1<=k)(A:k<=s.length)(B : -9000000000000000000<=e)(C:e<=9000000000000000000) :
  EG F.dx #[v,.I k,.I e] w λn p=>n = .I (gI g k e)/\Ext w p:=by
 obtain⟨a,rfl⟩:∃a:Nat,k=(a:Int)+1:=⟨(k - 1).toNat,AW⟩;have b:a<g.length:=by rw[f.len];omega
 have q:=f.perm a b AW;have r:=λ{t:Int} (i:t∈g[a])=>q.mem.1 i;have G:=d.2 _ (ID (show a<s.length by omega));have H:=d.1;obtain⟨I,bg,rfl,J⟩:=h.form;obtain⟨u,rfl⟩:=h.addr;have x:oY w (u.add (a*1)) (g[a]'b):=a4.at h a b;obtain⟨K,j,l⟩:=x;obtain⟨L,bj,rfl,M⟩:=l.form;rw[vB b];unfold nU;refine bm E.dx ?_;refine aa ?_;apply I_<;>intro m
 .refine aa ?_;exact⟨by rw[if_pos m],Ext.refl _⟩
 rw[if_neg m];refine aa ?_;refine M_ a ?_ b ?_
 .omega
 refine aa ?_;refine L_ j ?_;refine aa ?_;apply I_<;>intro N
 .refine aa ?_;exact⟨by rw[List.getElem?_eq_none AW],Ext.refl _⟩
 have c:(e - 1).toNat<(g[a]'b).length:=AW
 have y:=l.addr;obtain⟨O,rfl⟩:=y;have i:=r (ID c);refine aa ?_;refine M_ a ?_ b ?_
 .omega
 refine aa ?_;refine L_ j ?_;refine aa ?_;refine M_ (e - 1).toNat ?_ c ?_
 .omega
 refine aa ?_;exact⟨by rw[List.getElem?_eq_getElem c],Ext.refl _⟩
def JN(x y:Int):tf [.i,.i] [.I x,.I y]:=⟨⟨_,rfl⟩,⟨_,rfl⟩,trivial⟩
def aep(v:B_)(l:C_ c7)(x:c7)(w:A_)(h:q6 w v l) :
  EG F.JY #[v,.agg x.enc.toArray] w λq e=>q = .I (g9 (λa=>decide (x=a)) l 0)/\Ext w e:=by
 obtain⟨A,bg,rfl,B⟩:=h.form;refine vl E.JY ?_;refine ow ?_;refine aa ?_;intro r C G s t;refine aa ?_;refine K_ 8 l.length [0,3,7] (λ_:Unit=>[]) () (λb _ e=>Ext r e/\g9 (λa=>decide (x=a)) l 0=g9 (λa=>decide (x=a)) (l.drop b) b) aV aV ⟨Ext.refl _,Ah⟩ ?_;rintro b _ H I J ⟨f,d⟩;have K:=f.obj t;have g:=s.trans f;have u:=h.ext Flat.ext g;refine aa ?_;apply I_<;>intro L
 .have k:b<l.length:=AW
  obtain⟨M,rfl⟩:=u.addr;rw[Dj k] at d;refine aa ?_;refine AA1 (sig:=[.i,.i]) (xs:=[_,_]) (ys:=[_,_]) Cg (JN _ _) (JN _ _) λy m=>?_;have n:y=true↔x=l[b]:=by
   rw[m];constructor
   .intro h;injection h with i c
    injection c with c
    injection i with _ i
    injection c with _ c
    exact TN i c
   .intro h;rw[h]
  clear m;refine aa ?_;intro N p;refine N_ (λj=>?_) (λj=>?_)
  .refine aa ?_;exact⟨by rw[d,if_pos (by simp[n.1 j])],g.trans p⟩
  .refine aa ?_;exact⟨k,aZ,(),trivial,f.trans p,by rw[d,if_neg (by intro z;have:=n.2 (by simpa using z);rw[j] at this;cases this)]⟩
 .refine aa ?_;exact⟨by rw[d,VB AW];rfl,g⟩
def ar6(v:B_)(l:C_ o.Ref)(x:o.Ref)(w:A_)(h:Fp w v l) :
  EG F.hM #[v,.agg x.enc.toArray] w λq e=>q = .I (g9 (λa=>decide (x=a)) l 0)/\Ext w e:=by
 obtain⟨A,bg,rfl,B⟩:=h.form;refine vl E.hM ?_;refine ow ?_;refine aa ?_;intro r C G s t;refine aa ?_;refine K_ 8 l.length [0,3,7] (λ_:Unit=>[]) () (λb _ e=>Ext r e/\g9 (λa=>decide (x=a)) l 0=g9 (λa=>decide (x=a)) (l.drop b) b) aV aV ⟨Ext.refl _,Ah⟩ ?_;rintro b _ H I J ⟨f,d⟩;have K:=f.obj t;have g:=s.trans f;have u:=h.ext Flat.ext g;refine aa ?_;apply I_<;>intro L
 .have k:b<l.length:=AW
  obtain⟨M,rfl⟩:=u.addr;rw[Dj k] at d;refine aa ?_;refine AA1 (sig:=[.i,.i]) (xs:=[_,_]) (ys:=[_,_]) Cg (JN _ _) (JN _ _) λy m=>?_;have n:y=true↔x=l[b]:=by
   rw[m];constructor
   .intro h;injection h with i c
    injection c with c
    injection i with _ i
    injection c with _ c
    exact agG i c
   .intro h;rw[h]
  clear m;refine aa ?_;intro N p;refine N_ (λj=>?_) (λj=>?_)
  .refine aa ?_;exact⟨by rw[d,if_pos (by simp[n.1 j])],g.trans p⟩
  .refine aa ?_;exact⟨k,aZ,(),trivial,f.trans p,by rw[d,if_neg (by intro z;have:=n.2 (by simpa using z);rw[j] at this;cases this)]⟩
 .refine aa ?_;exact⟨by rw[d,VB AW];rfl,g⟩
attribute [local irreducible] fE
def af8(b:Nat)(v:B_)(m:o.Model)(g:C_ (C_ Int))(x:Int)(q q' p:Nat)(w:A_)(Z:x=q)(h:nQ w b m)(r:pD m.scalars)(L:hi m.scalars g)(ab:hB w v g)(e:jK m (gI g) q q' p) :
  EG F.qu #[.pointer (some ⟨b,0,none⟩),v,.I x] w λs i=>s = .I q'/\Ext w i:=by
 subst Z;obtain⟨aA,t,M⟩:=h;obtain⟨aB,aC,aD,aE,aF,aG,aH,aI,aJ,aK,aM,aP,aQ,aS,aT,aU,aW,aX,aY,a0,rfl,N,_,_,u,_⟩:=M.ex;obtain⟨_,_,_,_,_,_,_,_,_,_,c,_,_,_,y,_⟩:=N.form;injection c with ae c
 injection c with f c
 injection c with z c
 injection c with j c
 injection j with af a2 ag
 subst af ag;clear c ae f z N M;have ah:=L.qS r;have d:=e.a.av;have A:=e.a.aC;have B:=e.a.F2;have a5:=e.a.fR;have ai:=e.a.eq;have k:=asd ah e;obtain⟨a,O⟩:∃a,a=(m.procs[p]'A).over:=⟨_,rfl⟩;rw[<-O] at B k;have aj:a=0\/(1<=a/\a<=m.scalars.length):=by
  by_cases P:a=0
  .exact .inl P
  .refine .inr (Classical.byContradiction λa6=>?_)
   have:=Cf (s:=m.scalars) (k:=a) AW
   omega
 have a7:=r.1;replace B:=i_ B trivial;obtain⟨a9,rfl⟩:=u.addr;obtain⟨ak,rfl⟩:=y.addr;obtain⟨_,ba,dI,Q,_,_⟩:=y.at p A;have al:w.cell? ((ak.add (p*5)).add 1)=some (.I a):=by rw[O];exact Q 1 _ rfl
 clear Q y;refine bm E.qu ?_;refine aa ?_;intro bb bf an l S;have U:=l.obj t;refine aa ?_;refine M_ p ai A ?_;refine aa ?_;refine L_ (l.cell al) ?_;refine aa ?_;intro ao C;have V:=C.obj U;have W:=C.obj S;have f:=l.trans C;have aq:=kW f ab;have G:=u.ext Flat.ext f;have bk:=ca t;have bn:=l.size;clear t U S;refine aa ?_;apply I_<;>intro bo
 .have bp:=aj.resolve_left AW;refine aa ?_;refine J_ (US v m.scalars g a ((o.insts m)[q]'d).elem ao aq r L AW AW AW AW) ?_;rintro _ br ⟨rfl,n⟩;have X:=n.obj V;have ar:=n.obj W;have au:=G.ext Flat.ext n;have z:=f.trans n;refine aa ?_;intro bt Y bu;have j:=Y.ext z an;have bw:=Y.obj X AW;have av:=u.ext Flat.ext j;clear V X W ar G au;refine aa ?_;refine P_ (.I q') (λi H=>(aep _ _ ⟨((o.insts m)[q]'d).proc,gI g a ((o.insts m)[q]'d).elem⟩ i (av.ext Flat.ext H)).mono λs aw ⟨I,J⟩=>⟨by rw[I,k],J⟩) ?_;refine aa ?_;intro ax K;refine aa ?_;exact⟨aZ,j.trans K⟩
 .have P:a=0:=AW
  have az:gI g a ((o.insts m)[q]'d).elem=((o.insts m)[q]'d).elem:=AX (.inl AW) _;rw[az] at k;refine aa ?_;refine P_ (.I q') (λi H=>(aep _ _ ⟨((o.insts m)[q]'d).proc,((o.insts m)[q]'d).elem⟩ i (G.ext Flat.ext H)).mono λs aw ⟨I,J⟩=>⟨by rw[I,k],J⟩) ?_;refine aa ?_;intro ax K;refine aa ?_;exact⟨aZ,f.trans K⟩
def af2(b:Nat)(v:B_)(m:o.Model)(g:C_ (C_ Int))(c z:Nat)(w:A_)(h:nQ w b m)(A:(o.check m).bN=0)(n:hi m.scalars g)(U:hB w v g)(B:gE m (gI g) c z) :
  EG F.dL #[.pointer (some ⟨b,0,none⟩),v,.I c] w λe a=>e = .I z/\Ext w a:=by
 have V:=h;obtain⟨av,f,C⟩:=h;obtain⟨aw,ax,az,aA,aB,aC,aD,aE,aF,aG,aH,aI,aJ,aK,aM,aP,aQ,aS,aT,aU,rfl,_,_,p,_,W,_⟩:=C.ex;clear C;have d:=ko A;have G:=g6 A;have H:=n.qS d;have aW:=B.lt H;have aX:cG m<=64:=iq G;have X:=akN d G H B;obtain⟨Y,q⟩:=X;replace q:=i_ q trivial;have aY:=VX m;have I:=ax7 (m:=m) (c:=c) AW;have a0:=d.1;obtain⟨Z,rfl⟩:=p.addr;have i:fx w (Z.add (c*3)) [.I (fE m c).1,.I (fE m c).2.1,.I (fE m c).2.2]:=by
  have:=a4.at p c AW
  rw[I] at this;exact this
 have J:=i 0 _ rfl;have K:=i 1 _ rfl;have L:=i 2 _ rfl;clear i p I;refine bm E.dL ?_;refine aa ?_;refine _p AW ?_;refine aa ?_;refine L_ J ?_;refine aa ?_;refine _p AW ?_;refine aa ?_;refine L_ K ?_;refine aa ?_;refine _p AW ?_;refine aa ?_;refine L_ L ?_;refine aa ?_;intro M j;replace f:=j.obj f;clear J K L;refine aa ?_;apply I_<;>intro N
 .refine aa ?_;exact⟨by rw[Y N],j⟩
 have ab:=q.1 N;have r:=W.ext Flat.ext j;refine aa ?_;refine J_ ((ar7 kB E.cj _ _ (fE m c).1 M r).mono (R':=λe a=>(∃k:Int,e = .I k/\k=g9 (λae=>decide ((fE m c).1=ae)) (o.layout m).insts 0)/\Ext M a) λe a ⟨af,ag⟩=>⟨⟨_,af,rfl⟩,ag⟩) ?_;rintro _ ah ⟨⟨k,rfl,s⟩,t⟩;have a2:=t.obj f;have l:=j.trans t;have ai:=r.ext Flat.ext t;have O:=kW l U;clear f r;rcases ab with ⟨aj,P,ak,Q,u,x⟩ | ⟨u,al,an,a5,a6,a7,a9,x⟩
 .rw[u] at s;have ao:=qK Q.b.av;obtain⟨ba,aq⟩:=ao;have ar:=ai.addr;obtain⟨bb,rfl⟩:=ar;refine aa ?_;refine P_ (.I P) (λa S=>af8 b v m g k aj P ak a s (V.ext (l.trans S)) d n (kW S O) Q) ?_;refine aa ?_;intro au y;refine aa ?_;exact⟨by rw[aq,x],l.trans y⟩
 .rw[u] at s;refine aa ?_;refine J_ (US v m.scalars g (fE m c).2.2 ((fE m c).2.1+1) ah O d n al an AW AW) ?_;rintro _ au ⟨rfl,y⟩;refine aa ?_;exact⟨by rw[x],l.trans y⟩
def UQ(b:Nat)(v vs:B_)(m:o.Model)(g:C_ (C_ Int))(s:C_ Int)(w:A_)(h:nQ w b m)(d:(o.check m).bN=0)(f:hi m.scalars g)(q:hB w v g)(G:cH w vs s)(H:o.Fits m s) :
  EG F.bX #[.pointer (some ⟨b,0,none⟩),v,vs] w λX I=>fe w.heap.size I X (hK m g s)/\Ext w I:=by
 have J:=h;obtain⟨ax,K,L⟩:=h;obtain⟨az,aA,aB,aC,aD,aE,aF,aG,aH,aI,aJ,aK,aM,aP,aQ,aS,aT,aU,aW,aX,rfl,_,⟨l,M,N⟩,_⟩:=L.ex;clear L;have n:=ko d;have O:=g6 d;have P:=f.qS n;have aY:cG m<=64:=iq O;have r:=H.len;have a0:(bD m).length=cG m:=rfl;have Y:l.length=(bD m).length:=by rw[M,AG7]
 rw[<-Y] at N K;obtain⟨a2,a5,rfl,a6⟩:=G.form;have a7:=n.1;have Z:(List.replicate s.length (0:Int)).length=cG m:=by rw[AG0,r]
 refine bm E.bX ?_;refine aa ?_;refine _Z s.length AW AW λab Q t ae S=>?_;have af:fe w.heap.size ab (.slice (some ⟨Q,0,none⟩) s.length s.length) (List.replicate s.length 0):=aR.Js (n:=s.length) S t Ah (by simp[maxLen];omega);clear S;refine aa ?_;refine K_ 16 s.length [0,1,7,14,15] (λ_:Unit=>[]) () (λa _ U=>fe w.heap.size U (.slice (some ⟨Q,0,none⟩) s.length s.length) (tX m (gI g) s (List.replicate s.length 0) a)/\Ext w U) aV aV ⟨af,ae⟩ ?_;rintro a - a9 u ba ⟨p,c⟩;have bb:=c.obj K;have ag:=G.ext Flat.ext c;have ah:=N.ext Flat.ext c;have ai:=Jk m (gI g) s (List.replicate s.length 0) a;rw[AG0] at ai;refine aa ?_;apply I_<;>intro bf;rotate_left
 .have:a=s.length:=AW
  subst this;refine aa ?_;refine⟨?_,c⟩;have V:=aju d f r Z;rw[<-r] at V;rw[V] at p;exact p
 have i:a<s.length:=AW
 have x:a<(bD m).length:=AW
 have W:=wj (List.getElem?_eq_getElem x);have aj:l[a]' AW=(bD m)[a].kind:=by simp[M]
 have ak:=C4 O P (c:=a) AW;obtain⟨e,j⟩:=ak;have bk:=j.lt P;have bn:=H.cell a i x;have al:=i_ (asA d (List.getElem?_eq_getElem x)) trivial;have an:=a4.addr ag AW;obtain⟨bo,rfl⟩:=an;have ao:=a4.addr ah AW;obtain⟨bp,rfl⟩:=ao;refine aa ?_;apply I_<;>intro br
 .have aq:=al.1 AW;obtain⟨bt,ar,bu,bw,bx⟩:=aq;have bz:=n.2 _ (ID ar);refine aa ?_;refine J_ (US v m.scalars g ((l[a]' AW) - 1) s[a] u (kW c q) n f AW AW AW AW) ?_;rintro _ au ⟨rfl,hg⟩;refine aa ?_;refine J_ (af2 b v m g a e au (J.ext (c.trans hg)) d f (kW (c.trans hg) q) j) ?_;rintro _ av ⟨rfl,y⟩;have k:=hg.trans y;have z:=p.ext k;refine aa ?_;refine _a (k:=e) z AW λaw A B=>?_;refine aa ?_;refine⟨i,aZ,(),trivial,?_,A.ext (c.trans k) t⟩;have C:tX m (gI g) s (List.replicate s.length 0) (a+1)=(tX m (gI g) s (List.replicate s.length 0) a).set e (gI g ((l[a]' AW) - 1) s[a]):=by
   show List.set _ _ _=_;rw[j.g,W,List.getD,List.getElem?_eq_getElem i];unfold fl;rw[if_pos AW,aj];rfl
  rw[C];exact B
 .have hg:=Ext.refl u;refine aa ?_;refine J_ (af2 b v m g a e u (J.ext c) d f (kW c q) j) ?_;rintro _ av ⟨rfl,y⟩;have k:=hg.trans y;have z:=p.ext k;refine aa ?_;refine _a (k:=e) z AW λaw A B=>?_;refine aa ?_;refine⟨i,aZ,(),trivial,?_,A.ext (c.trans k) t⟩;have C:tX m (gI g) s (List.replicate s.length 0) (a+1)=(tX m (gI g) s (List.replicate s.length 0) a).set e (s[a]):=by
   show List.set _ _ _=_;rw[j.g,W,List.getD,List.getElem?_eq_getElem i];unfold fl;rw[if_neg AW];rfl
  rw[C];exact B
end Go.Proofs.R
namespace o
def asm(s:C_ Int)(p:Nat)(x:Int)(xs:C_ Int)(h:p+(xs.length+1)<=s.length):hY (s.set p x) (p+1) xs=hY s p (x :: xs):=by
 have c:p+1+xs.length<=(s.set p x).length:=by rw[ZA];omega
 have d:p+(x :: xs).length<=s.length:=by simpa using h
 apply List.ext_getElem?;intro a;rw[xV c,xV d];by_cases e:a=p
 .subst e;rw[if_neg AW,if_pos ⟨AW,Ah⟩,List.getElem?_set_self AW];simp
 .by_cases b:p+1<=a/\a<p+1+xs.length
  .rw[if_pos b,if_pos ⟨AW,by simp;omega⟩,show a - p=(a - (p+1))+1 from AW,List.getElem?_cons_succ]
  .rw[if_neg b,if_neg (by simp;omega),List.getElem?_set_ne AW]
def aeB(s:C_ Int)(p:Nat):hY s p []=s:=by simp[hY]
end o
namespace a8
open Go Go.RowKit
def afU{e:F_}{base:Nat}{w:A_}{l:C_ Int}{g n c k:Nat}{x:Int}(h:aR da e 1 base w (.slice (some ⟨g,0,none⟩) n c) l)(u:k<l.length) :
  aR da e 1 base (w.setCell ⟨g,k,none⟩ (.I x)) (.slice (some ⟨g,0,none⟩) n c) (l.set k x)/\(∃j,w.cell? ⟨g,k,none⟩=some j)/\w.frozen? ⟨g,k,none⟩=false:=by
 rcases h.2 with ⟨m,v⟩ | ⟨y,cap,cur,p,z,b,A,B,C,G⟩
 .cases m
 .injection p with a d q
  injection a with a
  injection a with a
  subst a q;have r:k<cur.size:=AW
  have s:Addr.add ⟨g,0,none⟩ k=⟨g,k,none⟩:=by rw[add_eq,ZB]
  have f:w.cell? (Addr.add ⟨g,0,none⟩ k)=some cur[k]:=gD b (Array.getElem?_eq_getElem r);rw[s] at f;have t:w.ownsRow base e 1 (.slice (some ⟨g,0,none⟩) l.length c) l.length (l.flatMap da):=by unfold aR at h;rw[d] at h;exact h
  have i:=World.ownsRow.stored t k (.I x);rw[Rk] at i;refine⟨?_,⟨_,f⟩,by simp[World.frozen?,b]⟩;unfold aR;rw[ZA,d];exact i.1
theorem afV{e:F_}{base:Nat}{g n c p:Nat}:∀(b:C_ Int) (a:Nat) (f:A_) (d:C_ Int),aR da e 1 base f (.slice (some ⟨g,0,none⟩) n c) d->p+a+b.length<=d.length ->
  aR da e 1 base (k0 f ⟨g,p,none⟩ (b.flatMap da) a) (.slice (some ⟨g,0,none⟩) n c) (o.hY d (p+a) b)
 | [],a,f,d,h,_=>by rw[o.aeB];exact h
 | i :: b,a,f,d,h,k=>by
  have l:p+a+(b.length+1)<=d.length:=by simpa using k
  have m:=(afU (x:=i) h (k:=p+a) AW).1;have j:=afV (p:=p) b (a+1) _ _ m (by rw[ZA];omega);rw[<-AH6,o.asm _ _ _ _ l] at j;show aR da e 1 base (k0 (f.setCell (Addr.add ⟨g,p,none⟩ a) (.I i)) ⟨g,p,none⟩ (b.flatMap da) (a+1)) _ _;rw[add_eq];exact j
def _g{S:Fr}{w:A_}{c:B_->Prop}{n cap g:Nat}{x y:G_}{k k':IntKind}{xs:C_ Int}{t}(l a:Nat)(d:a4 1 (Flat da) w (.slice (some ⟨g,0,none⟩) n cap) xs)(h:bq S x = .int k (l:Int))(i:bq S y = .int k' (a:Int))(e:l<=a)(j:a<=xs.length)
  (m:∀b f,(0<a - l->b=some ⟨g,l,none⟩)->a4 1 (Flat da) w (.slice b (a - l) f) ((xs.drop l).take (a - l))->c (.slice b (a - l) f)):s0 S 1 (.slice (some ⟨g,0,none⟩) n cap) (some x) (some y) none c t:=by
 obtain⟨p,q,r⟩:=d.len;refine _K l a cap (by simp[fb,h]) (by simp[fb,i]) (by simp[fb]) ⟨e,AW,Fy _⟩ Ah ?_;refine m _ _ (λs=>?_) (d.sub l a e j);rw[if_neg AW];simp[add_eq]
def AE7{S:Fr}{w:A_}{a:B_->Prop}{n cap g:Nat}{x:G_}{k:IntKind}{xs:C_ Int}{t}(l:Nat)(c:a4 1 (Flat da) w (.slice (some ⟨g,0,none⟩) n cap) xs)(d:bq S x = .int k (l:Int))(h:l<=xs.length)
  (e:∀b f,(0<n - l->b=some ⟨g,l,none⟩)->a (.slice b (n - l) f)):s0 S 1 (.slice (some ⟨g,0,none⟩) n cap) (some x) none none a t:=by
 obtain⟨i,j,m⟩:=c.len;refine _K l n cap (by simp[fb,d]) (by simp[fb]) (by simp[fb]) ⟨AW,AW,Fy _⟩ Ah ?_;refine e _ _ (λp=>?_);rw[if_neg AW];simp[add_eq]
def _h{P:D_}{S:Fr}{w:A_}{e j:F_}{base g n c p k V m cs:Nat}{l xs:C_ Int}{x y:G_}{q d:H_ Addr}{B:B_->A_->Prop}{W:F_}{t}(r:aR da e 1 base w (.slice (some ⟨g,0,none⟩) n c) l)(s:a4 1 (Flat da) w (.slice d m cs) xs)
  (C:bq S x = .slice q k V)(G:bq S y = .slice d m cs)(X:0<k->q=some ⟨g,p,none⟩)(au:p+k<=l.length)(H:P.underlying j=some (.slice e))(Y:(P.info? e).map (·.size)=some 1)
  (I:∀Z u,dY g w u->aR da e 1 base u (.slice (some ⟨g,0,none⟩) n c) (o.hY l p (xs.take k))->B Z u):wS P (.call ⟨.builtin .copy,#[x,y],#[j,j]⟩) W S w B t:=by
 obtain⟨av,J,K⟩:=Option.map_eq_some_iff.1 Y;obtain⟨ab,aw,ax⟩:=s.len;subst ab;have L:(xs.take k).length=min k xs.length:=NU;have ae:∀b,d=some b->fx w b ((xs.take k).flatMap da):=λb v a M N=>by
  have f:(List.map (Value.int .i64) (xs.take k))[a]? = some M:=by rw[<-N];congr 1;induction xs.take k with | nil=>rfl | cons i af ag=>simp[da,ag]
  rw[List.getElem?_map] at f;cases h:(xs.take k)[a]? with
  | none=>rw[h] at f;cases f
  | some i =>
   rw[h] at f;have ah:M = .I i:=by simpa using f.symm
   subst ah;obtain⟨ai,O⟩:=List.getElem?_eq_some_iff.1 h;rw[L] at ai;subst v;have aj:=s.at a AW;have Q:w.cell? ((b.add (a*1)).add 0)=some (.I xs[a]):=aj 0 _ rfl;rw[add_zero,AH5] at Q;rw[Q]
   have:(xs.take k)[a]=xs[a]:=Ah
   rw[this] at O;rw[O]
 have ak:((xs.take k).flatMap da).length=min xs.length k:=by rw[mW (sz:=1) (λ_=>rfl),L];omega
 have z:(Builtin.firstCells 1 (min xs.length k) (.slice d xs.length cs)).run P w = .ok ((xs.take k).flatMap da).toArray w:=by
  cases d with
  | none =>
   have al:xs=[]:=by
    cases an:xs with
    | nil=>rfl
    | cons i af=>obtain⟨b,v⟩:=s.addr (by rw[an];simp);cases v
   subst al;simp[Builtin.firstCells]
  | some b =>
   have U:=run_loadCells_list (P:=P) w b _ (ae b rfl);rw[ak] at U;simp only[Builtin.firstCells,Nat.mul_one];exact U
 rcases Nat.eq_zero_or_pos k with A | A
 .subst A;have ao:(xs.take 0).flatMap da=[]:=rfl;rw[ao,Nat.min_zero] at z;refine _X (v:=goInt 0) (w':=w) ?_ (I _ _ (dY.refl _ _) (by rw[show xs.take 0=[] from rfl,o.aeB];exact r));cases q<;>simp[execOp,resolve,invoke,builtin,C,G,Builtin.copy_,run_underlying H,Builtin.lenOf,p6 J,K,z,storeCells]
 .obtain rfl:=X A;have aq:=Ou P ⟨g,p,none⟩ ((xs.take k).flatMap da) 0 w (λa N=>by
   rw[ZB,add_eq];exact(afU (x:=0) r (k:=p+a) AW).2) (λi h=>by
   obtain⟨az,_,ar⟩:=List.mem_flatMap.1 h;rw[List.mem_singleton.1 ar];rfl)
  refine _X (v:=goInt ((Nat.min xs.length k:Nat):Int)) (w':=k0 w ⟨g,p,none⟩ ((xs.take k).flatMap da) 0) ?_ (I _ _ (dY.k0 _ w ⟨g,p,none⟩ 0) (afV _ 0 w l r AW));simp[execOp,resolve,invoke,builtin,C,G,Builtin.copy_,run_underlying H,Builtin.lenOf,p6 J,K,z,aq]
def AE8{α:Type}{S:Fr}{w:A_}{d:B_->Prop}{sz n cap:Nat}{R:A_->Addr->α->Prop}{c:H_ Addr}{x y e:G_}{k k' k'':IntKind}{xs:C_ α}{t}(l a:Nat)(f:a4 sz R w (.slice c n cap) xs)(m:bq S x = .int k (l:Int))(p:bq S y = .int k' (a:Int))(q:bq S e = .int k'' (a:Int))(g:l<=a)(r:a<=xs.length)
  (s:∀h,a4 sz R w (.slice h (a - l) (a - l)) ((xs.drop l).take (a - l))->d (.slice h (a - l) (a - l))):s0 S sz (.slice c n cap) (some x) (some y) (some e) d t:=by
 obtain⟨C,G,H⟩:=f.len;refine _K l a a (by simp[fb,m]) (by simp[fb,p]) (by simp[fb,q]) ⟨g,Fy _,AW⟩ Ah ?_;refine s _ ?_;have i:((xs.drop l).take (a - l)).length=a - l:=by rw[NU,AG5];omega
 by_cases j:a=l
 .subst j;have u:(xs.drop a).take (a - a)=[]:=by rw[AK0];rfl
  rw[u];rw[if_pos rfl,AK0];exact⟨c,0,rfl,Fy _,AG2 _,λb=>absurd rfl b,λI _ J v=>absurd v (Og _)⟩
 .have b:=f.sub l a g r;rw[if_neg AW] at b;rw[if_neg j];obtain⟨K,L,z,M,N,A,B⟩:=b;injection z with f1 f2 f3
  subst f1;exact⟨_,_,by rw[i],by rw[i];exact Fy _,AW,A,B⟩
end a8
namespace o
theorem asp{l:C_ Int}(d:0<l.length)(e:0<=l[0])(f:l[0]<=(l.length:Int) - 1):iV l = !((l.drop (1+l[0].toNat)).any λa=>decide (a≠0)):=by
 cases l with
 | nil=>simp at d
 | cons a c =>
  simp only[List.getElem_cons_zero,List.length_cons] at e f ⊢;rw[AK9,List.drop_succ_cons];unfold iV;show(decide (0<=a/\a<=(c.length:Int))&&(c.drop a.toNat).all λb=>decide (b=0))=_;rw[decide_eq_true AW,Bool.true_and,List.not_any_eq_all_not];congr 1;funext b;by_cases g:b=0<;>simp[g]
theorem aeD{l:C_ Int}(h:∀a:0<l.length,¬(0<=l[0]/\l[0]<=(l.length:Int) - 1)):iV l=false:=by
 cases b:iV l with
 | false=>rfl
 | true =>
  obtain⟨a,c,d,_⟩:=zU.1 b;exact absurd ⟨c,d⟩ (h a)
theorem au6(n:Nat)(l:C_ Int)(h:1<=n):hY ((List.replicate n 0).set 0 (l.length:Int)) 1 (l.take (n - 1))=p5 n l:=by
 have d:1+(l.take (n - 1)).length<=((List.replicate n (0:Int)).set 0 (l.length:Int)).length:=by
  rw[ZA,AG0,NU];omega
 apply List.ext_getElem?;intro a;rw[xV d];have e:(l.take (n - 1)).length=min (n - 1) l.length:=NU;cases a with
 | zero =>
  rw[if_neg AW,List.getElem?_set_self (by rw[AG0];omega)];simp[p5]
 | succ a =>
  by_cases b:a+1<n
  .rw[afY b];by_cases c:a<l.length
   .rw[if_pos AW,show a+1 - 1=a from rfl,List.getElem?_take_of_lt AW,List.getElem?_eq_getElem c];simp[c]
   .rw[if_neg AW,List.getElem?_set_ne AW,List.getElem?_replicate,if_pos b];simp[List.getD,List.getElem?_eq_none (show l.length<=a by omega)]
  .rw[if_neg AW,List.getElem?_eq_none (by rw[ZA,AG0];omega),List.getElem?_eq_none (by rw[UP h];omega)]
end o
namespace Go.Proofs.R
open Go Go.RowKit a8 o
def auh(n c d:Int)(w:A_):EG F.c2 #[.I n,.I c,.I d] w λf g=>(∃e:Bool,f = .bool e/\(e=true↔c<=n/\n<=d))/\Ext w g:=by
 refine bm E.c2 ?_;refine aa ?_;refine I_ (λb=>?_) (λb=>?_)
 .refine aa ?_;exact⟨⟨_,rfl,by rw[decide_eq_true_eq];exact⟨λa=>⟨b,a⟩,λa=>a.2⟩⟩,Ext.refl _⟩
 .refine aa ?_;exact⟨⟨false,rfl,by simp only[Bool.false_eq_true,false_iff];exact λa=>b a.1⟩,Ext.refl _⟩
def ak5(n:Int)(w:A_):EG F.nq #[.I n] w λa b=>a = .bool (decide (n≠0))/\Ext w b:=by
 refine bm E.nq ?_;refine aa ?_;refine⟨?_,Ext.refl _⟩
 first | trivial | (congr 1;simp)
def alu(v:B_)(l:C_ Int)(w:A_)(h:cH w v l) :
  EG F.FQ #[v,.func (.func F.nq) #[] #[]] w λj f=>j = .I (g9 (λc=>decide (c≠0)) l 0)/\Ext w f:=by
 obtain⟨m,bg,rfl,n⟩:=h.form;refine vl E.FQ ?_;refine ow ?_;refine aa ?_;refine K_ 8 l.length [0,1,7] (λ_:Unit=>[]) () (λa _ f=>Ext w f/\g9 (λc:Int=>decide (c≠0)) l 0=g9 (λc:Int=>decide (c≠0)) (l.drop a) a) aV aV ⟨Ext.refl _,Ah⟩ ?_;rintro a _ p k q ⟨d,b⟩;have r:=h.ext Flat.ext d;refine aa ?_;apply I_<;>intro s
 .have g:a<l.length:=AW
  obtain⟨t,rfl⟩:=h.addr;rw[Dj g] at b;refine aa ?_;refine W_ (first:=[]) (cap:=[]) Cg (ak5 l[a] k) ?_;rintro _ u ⟨rfl,i⟩;by_cases e:l[a]≠0
  .rw[if_pos (by simpa using e)] at b;rw[decide_eq_true e];refine aa ?_;exact⟨by rw[b],d.trans i⟩
  .rw[if_neg (by simpa using e)] at b;rw[decide_eq_false e];refine aa ?_;exact⟨g,aZ,(),trivial,d.trans i,b⟩
 .refine aa ?_;exact⟨by rw[b,VB AW];rfl,d⟩
def akE(v:B_)(l:C_ Int)(w:A_)(h:cH w v l) :
  EG F.fk #[v,.func (.func F.nq) #[] #[]] w λa b=>a = .bool (l.any λc=>decide (c≠0))/\Ext w b:=by
 refine vl E.fk ?_;refine ow ?_;refine aa ?_;refine J_ (alu v l w h) ?_;rintro _ e ⟨rfl,d⟩;refine aa ?_;refine⟨?_,d⟩;congr 1;exact Bool.eq_iff_iff.2 (by rw[decide_eq_true_eq];exact Ki)
theorem aab(v:B_)(l:C_ Int)(w:A_)(h:cH w v l)(n:l.length<=100000):EG F.a7 #[v] w λf g=>f = .bool (iV l)/\Ext w g:=by
 obtain⟨p,q,rfl,r⟩:=h.form;refine bm E.a7 ?_;refine aa ?_;apply I_<;>intro s
 .refine aa ?_;exact⟨by rw[aeD λa=>by omega],Ext.refl _⟩
 have a:0<l.length:=AW
 obtain⟨t,rfl⟩:=h.addr a;refine aa ?_
 try (refine M_ 0 rfl AW ?_;refine aa ?_)
 refine J_ (auh _ _ _ w) ?_;rintro _ i ⟨⟨j,rfl,c⟩,b⟩;cases j with
 | false =>
  refine aa ?_;exact⟨by rw[aeD λ_ h=>by have:=c.2 h;cases this],b⟩
 | true =>
 have d:=c.1 rfl;have k:=h.ext Flat.ext b;refine aa ?_
 try (refine M_ 0 rfl AW ?_;refine aa ?_)
 refine _e (k:=.i64) (1+l[0].toNat) k (by simp[dy,bS];omega) AW λu x e=>?_;refine aa ?_;refine J_ (akE _ (l.drop (1+l[0].toNat)) i (by have:=e.len.1;exact e)) ?_;rintro _ y ⟨rfl,m⟩;refine aa ?_;exact⟨by rw[asp a d.1 d.2],b.trans m⟩
def aac(v:B_)(l:C_ Int)(w:A_)(h:cH w v l)(k:l.length<=100000) :
  EG F.bP #[v] w λf g=>fe w.heap.size g f (iG l)/\Ext w g:=by
 obtain⟨z,A,rfl,B⟩:=h.form;refine bm E.bP ?_;refine aa ?_;refine J_ (aab _ l w h k) ?_;rintro _ C ⟨rfl,b⟩;by_cases a:iV l=true;rotate_left
 .have m:iV l=false:=by simpa using a
  rw[m];refine aa ?_;exact⟨by rw[aeF a];exact aR.nil _ _ _ _ _,b⟩
 rw[a];obtain⟨c,G,H,I⟩:=zU.1 a;obtain⟨J,rfl⟩:=h.addr c;have n:=h.ext Flat.ext b;refine aa ?_
 try (refine M_ 0 rfl AW ?_;refine aa ?_)
 refine _Z l[0].toNat AW AW ?_;intro p q K i r;have s:fe w.heap.size p (.slice (some ⟨q,0,none⟩) l[0].toNat l[0].toNat) (List.replicate l[0].toNat 0):=aR.y0 _ r (by have:=b.size;omega) (zS _) (λ_=>rfl) Ah (by rw[AG0];unfold maxLen;omega);refine aa ?_;intro L d;have t:=n.ext Flat.ext (i.trans d);have u:=s.ext d;refine aa ?_
 try (refine M_ 0 rfl AW ?_;refine aa ?_)
 try (refine M_ 0 rfl AW ?_;refine aa ?_)
 refine AE8 (k:=.i64) (k':=.i64) (k'':=.i64) 1 (1+l[0].toNat) t (by simp[o8]) (by simp[dy,bS];omega) (by simp[dy,bS];omega) AW AW λM j=>?_;rw[show 1+l[0].toNat - 1=l[0].toNat from AW] at j ⊢;refine aa ?_;refine _h (p:=0) u j (by simp only[dy,bS];rfl) (by simp only[dy,bS];rfl) (λ_=>rfl) (by rw[AG0];omega) Cg Cg λf N x e=>?_;have y:=(b.trans i).trans d;refine aa ?_;refine⟨?_,x.ext y (by have:=b.size;omega)⟩;have O:=asr a c;rw[<-TT a c,Im AW] at e
 have:hY (List.replicate l[0].toNat 0) 0 (iG l)=iG l:=by
  unfold hY;rw[AL6,AH2,VB (by rw[AG0];omega),AG8]
 rw[this] at e;exact e
def aaa(n:Nat)(v:B_)(l:C_ Int)(w:A_)(h:cH w v l)(j:1<=n/\n<=100000) :
  EG F.bE #[.I n,v] w λa b=>fe w.heap.size b a (p5 n l)/\Ext w b:=by
 obtain⟨x,y,rfl,z⟩:=h.form;refine bm E.bE ?_;refine aa ?_;refine _Z n AW AW ?_;intro k m c d e;have p:fe w.heap.size k (.slice (some ⟨m,0,none⟩) n n) (List.replicate n 0):=aR.y0 _ e AW (zS _) (λ_=>rfl) Ah (by rw[AG0];unfold maxLen;omega);have A:=h.ext Flat.ext d;clear e;refine aa ?_
 try (refine M_ 0 rfl AW ?_;refine aa ?_)
 refine _a (k:=0) p (by rw[AG0];omega) λq r f=>?_;have g:Ext w q:=r.ext d c;have s:=h.ext Flat.ext g;refine aa ?_;refine AE7 (k:=.i64) 1 (gT f) (by simp[o8]) (by rw[ZA,AG0];omega) λB C t=>?_;refine aa ?_;refine _h (p:=1) f s (by simp only[dy,bS];rfl) (by simp only[dy,bS];rfl) t (by rw[ZA,AG0];omega) Cg Cg λa G u i=>?_;rw[au6 n l j.1] at i;refine aa ?_;exact⟨i,u.ext g c⟩
def ak7(v:B_)(l:C_ Int)(w:A_)(h:cH w v l)(r:l.length<=100000) :
  EG F.iD #[v] w λd m=>((od l=none/\d = .tuple #[.slice none 0 0,.I 0,.bool false])\/(∃a b g i,od l=some (a,b)/\d = .tuple #[.slice g a.length i,.I b,.bool true]/\fe w.heap.size m (.slice g a.length i) a))/\Ext w m:=by
 obtain⟨C,G,rfl,H⟩:=h.form;refine bm E.iD ?_;refine aa ?_;refine J_ (aac _ l w h r) ?_;rintro d I ⟨s,e⟩;have j:=gT s;obtain⟨J,K,rfl,_⟩:=j.form;refine aa ?_;apply I_<;>intro n
 .have c:iG l=[]:=AG1 AW;refine aa ?_;exact⟨.inl ⟨by unfold od;rw[c],aZ⟩,e⟩
 have L:=Ma l;obtain⟨b,a,c⟩:∃b a,iG l=b :: a:=by
  cases t:iG l with
  | nil=>rw[t] at n;simp at n
  | cons b a=>exact⟨b,a,rfl⟩
 obtain⟨M,rfl⟩:=j.addr;refine aa ?_;intro u f;have x:=j.ext Flat.ext f;have N:=h.ext Flat.ext (e.trans f);refine aa ?_;refine _e (k:=.i64) 1 x rfl AW λg i k=>?_;have y:(iG l).drop 1=a:=by rw[c];rfl
 have z:(iG l)[0]' AW=b:=by simp[c]
 rw[y] at k;refine aa ?_
 try (refine M_ 0 rfl AW ?_;refine aa ?_)
 refine J_ (aaa l.length _ a u (by have:=k.len.1;exact k) AW) ?_;rintro d O ⟨p,q⟩;obtain⟨A,B,rfl,_⟩:=(gT p).form;refine⟨q,?_⟩;refine aa ?_;exact⟨.inr ⟨p5 l.length a,b,A,B,by unfold od;rw[c],by rw[z],aR.low (e.trans f).size p⟩,(e.trans f).trans q⟩
def ak6(v:B_)(l:C_ Int)(x:Int)(w:A_)(h:cH w v l)(j:l.length<=100000) :
  EG F.aU #[v,.I x] w λd k=>((l8 l x=none/\d = .tuple #[.slice none 0 0,.bool false])\/(∃a m e,l8 l x=some a/\d = .tuple #[.slice m a.length e,.bool true]/\fe w.heap.size k (.slice m a.length e) a))/\Ext w k:=by
 obtain⟨L,M,rfl,N⟩:=h.form;refine bm E.aU ?_;refine aa ?_;refine J_ (aab _ l w h j) ?_;rintro _ n ⟨rfl,b⟩;by_cases c:iV l=true;rotate_left
 .have y:iV l=false:=by simpa using c
  rw[y];refine aa ?_;exact⟨.inl ⟨by unfold l8;rw[if_neg (λf=>c f.1)],aZ⟩,b⟩
 rw[c];obtain⟨p,O,P,Q⟩:=zU.1 c;obtain⟨S,rfl⟩:=h.addr p;have z:=h.ext Flat.ext b;have q:l.headD 0=l[0]:=by cases l with | nil=>simp at p | cons U a=>rfl
 refine aa ?_;apply I_<;>intro V
 .refine aa ?_;exact⟨.inl ⟨by unfold l8;rw[if_neg (λf=>f.2 (by rw[q];omega))],aZ⟩,b⟩
 refine aa ?_;refine J_ (aac _ l n z j) ?_;rintro d W ⟨g,r⟩;obtain⟨X,Y,rfl,_⟩:=(gT g).form;have Z:=Ma l;refine aa ?_;intro ab ae af i A;refine aa ?_;refine T_ (y:=x) (g.ext i) A rfl (λ_=>rfl) je AW (by unfold maxLen;omega) (by have:=r.size;have:=i.size;omega) λag e ah s B C=>?_;have t:Ext n s:=(r.trans i).grown C λG H=>(g.lt G H).1;refine aa ?_;refine J_ (aaa l.length _ _ s (gT B) AW) ?_;rintro d ai ⟨u,I⟩;obtain⟨J,K,rfl,_⟩:=(gT u).form;refine aa ?_;exact⟨.inr ⟨_,J,K,by unfold l8;rw[if_pos ⟨c,by rw[q];omega⟩],rfl,aR.low (b.trans t).size u⟩,(b.trans t).trans I⟩
def qo(w:A_)(b:Nat)(m:o.Model):Prop := ∃a,w.heap[b]? = some (.cells a.toArray T.fz)/\nR w a m
theorem qo.ext{w w':A_}{b:Nat}{m:o.Model}(a:Ext w w')(h:qo w b m):qo w' b m:=let ⟨c,d,e⟩:=h; ⟨c,a.obj d,e.ext a⟩
def ant(cs:C_ B_)(m:o.Model)(w:A_)(h:eu w cs m)(i:m.cS)(n:gZ w) :
  EG F.Kv #[.agg cs.toArray] w λp q=>((¬(o.check m).bN=0/\p = .tuple #[.pointer none,.bool false])\/((o.check m).bN=0/\∃j,p = .tuple #[.pointer (some ⟨j,0,none⟩),.bool true]/\w.heap.size<=j/\qo q j m))/\Ext w q:=by
 have a:=h;obtain⟨O,P,Q,bg,S,bj,U,V,W,X,rfl,_⟩:=h.form;refine bm E.Kv ?_;refine aa ?_;intro G Y Z k c;refine aa ?_;refine J_ (NS _ m G (a.ext k) i (n.ext k)) ?_;rintro _ ab ⟨rfl,r⟩;replace c:=r.obj c;have s:=k.trans r;refine aa ?_;refine _d (v:=.I (o.check m).bN) rfl ?_;refine aa ?_;refine I_ (λb=>?_) (λb=>?_);rotate_left
 .refine aa ?_;exact⟨.inl ⟨b,aZ⟩,s⟩
 have H:lyz m=o.layout m:=Mo b;refine aa ?_;intro I t;replace c:=t.obj c;have l:=s.trans t;refine aa ?_;refine J_ (T4 _ m I (a.ext l) i (n.ext l)) ?_;rintro _ J ⟨⟨ys,rfl,u⟩,d⟩;rw[H] at u;have v:=l.trans d;refine⟨d,?_⟩;refine aa ?_;refine J_ (L6 _ m J (a.ext v) i) ?_;rintro ae K ⟨L,e⟩;have x:=v.trans e;refine⟨d.trans e,?_⟩;refine aa ?_;refine J_ (agL _ m K (a.ext x) (g6 b).HG) ?_;rintro af ag ⟨y,f⟩;have z:=x.trans f;refine⟨(d.trans e).trans f,?_⟩;have A:=L.ext f;have B:=u.here.ext (e.trans f);obtain⟨ah,ai,aj,ak,al,an,ao,aq,ar,au,rfl,_⟩:=B.form;obtain⟨av,aw,rfl,_⟩:=(aR.kF (enc:=c7.enc) (λ_=>rfl) A).form;obtain⟨ax,az,rfl,_⟩:=(aR.kF (enc:=o.Ref.enc) (λ_=>rfl) y).form;refine aa ?_;intro aA M aB g N;have C:=z.trans g;refine aa ?_;exact⟨.inr ⟨b,M,aZ,by have:=z.size;omega,_,N,_,_,_,_,rfl,a.ext C,B.ext g,(aR.kF (enc:=c7.enc) (λ_=>rfl) (A.ext g)),(aR.kF (enc:=o.Ref.enc) (λ_=>rfl) (y.ext g))⟩,C⟩
def Ra(b:Nat)(m:o.Model)(ref:Int)(q p k:Nat)(w:A_)(h:qo w b m)(a:gi m ref q p k) :
  EG F.l #[.pointer (some ⟨b,0,none⟩),.I ref] w λM N=>(∃f g v x,M = .agg ((cR m p k).enc (.slice f (cR m p k).guard.length g) (.slice v (cR m p k).b6.length x)).toArray/\fH w (.slice f (cR m p k).guard.length g) (cR m p k).guard/\oq w (.slice v (cR m p k).b6.length x) (cR m p k).b6)/\Ext w N:=by
 obtain⟨Y,d,h⟩:=h;obtain⟨Z,ab,ae,af,ag,ah,ai,aj,ak,al,an,ao,aq,bg,ar,bj,au,av,aw,ax,az,aA,aB,aC,rfl,_,_,_,_,_,_,_,_,_,_,y,z,A⟩:=h.form;have aD:=a.at_.ab;have l:=a.at_.aC;have B:=a.at_.J;have O:=a.at_.ip;obtain⟨i,rfl⟩:=T7 a.aQ;have aE:i<(o.refs m).length:=a.ab;have P:(o.refs m)[i].inst=(q:Int):=a.at_.rS;have Q:(o.refs m)[i].cmd=(k:Int):=a.at_.sO;obtain⟨aF,rfl⟩:=A.addr;obtain⟨aG,rfl⟩:=z.addr;obtain⟨aH,rfl⟩:=y.addr;obtain⟨aI,aJ,dI,C,aK,n⟩:=y.at p l;obtain⟨aM,aP,rfl,aQ⟩:=n.form;obtain⟨aS,rfl⟩:=n.addr;obtain⟨aT,aU,aW,G,H,I⟩:=n.at k B;obtain⟨f,g,rfl,_⟩:=H.form;obtain⟨S,U,rfl,_⟩:=I.form;unfold ee.enc at C;unfold et.enc at G;refine bm E.l ?_;refine aa ?_;intro aX aY a0 r e;replace d:=r.obj d;have V:=A.ext Flat.ext r;refine aa ?_;intro a2 a5 a6 s t;have W:(o.refs m)[i].enc=[.I q,.I k]:=by unfold o.Ref.enc;rw[P,Q]
 rw[W] at t;have a7:=ca e;replace e:=s.obj e;replace d:=s.obj d;have j:=r.trans s;have J:=z.ext Flat.ext j;have K:=C.ext j;have L:=G.ext j;clear V;refine aa ?_;intro a9 c;replace e:=c.obj e;replace t:=c.obj t;replace d:=c.obj d;replace J:=J.ext Flat.ext c;replace K:=K.ext c;replace L:=L.ext c;refine aa ?_;refine M_ p (by rw[O]) l ?_;refine aa ?_;intro ba X bb;refine aa ?_;have u:=C9 l B;exact⟨⟨f,g,S,U,by rw[u];rfl,by rw[u];exact H,by rw[u];exact I⟩,X.ext (j.trans c) AW⟩
def Q9(b:Nat)(m:o.Model)(c:Nat)(w:A_)(h:qo w b m)(d:gm m)(a:c<m.ay.length) :
  EG F.Gh #[.pointer (some ⟨b,0,none⟩),.I c] w λf g=>f = .tuple #[.I (bT m c),.I (bT m c+(1+gq m c):Nat)]/\Ext w g:=by
 obtain⟨l,n,h⟩:=h;obtain⟨p,q,r,s,t,u,v,x,y,z,A,B,C,bg,G,bj,H,I,J,K,L,M,N,O,rfl,_,_,P,i,Q,S,U,V,W,e,X,Y,Z⟩:=h.form;obtain⟨ab,j⟩:=AP a;have ae:=(d.chan _ (ID a)).cap;have af:=o4 a;have ag:=mn a;have ah:cG m<=64:=iq d;obtain⟨ai,rfl⟩:=i.addr;obtain⟨aj,rfl⟩:=e.addr;have ak:=(e.at c a).cells;refine bm E.Gh ?_;refine aa ?_;intro al k;refine aa ?_;refine⟨?_,k⟩;rw[j,show(((bT m c+(1+gq m c):Nat)):Int)=(bT m c:Int)+1+m.ay[c].cap from AW]
end Go.Proofs.R