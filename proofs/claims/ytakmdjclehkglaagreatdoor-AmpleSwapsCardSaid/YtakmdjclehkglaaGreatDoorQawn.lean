/- Parts. -/
import Derived.Test.YtakmdjclehkglaaGreatDoorQawm
import Derived.Laws.Bits64b
import Derived.Lib.AppendZerosOnto
set_option linter.all false
set_option maxRecDepth 4000
set_option maxHeartbeats 6400000
section
namespace o
open Go
def ja(l:C_ Int):Bool:=match l with
 | []=>false
 | n :: r=>decide (0<=n/\n<=r.length)&&(r.drop n.toNat).all (fun x=>decide (x=0))
def jb(l:C_ Int):C_ Int:=if ja l then (l.drop 1).take (l.headD 0).toNat else []
def rA(k:Nat)(l:C_ Int):C_ Int:=(l.length:Int) :: (List.range (k - 1)).map fun i=>l.getD i 0
def mu(l:C_ Int)(v:Int):H_ (C_ Int):=if ja l=true/\l.headD 0≠(l.length:Int) - 1 then some (rA l.length (jb l++[v])) else none
def o8(l:C_ Int):H_ (C_ Int×Int):=match jb l with
 | []=>none
 | x :: r=>some (rA l.length r,x)
theorem RV{k:Nat}(h:1<=k)(l:C_ Int):(rA k l).length=k:=by simp[rA];omega
theorem aaN{l:C_ Int}(h:ja l=true):1<=l.length:=by
 cases l with
 | nil=>cases h
 | cons n r=>simp
theorem F0{l r:C_ Int}{v:Int}(h:mu l v=some r):r.length=l.length:=by
 unfold mu at h;split at h
 .rename_i h1;injection h with h
  rw[<-h,RV (aaN h1.1)]
 .cases h
theorem Gp{l r:C_ Int}{v:Int}(h:o8 l=some (r,v)):r.length=l.length:=by
 unfold o8 at h;split at h
 .cases h
 .rename_i x q ao;injection h with h
  injection h with h1 I
  have:ja l=true:=Classical.byContradiction fun ax=>by
   unfold jb at ao;rw[if_neg ax] at ao;cases ao
  rw[<-h1,RV (aaN this)]
def chanOf(m:Model)(s:C_ Int)(c:Nat):C_ Int:=(s.drop (b6 m c)).take (1+fH m c)
def hi(s:C_ Int)(a:Nat)(l:C_ Int):C_ Int:=s.take a++l++s.drop (a+l.length)
def DH(m:Model)(c:Nat):Int×Int:=match (bU m)[c]? with
 | some x=>(x.aQ,x.U)
 | none=>(0,-1)
def putAt(m:Model)(s:C_ Int)(c:Nat)(n:Int):H_ (C_ Int):=if n<(DH m c).1\/(DH m c).2<n then none else some (s.set c n)
def vH(m:Model)(c:Nat):dN:=match m.ar[c]? with
 | some x=>eS x.scalar x.aQ x.U m.scalars
 | none=>eS 0 0 0 m.scalars
def tX(m:Model)(s:C_ Int)(c:Nat)(n:Int):H_ (C_ Int) :=
 if n<(vH m c).aQ\/(vH m c).U<n then none else (mu (chanOf m s c) n).map (hi s (b6 m c))
def w2(m:Model)(s:C_ Int)(q:Nat)(a:Act):H_ (C_ Int):=match o8 (chanOf m s a.to.toNat) with
 | none=>none
 | some (rest,n)=>putAt m (hi s (b6 m a.to.toNat) rest) (da m q+1+a.loc.toNat) n
def uU(m:Model)(s:C_ Int)(a:Act)(k:Int×Int)(n:Int):H_ (C_ Int) :=
 if k.2≠0\/k.1<1\/(o4 m a.to.toNat:Int)<k.1 then none else putAt m s (gp m a.to.toNat+k.1.toNat - 1) n
def gC(m:Model)(s:C_ Int)(q:Nat)(a:Act):H_ (C_ Int) :=
 if a.kind=5 then w2 m s q a
 else if (eval a.value (cc m s q)).2≠0 then none
 else if a.kind=1 then putAt m s (gp m a.to.toNat) (eval a.value (cc m s q)).1
 else if a.kind=2 then uU m s a (eval a.index (cc m s q)) (eval a.value (cc m s q)).1
 else if a.kind=3 then putAt m s (da m q+1+a.to.toNat) (eval a.value (cc m s q)).1
 else tX m s a.to.toNat (eval a.value (cc m s q)).1
def h6(m:Model)(q:Nat):C_ Act->C_ Int->H_ (C_ Int)
 | [],s=>some s
 | a :: r,s=>match gC m s q a with
  | none=>none
  | some t=>h6 m q r t
def fA(m:Model)(s:C_ Int)(q:Nat)(c:dr):H_ (C_ Int) :=
 if s[da m q]? ≠ some c.from_ then none
 else if 0<c.guard.length/\((eval c.guard (cc m s q)).2≠0\/(eval c.guard (cc m s q)).1=0) then none
 else (h6 m q c.bE s).map fun t=>t.set (da m q) c.to
theorem V7(m:Model)(q:Nat)(a:Act):∀(l:C_ Act) (s:C_ Int),h6 m q (l++[a]) s=match h6 m q l s with | none=>none | some t=>gC m t q a
 | [],s=>by
  simp only[List.nil_append,h6];cases gC m s q a<;>rfl
 | x :: l,s=>by
  simp only[List.cons_append,h6];cases gC m s q x with
  | none=>rfl
  | some t=>exact V7 m q a l t
theorem uT{s:C_ Int}{a:Nat}{l:C_ Int}(h:a+l.length<=s.length):(hi s a l).length=s.length:=by
 simp[hi];omega
theorem sl{s:C_ Int}{a:Nat}{l:C_ Int}(h:a+l.length<=s.length)(x:Nat):(hi s a l)[x]? = if a<=x/\x<a+l.length then l[x - a]? else s[x]? := by
 unfold hi;have aA:(s.take a).length=a:=by simp;omega
 by_cases h1:x<a
 .rw[if_neg Aw,List.getElem?_append_left (by rw[Lk];omega),List.getElem?_append_left Aw,List.getElem?_take,if_pos h1]
 .by_cases I:x<a+l.length
  .rw[if_pos ⟨Aw,I⟩,List.getElem?_append_left (by rw[Lk];omega),List.getElem?_append_right Aw,aA]
  .rw[if_neg Aw,List.getElem?_append_right (by rw[Lk];omega),List.getElem?_drop,Lk,aA];congr 1;omega
theorem n0{m:Model}{s:C_ Int}{c:Nat}(h:b6 m c+(1+fH m c)<=s.length):(chanOf m s c).length=1+fH m c:=by
 simp[chanOf];omega
theorem FY{m:Model}{s t:C_ Int}{c:Nat}{n:Int}(h:putAt m s c n=some t):t=s.set c n:=by
 unfold putAt at h;split at h
 .cases h
 .injection h with h
  exact h.symm
def eH(s t:C_ Int)(l:C_ Int):Prop:=t.length=s.length/\∀c:Nat,t[c]? ≠ s[c]? -> (c:Int)∈l
theorem eH.refl(s l:C_ Int):eH s s l:=⟨rfl,fun _ h=>absurd rfl h⟩
theorem eH.trans{s t u l:C_ Int}(h:eH s t l)(k:eH t u l):eH s u l:=⟨k.1.trans h.1,fun c ai=>by
 by_cases e:u[c]? = t[c]?
 .exact h.2 c (by rw[<-e];exact ai)
 .exact k.2 c e⟩
theorem eH.mono{s t l r:C_ Int}(h:eH s t l)(ak:∀x∈l,x∈r):eH s t r:=⟨h.1,fun c ai=>ak _ (h.2 c ai)⟩
theorem eH.set(s:C_ Int)(a:Nat)(n:Int):eH s (s.set a n) (gB a 1):=⟨AE8 ..,fun c ai=>by
 rw[CH,AG4];apply Classical.byContradiction;intro ax;exact ai (List.getElem?_set_ne Aw)⟩
theorem eH.Ft{s l:C_ Int}{a:Nat}(h:a+l.length<=s.length):eH s (hi s a l) (gB a l.length):=⟨uT h,fun c ai=>by
 rw[sl h] at ai;apply Classical.byContradiction;intro ax;rw[sB] at ax;exact ai (if_neg Aw)⟩
theorem arw{m:Model}{s t:C_ Int}{c:Nat}{n:Int}(ai:b6 m c+(1+fH m c)<=s.length)(h:tX m s c n=some t):eH s t (vJ m c):=by
 unfold tX at h;split at h
 .cases h
 .cases aq:mu (chanOf m s c) n with
  | none=>rw[aq] at h;cases h
  | some r =>
   rw[aq] at h;have az:=F0 aq;rw[n0 ai] at az;have e:hi s (b6 m c) r=t:=by injection h
   rw[<-e];unfold vJ;rw[<-az];exact eH.Ft Aw
theorem aqr{m:Model}{s t:C_ Int}{q:Nat}{a:Act}(ai:b6 m a.to.toNat+(1+fH m a.to.toNat)<=s.length)(h:w2 m s q a=some t):eH s t (vJ m a.to.toNat++gB (da m q+1+a.loc.toNat) 1):=by
 unfold w2 at h;cases aq:o8 (chanOf m s a.to.toNat) with
 | none=>rw[aq] at h;cases h
 | some F8 =>
  obtain⟨r,n⟩:=F8;rw[aq] at h;have az:=Gp aq;rw[n0 ai] at az;have e:=FY h;rw[e];refine eH.trans (t:=hi s (b6 m a.to.toNat) r) ?_ ((eH.set _ _ _).mono fun x af=>AF5 _ af)
  have:=eH.Ft (s:=s) (a:=b6 m a.to.toNat) (l:=r) Aw
  rw[az] at this;exact this.mono fun x af=>AG3 _ af
theorem arv{m:Model}{s:C_ Int}{q:Nat}{a:Act}(h:sD a=true):eval a.index (cc m s q)=((cc m s q).self,0):=by
 unfold sD at h;split at h
 .rename_i x af;rw[af];have aY:x.op=5:=by simpa using h
  have ax:fe x.op=0:=by rw[aY];decide
  have av:ha (cc m s q) x []=((cc m s q).self,0):=by
   unfold ha;rw[aY];simp[gJ,gw,aY]
  unfold eval lh eP;simp only[List.length_singleton,stepG,ax,av];simp[eP]
 .cases h
theorem V6{m:Model}{s t:C_ Int}{q:Nat}{a:Act}(ao:q<(insts m).length)(ai:(a.kind=4\/a.kind=5)->b6 m a.to.toNat+(1+fH m a.to.toNat)<=s.length)(hk:1<=a.kind/\a.kind<=5)(h:gC m s q a=some t):eH s t (mf m q a):=by
 unfold gC at h;unfold mf;by_cases aY:a.kind=5
 .rw[if_pos aY] at h;rw[if_neg Aw,if_neg Aw,if_neg Aw,if_neg Aw,if_pos aY];exact aqr (ai (.inr aY)) h
 rw[if_neg aY] at h;by_cases he:(eval a.value (cc m s q)).2≠0
 .rw[if_pos he] at h;cases h
 rw[if_neg he] at h;by_cases h1:a.kind=1
 .rw[if_pos h1] at h ⊢;rw[FY h];exact eH.set _ _ _
 rw[if_neg h1] at h ⊢;by_cases I:a.kind=2
 .rw[if_pos I] at h ⊢;unfold uU at h;split at h
  .cases h
  .rename_i ax;rw[FY h];refine(eH.set _ _ _).mono fun x af=>?_;rw[CH,AG4] at af;subst af;unfold qB;by_cases ak:sD a=true
   .rw[if_pos ak,CH,AG4,DV ao];have tw:(cc m s q).self=(insts m)[q].elem:=(xa s ao rfl).2
    have:=arv (m:=m) (s:=s) (q:=q) (a:=a) ak
    rw[this];simp only[tw]
   .rw[if_neg ak,sB];omega
 rw[if_neg I] at h ⊢;by_cases ab:a.kind=3
 .rw[if_pos ab] at h ⊢;rw[FY h];exact eH.set _ _ _
 rw[if_neg ab] at h ⊢;rw[if_pos Aw];exact arw (ai Aw) h
theorem jD.set{s t l:C_ Int}(h:jD s t l)(az:s.length=t.length)(a:Nat)(n:Int):jD (s.set a n) (t.set a n) l:=fun x af=>by
 rw[List.getElem?_set,List.getElem?_set,az,h x af]
theorem jD.Ft{s t l r:C_ Int}(h:jD s t l){a:Nat}(h1:a+r.length<=s.length)(I:a+r.length<=t.length):jD (hi s a r) (hi t a r) l:=fun x af=>by
 rw[sl h1,sl I,h x af]
theorem WR{m:Model}{s t:C_ Int}{c:Nat}(h:jD s t (vJ m c)):chanOf m s c=chanOf m t c:=LR fun _ hk=>h.row hk
def C7(l:C_ Int)(ae p:H_ (C_ Int)):Prop:=match ae,p with
 | none,none=>True
 | some s,some t=>jD s t l/\s.length=t.length
 | _,_=>False
theorem Ly{m:Model}{s t l:C_ Int}(h:jD s t l)(az:s.length=t.length)(c:Nat)(n:Int):C7 l (putAt m s c n) (putAt m t c n):=by
 unfold putAt;split
 .exact trivial
 .exact⟨h.set az c n,by rw[AE8,AE8,az]⟩
theorem ae3{m:Model}{s t l:C_ Int}{ga:Scope}{q p:Nat}{a:Act}(aD:ga.vars=m.vars)(aU:l8 ga a)(ao:fo m q p)(pJ:(m.procs[p]'(ao.aq)).over≠0\/ga.self=0)
  (h:jD s t l)(az:s.length=t.length)(aG:∀x∈qW m q a,x∈l)(hw:∀x∈mf m q a,x∈l)(ai:(a.kind=4\/a.kind=5)->b6 m a.to.toNat+(1+fH m a.to.toNat)<=s.length):C7 l (gC m s q a) (gC m t q a):=by
 unfold gC;by_cases aY:a.kind=5
 .rw[if_pos aY,if_pos aY];unfold qW at aG;rw[if_pos aY] at aG;unfold w2;rw[WR (h.sub aG)];cases aq:o8 (chanOf m t a.to.toNat) with
  | none=>exact trivial
  | some F8 =>
   obtain⟨r,n⟩:=F8;have wu:=Gp aq;have fR:=ai (.inr aY);rw[n0 Aw] at wu;exact Ly (h.Ft Aw Aw) (by rw[uT Aw,uT Aw,az]) _ _
 rw[if_neg aY,if_neg aY];unfold qW at aG;rw[if_neg aY] at aG;rw[Oz aD (aU.val aY) ao pJ (h.sub fun x af=>aG x (AF5 _ af))];split
 .exact trivial
 by_cases h1:a.kind=1
 .rw[if_pos h1,if_pos h1];exact Ly h az _ _
 rw[if_neg h1,if_neg h1];by_cases I:a.kind=2
 .rw[if_pos I,if_pos I];rw[if_pos I] at aG;rw[Oz aD (aU.item I).2.2 ao pJ (h.sub fun x af=>aG x (AG3 _ af))];unfold uU;split
  .exact trivial
  .exact Ly h az _ _
 rw[if_neg I,if_neg I];by_cases ab:a.kind=3
 .rw[if_pos ab,if_pos ab];exact Ly h az _ _
 rw[if_neg ab,if_neg ab];have aE:a.kind=4:=by have:=aU.kind;omega
 unfold mf at hw;rw[if_neg h1,if_neg I,if_neg ab,if_pos aE] at hw;unfold tX;split
 .exact trivial
 .rw[WR (h.sub hw)];cases aq:mu (chanOf m t a.to.toNat) (eval a.value (cc m t q)).1 with
  | none=>exact trivial
  | some r =>
   have wu:=F0 aq;have fR:=ai (.inl aE);rw[n0 Aw] at wu;exact⟨h.Ft Aw Aw,by rw[uT Aw,uT Aw,az]⟩
theorem kX{m:Model}{c:Nat}(h:c<m.ar.length):b6 m c+(1+fH m c)<=c6 m:=by
 have:=vF h
 rw[oN h]
 have:=mL m
 omega
theorem Wd{m:Model}{ga:Scope}{q:Nat}(ao:q<(insts m).length)(qk:ga.ar=m.ar):∀(l:C_ Act) (s t:C_ Int),(∀a∈l,l8 ga a)->s.length=c6 m->h6 m q l s=some t->eH s t (l.flatMap (mf m q))
 | [],s,t,_,_,h=>by
  injection h with h
  rw[<-h];exact eH.refl _ _
 | a :: l,s,t,aU,ak,h=>by
  simp only[h6] at h;cases h1:gC m s q a with
  | none=>rw[h1] at h;cases h
  | some u =>
   rw[h1] at h;have I:=V6 ao (fun hk=>by rw[ak];exact kX (by have:=((aU a (AG2 ..)).chan hk).2;rwa[qk] at this)) (aU a (AG2 ..)).kind h1;have ab:=Wd ao qk l u t (fun b an=>aU b (AH6 _ an)) (I.1.trans ak) h;rw[AH5];exact(I.mono fun x af=>AG3 _ af).trans (ab.mono fun x af=>AF5 _ af)
theorem Dv{ga:Scope}{c:dr}(h:vn ga c):∀a∈c.bE,l8 ga a:=fun a aU=>by
 obtain⟨k,hk,rfl⟩:=List.mem_iff_getElem.1 aU;exact h.act k hk
theorem DQ{m:Model}{ga:Scope}{q:Nat}{c:dr}{s t:C_ Int}(ao:q<(insts m).length)(qk:ga.ar=m.ar)(ai:vn ga c)(ak:s.length=c6 m)(h:fA m s q c=some t):eH s t (l6 m q c c.bE.length):=by
 unfold fA at h;split at h
 .cases h
 split at h
 .cases h
 cases h1:h6 m q c.bE s with
 | none=>rw[h1] at h;cases h
 | some u =>
  rw[h1] at h;have e:u.set (da m q) c.to=t:=by injection h
  rw[<-e];unfold l6;rw[AF1];exact((Wd ao qk _ s u (Dv ai) ak h1).mono fun x af=>AF5 _ af).trans ((eH.set _ _ _).mono fun x af=>AG3 _ af)
theorem Wc{m:Model}{l:C_ Int}{ga:Scope}{q p:Nat}(aD:ga.vars=m.vars)(qk:ga.ar=m.ar)(ao:fo m q p)(pJ:(m.procs[p]'(ao.aq)).over≠0\/ga.self=0) :
  ∀(mJ:C_ Act) (s t:C_ Int),(∀a∈mJ,l8 ga a)->jD s t l->s.length=t.length->s.length=c6 m->(∀x∈mJ.flatMap (qW m q),x∈l)->(∀x∈mJ.flatMap (mf m q),x∈l)->C7 l (h6 m q mJ s) (h6 m q mJ t)
 | [],s,t,_,h,az,_,_,_=>⟨h,az⟩
 | a :: mJ,s,t,aU,h,az,ak,aG,hw=>by
  have Pj:=aU a (AG2 ..);have fR:(a.kind=4\/a.kind=5)->b6 m a.to.toNat+(1+fH m a.to.toNat)<=s.length:=fun hk=>by rw[ak];exact kX (by have:=(Pj.chan hk).2;rwa[qk] at this)
  have h1:=ae3 aD Pj ao pJ h az (fun x af=>aG x (List.mem_flatMap.2 ⟨a,AG2 ..,af⟩)) (fun x af=>hw x (List.mem_flatMap.2 ⟨a,AG2 ..,af⟩)) fR;simp only[h6];cases e1:gC m s q a with
  | none =>
   rw[e1] at h1;cases e2:gC m t q a with
   | none=>exact trivial
   | some u=>rw[e2] at h1;exact h1.elim
  | some u =>
   rw[e1] at h1;cases e2:gC m t q a with
   | none=>rw[e2] at h1;exact h1.elim
   | some r =>
    rw[e2] at h1;have hu:=(V6 ao.ao fR Pj.kind e1).1;exact Wc aD qk ao pJ mJ u r (fun b an=>aU b (AH6 _ an)) h1.1 h1.2 (hu.trans ak) (fun x af=>aG x (by rw[AH5];exact AF5 _ af)) (fun x af=>hw x (by rw[AH5];exact AF5 _ af))
theorem agN{m:Model}{l:C_ Int}{ga:Scope}{q p:Nat}{c:dr}{s t:C_ Int}(aD:ga.vars=m.vars)(qk:ga.ar=m.ar)(ao:fo m q p)(pJ:(m.procs[p]'(ao.aq)).over≠0\/ga.self=0)(ai:vn ga c)
  (h:jD s t l)(az:s.length=t.length)(ak:s.length=c6 m)(aG:∀x∈ow m q c c.bE.length,x∈l)(hw:∀x∈l6 m q c c.bE.length,x∈l):C7 l (fA m s q c) (fA m t q c):=by
 unfold ow D9 at aG;unfold l6 at hw;rw[AF1] at aG hw;have ad:s[da m q]? = t[da m q]? := (h.sub fun x af=>aG x (AG3 _ (AG3 _ af))).one;unfold fA;rw[ad,Oz aD ai.guard ao pJ (h.sub fun x af=>aG x (AG3 _ (AF5 _ af)))];split
 .exact trivial
 split
 .exact trivial
 have h1:=Wc aD qk ao pJ c.bE s t (Dv ai) h az ak (fun x af=>aG x (AF5 _ af)) (fun x af=>hw x (AF5 _ af));cases e1:h6 m q c.bE s with
 | none =>
  rw[e1] at h1;cases e2:h6 m q c.bE t with
  | none=>exact trivial
  | some u=>rw[e2] at h1;exact h1.elim
 | some u =>
  rw[e1] at h1;cases e2:h6 m q c.bE t with
  | none=>rw[e2] at h1;exact h1.elim
  | some r =>
   rw[e2] at h1;exact⟨h1.1.set h1.2 _ _,by rw[AE8,AE8,h1.2]⟩
theorem abe{s w:Int}:∀{l:C_ dN} {k:Nat} {x:Cell},x∈fB s w l k->∃b∈l,x.aQ=b.aQ/\x.U=b.U
 | [],_,_,h=>by cases h
 | b :: l,k,x,h=>by
  rcases List.mem_cons.1 h with rfl | h
  .exact⟨b,Bh,rfl,rfl⟩
  .obtain⟨fG,h1,I⟩:=abe h;exact⟨fG,by simp[h1],I⟩
theorem Hr{s:Int}:∀{ls:C_ (C_ dN)} {i:Nat} {x:Cell},x∈cellsOf s ls i->∃l∈ls,∃b∈l,x.aQ=b.aQ/\x.U=b.U
 | [],_,_,h=>by cases h
 | l :: r,i,x,h=>by
  rcases List.mem_append.1 h with h | h
  .obtain⟨b,h1,I⟩:=abe h;exact⟨l,Bh,b,h1,I⟩
  .obtain⟨wN,h1,I⟩:=Hr h;exact⟨wN,by simp[h1],I⟩
def vm(aQ U:Int):Prop := -1048576<=aQ/\aQ<=U/\U<=1048576
theorem NF{ga aQ U:Int}{s:C_ Scalar}(h:ga=0->vm aQ U):vm (eS ga aQ U s).aQ (eS ga aQ U s).U:=by
 unfold eS;by_cases ad:ga=0
 .rw[if_pos ad];exact h ad
 .rw[if_neg ad]
  have:=size_le ga s
  unfold vm;simp only;omega
theorem abD{aQ U:Int}(h:narrow aQ U=true):vm aQ U:=by have:=abC h;unfold vm;omega
theorem agb{m:Model}(h:eD m):∀x∈bU m,vm x.aQ x.U:=fun x af=>by
 unfold bU at af;rcases List.mem_append.1 af with af | af
 .rcases List.mem_append.1 af with af | af
  .obtain⟨l,az,b,an,e1,e2⟩:=Hr af;obtain⟨v,aD,rfl⟩:=List.mem_map.1 az;rw[(List.mem_replicate.1 an).2] at e1 e2;rw[e1,e2];exact NF fun ad=>abD ((h.var v aD).Lm ad)
  .obtain⟨l,az,b,an,e1,e2⟩:=Hr af;obtain⟨c,ai,rfl⟩:=List.mem_map.1 az;rw[e1,e2];have c5:=h.chan c ai;have hS:=c5.cap;rcases List.mem_cons.1 an with rfl | an
   .unfold vm;simp only;omega
   .rw[(List.mem_replicate.1 an).2];exact NF fun ad=>by
     have:=abC (c5.Lm ad)
     unfold vm;omega
 .obtain⟨l,az,b,an,e1,e2⟩:=Hr af;obtain⟨AJ,uO,rfl⟩:=List.mem_map.1 az;rw[e1,e2];unfold l0 at an;split at an
  .rename_i p aq;have hm:p∈m.procs:=by
    unfold nth at aq;split at aq
    .exact List.mem_of_getElem? aq
    .cases aq
   have c5:=h.proc p hm;rcases List.mem_cons.1 an with rfl | an
   .have:=c5.b2;unfold vm;simp only;omega
   .obtain⟨v,aD,rfl⟩:=List.mem_map.1 an;exact NF fun ad=>abD ((c5.var v aD).Lm ad)
  .cases an
end o
end
section
namespace a7
open Go Go.RowKit
def ux(d:Nat):C_ B_:=[.int .u8 d]
theorem ahu(d:Nat):∀u∈ux d,u.oneCell'=true:=by simp[ux,Value.oneCell']
def NK(l:C_ Nat):C_ B_:=l.map fun(d:Nat)=>Value.int .u8 (d:Int)
theorem NL:∀l:C_ Nat,NK l=l.flatMap ux
 | []=>rfl
 | x :: r=>by
  have:=NL r
  simp only[NK,List.map_cons,List.flatMap_cons] at this ⊢;rw[this];rfl
theorem aiA(l:C_ Nat)(k x:Nat):(l.flatMap ux).set k (.int .u8 x)=(l.set k x).flatMap ux:=by
 rw[<-NL,<-NL];simp[NK,List.map_set]
theorem AE7{e:F_}{base:Nat}{w:A_}{l:C_ Nat}{a:Addr}{n c k x:Nat}{KW:A_->Prop}{t}(h:aP ux e 1 base w (.slice (some a) n c) l)(hk:k<l.length)
  (cN:∀w1,di a.block w w1->aP ux e 1 base w1 (.slice (some a) n c) (l.set k x)->KW w1):rS (.pointer (some (a.add (k*1)))) (.int .u8 (x:Nat)) w KW t:=by
 rcases h.2 with ⟨ax,ad⟩ | ⟨g,cap,cur,h1,I,ab,aE,aY,bz,b0⟩
 .cases ax
 .injection h1 with e1 e2 a1
  injection e1 with e1
  subst e1 a1;have b4:k<cur.size:=Aw
  have kE:Addr.add ⟨g,0,none⟩ (k*1)=⟨g,k,none⟩:=by rw[add_eq,AG8,AE9]
  have ai:w.cell? (Addr.add ⟨g,0,none⟩ (k*1))=some cur[k]:=fT ab (by rw[AG8];exact Array.getElem?_eq_getElem b4);rw[kE] at ai ⊢;have bk:w.ownsRow base e 1 (.slice (some ⟨g,0,none⟩) l.length c) l.length (l.flatMap ux):=by unfold aP at h;rw[e2] at h;exact h
  have ak:=World.ownsRow.stored bk k (.int .u8 (x:Nat));rw[aiA] at ak;refine _1 ai (by simp[World.frozen?,ab]) (by simp[Value.oneCell']) (cN _ (di.setCell w ⟨g,k,none⟩ _) ?_);unfold aP;rw[AE8,e2];exact ak.1
theorem _q{α:Type}{P:D_}{cK:B_->A_->Prop}{enc:α->C_ B_}{e:F_}{sz base:Nat}{w:A_}{s x:B_}{xs ys:C_ α}{R:A_->Addr->α->Prop}[oI R enc]{ty:F_}{b:Nat}{t}(ak:aP enc e sz base w s xs)(af:bg sz R w x ys)(dd:∀x,(enc x).length=sz)(h1:∀y,∀u∈enc y,u.oneCell'=true)
  (an:(xs.length+ys.length)*b<=140737488355328)(k3:xs.length+ys.length<=maxLen)(kp:base<=w.heap.size)(hk:∀bS w',aP enc e sz base w' bS (xs++ys)->w.grownBy w' s.ownBlock->cK bS w'):mB P ty e sz b s x w cK t:=by
 obtain⟨aO,cap,rfl,q5,I,ab,aE⟩:=af.ex;cases aO with
 | some a=>exact AB2 ak ⟨some a,cap,rfl,q5,I,ab,aE⟩ dd h1 an k3 kp hk
 | none =>
  have:ys=[]:=Classical.byContradiction fun ax=>by have:=ab ax;cases this
  subst this;rw[AF2] at hk;refine _n fun⟨aA,i,z,U,bw,Ck,BX,z7,JI⟩=>?_;refine⟨ty,s,w,?_,hk s w ak ⟨rfl,rfl,rfl,Gf _,fun _ _ _=>rfl⟩⟩;rcases ak.2 with ⟨rfl,ad⟩ | ⟨g,cap,cur,rfl,_,_,E1,_⟩
  .simp[Builtin.append_,run_underlying aA,Go.sizeOf,typeInfo,U,Builtin.lenOf,Builtin.firstCells]
  .simp[Builtin.append_,run_underlying aA,Go.sizeOf,typeInfo,U,Builtin.lenOf,Builtin.firstCells,E1,storeCells]
theorem OL:∀(l:C_ Int) (k:Nat) (x:Int),(l.flatMap cE).set k (.I x)=(l.set k x).flatMap cE
 | [],_,_=>rfl
 | y :: l,0,x=>rfl
 | y :: l,k+1,x=>by
  have:=OL l k x
  simp only[List.flatMap_cons,List.set_cons_succ];rw[<-this];rfl
theorem _z{e:F_}{base:Nat}{w:A_}{l:C_ Int}{a:Addr}{n c k:Nat}{x:Int}{KW:A_->Prop}{t}(h:aP cE e 1 base w (.slice (some a) n c) l)(hk:k<l.length)
  (cN:∀w1,di a.block w w1->aP cE e 1 base w1 (.slice (some a) n c) (l.set k x)->KW w1):rS (.pointer (some (a.add (k*1)))) (.I x) w KW t:=by
 rcases h.2 with ⟨ax,ad⟩ | ⟨g,cap,cur,h1,I,ab,aE,aY,bz,b0⟩
 .cases ax
 .injection h1 with e1 e2 a1
  injection e1 with e1
  subst e1 a1;have b4:k<cur.size:=Aw
  have kE:Addr.add ⟨g,0,none⟩ (k*1)=⟨g,k,none⟩:=by rw[add_eq,AG8,AE9]
  have ai:w.cell? (Addr.add ⟨g,0,none⟩ (k*1))=some cur[k]:=fT ab (by rw[AG8];exact Array.getElem?_eq_getElem b4);rw[kE] at ai ⊢;have bk:w.ownsRow base e 1 (.slice (some ⟨g,0,none⟩) l.length c) l.length (l.flatMap cE):=by unfold aP at h;rw[e2] at h;exact h
  have ak:=World.ownsRow.stored bk k (.I x);rw[OL] at ak;refine _1 ai (by simp[World.frozen?,ab]) (by simp[Value.oneCell']) (cN _ (di.setCell w ⟨g,k,none⟩ _) ?_);unfold aP;rw[AE8,e2];exact ak.1
end a7
namespace o
open Go
theorem yw{l:C_ Int}:ja l=true↔∃h:0<l.length,0<=l[0]/\l[0]<=(l.length:Int) - 1/\∀k (hk:k<l.length),l[0]+1<=k->l[k]=0:=by
 cases l with
 | nil=>simp[ja]
 | cons n r =>
  simp only[ja,Bool.and_eq_true,decide_eq_true_eq,List.all_eq_true];constructor
  .rintro⟨⟨ad,h1⟩,I⟩;refine⟨Bh,ad,by simp;omega,fun k hk az=>?_⟩;cases k with
   | zero=>simp at az;omega
   | succ k =>
    simp only[List.getElem_cons_zero,List.getElem_cons_succ] at az ⊢;refine I _ (List.mem_iff_getElem.2 ⟨k - n.toNat,by simp at hk ⊢;omega,?_⟩);rw[AJ7];congr 1;omega
  .rintro⟨_,ad,h1,I⟩;simp only[List.getElem_cons_zero,List.length_cons] at ad h1 I;refine⟨⟨ad,Aw⟩,fun x af=>?_⟩;obtain⟨k,hk,rfl⟩:=List.mem_iff_getElem.1 af;rw[AJ7]
   have:=I (n.toNat+k+1) (by simp at hk;omega) Aw
   simpa using this
theorem Rg{l:C_ Int}(h:ja l=true)(ad:0<l.length):jb l=(l.drop 1).take l[0].toNat:=by
 unfold jb;rw[if_pos h];cases l with
 | nil=>simp at ad
 | cons n r=>rfl
theorem am0{l:C_ Int}(h:ja l=true)(ad:0<l.length):(jb l).length=l[0].toNat:=by
 obtain⟨_,h1,I,_⟩:=yw.1 h;rw[Rg h ad,LQ,AF8];omega
theorem JS(l:C_ Int):(jb l).length<=l.length:=by
 unfold jb;split
 .rw[LQ,AF8];omega
 .simp
theorem aaP{l:C_ Int}(h:¬ja l=true):jb l=[]:=by unfold jb;rw[if_neg h]
theorem ab8(l:C_ Int)(k:Nat):((l.length:Int) :: (List.range (k+1)).map fun i=>l.getD i 0)=((l.length:Int) :: (List.range k).map fun i=>l.getD i 0)++[l.getD k 0]:=by
 rw[AH9,AF6];rfl
end o
namespace Go.Proofs.R
open Go Go.RowKit a7
abbrev iz(base:Nat)(w:A_)(v:B_)(l:C_ Int):Prop:=aP cE T.a 1 base w v l
theorem jz{base:Nat}{w:A_}{v:B_}{l:C_ Int}(h:iz base w v l):dc w v l:=aP.hA (enc:=cE) (fun _=>rfl) h
theorem acQ(v:B_)(l:C_ Int)(w:A_)(h:dc w v l) :
  Dz F.K5 #[v] w fun u w'=>u = .bool (o.ja l)/\Ext w w':=by
 obtain⟨ep,fp,rfl,fc⟩:=h.form;have no:(¬∃h:0<l.length,0<=l[0]/\l[0]<=(l.length:Int) - 1/\∀k (hk:k<l.length),l[0]+1<=k->l[k]=0)->o.ja l=false:=fun ax=>by
  cases ao:o.ja l with
  | false=>rfl
  | true=>exact absurd (o.yw.1 ao) ax
 refine bl E.K5 ?_;refine J ?_;apply I_<;>intro g1
 .refine J ?_;exact⟨by rw[no];rintro⟨ad,_⟩;omega,Ext.refl _⟩
 have ad:0<l.length:=Aw
 obtain⟨a,rfl⟩:=h.addr ad;refine J ?_;apply I_<;>intro g2
 .refine J ?_;exact⟨by rw[no];rintro⟨_,h1,_⟩;omega,Ext.refl _⟩
 refine J ?_;apply I_<;>intro g3
 .refine J ?_;exact⟨by rw[no];rintro⟨_,h1,I,_⟩;omega,Ext.refl _⟩
 refine J ?_;refine _P [0] (fun x:Int=>[(3,.I x)]) (l[0]+1) (fun x W=>W=w/\l[0]+1<=x/\x<=l.length/\∀k (hk:k<l.length),l[0]+1<=k->(k:Int)<x->l[k]=0) (fun x=>((l.length:Int) - x).toNat) a8 ⟨rfl,Aw,Aw,fun k hk a b=>Aw⟩ ?_;rintro x S w1 ⟨rfl,z6,af,du⟩;refine J ?_;apply I_<;>intro g4
 .refine J ?_;refine K_ x.toNat Aw Aw ?_;refine J ?_;apply I_<;>intro g5
  .refine J ?_;refine⟨x+1,a8,⟨aL,Aw,Aw,fun k hk a b=>?_⟩,Aw⟩;by_cases e:(k:Int)=x
   .have:k=x.toNat:=Aw
    subst this;exact g5
   .exact du k hk a Aw
  .refine J ?_;exact⟨by rw[no];rintro⟨_,_,_,ab⟩;exact g5 (ab _ Aw Aw),Ext.refl _⟩
 .refine J ?_;exact⟨by rw[o.yw.2 ⟨ad,Aw,Aw,fun k hk a=>du k hk a Aw⟩],Ext.refl _⟩
theorem acF{w:A_}(v:B_)(l:C_ Int)(c:Nat)(n x:Int)(h:dc w v l)(af:x=c)(ai:c<l.length)(az:l.length<=100000) :
  Dz F.Li #[v,.I x,.I n] w fun u w'=>iz w.heap.size w' u (l.set c n)/\Ext w w':=by
 subst af;obtain⟨ep,fp,rfl,fc⟩:=h.form;refine bl E.Li ?_;refine J ?_;intro w1 br cF ah al;have oY:iz w.heap.size w1 (.slice (some ⟨br,0,none⟩) 0 0) []:=aP.empty cF al;refine J ?_;refine _q oY (h.ext Flat.ext ah) (fun _=>rfl) lQ (by simp only[List.length_nil];omega) (by simp only[List.length_nil];unfold maxLen;omega) ah.size fun bS aB dj akW=>?_;rw[AF9] at dj;have e2:Ext w aB:=ah.grown akW fun k hk=>(oY.lt k hk).1;obtain⟨aO,fz,rfl,_⟩:=dj.form;obtain⟨a,rfl⟩:=(jz dj).addr;refine J ?_;refine _z dj ai fun aK fY dG=>?_;have an:=dj.lt a.block rfl;refine J ?_;exact⟨dG,fY.ext e2 an.1⟩
end Go.Proofs.R
end
section
namespace a7
open Go Go.RowKit
section
variable{S:Fr}{w:World}{ba:Value->Prop}
theorem _0{α:Type}{sz n cap:Nat}{R:A_->Addr->α->Prop}{aO:H_ Addr}{x:G_}{k:IntKind}{xs:C_ α}{t}(l:Nat)(ak:bg sz R w (.slice aO n cap) xs)(af:bn S x = .int k (l:Int))(az:l<=xs.length)
  (hk:∀ae c,bg sz R w (.slice ae (xs.length - l) c) (xs.drop l)->ba (.slice ae (xs.length - l) c)):sR S sz (.slice aO n cap) (some x) none none ba t:=by
 obtain⟨e1,e2,a1⟩:=ak.len;refine _B l n cap (by simp[et,af]) (by simp[et]) (by simp[et]) ⟨Aw,Aw,Gf _⟩ Bh ?_;have h:=ak.sub l n Aw Aw;rw[Lj (by rw[AF8];omega)] at h;rw[e1] at h ⊢;exact hk _ _ h
theorem AD3{α:Type}{sz n cap:Nat}{R:A_->Addr->α->Prop}{aO:H_ Addr}{y:G_}{k:IntKind}{xs:C_ α}{t}(u:Nat)(ak:bg sz R w (.slice aO n cap) xs)(bK:bn S y = .int k (u:Int))(hu:u<=xs.length)
  (hk:∀ae c,bg sz R w (.slice ae u c) (xs.take u)->ba (.slice ae u c)):sR S sz (.slice aO n cap) none (some y) none ba t:=by
 obtain⟨e1,e2,a1⟩:=ak.len;refine _B 0 u cap (by simp[et]) (by simp[et,bK]) (by simp[et]) ⟨Aw,Aw,Gf _⟩ Bh ?_;have h:=ak.sub 0 u Aw hu;exact hk _ _ h
end
end a7
namespace Go.Proofs.R
open Go Go.RowKit a7
theorem acS(v:B_)(l:C_ Int)(w:A_)(h:dc w v l)(az:l.length<=100000) :
  Dz F.K1 #[v] w fun u w'=>iz w.heap.size w' u (o.jb l)/\Ext w w':=by
 obtain⟨ep,fp,rfl,fc⟩:=h.form;refine bl E.K1 ?_;refine J ?_;refine J_ (acQ _ l w h) ?_;rintro _ w1 ⟨rfl,ah⟩;by_cases ao:o.ja l=true
 .rw[ao];obtain⟨ad,h1,I,ab⟩:=o.yw.1 ao;obtain⟨a,rfl⟩:=h.addr ad;have ff:=h.ext Flat.ext ah;refine J ?_;refine L_ 4 l[0].toNat [0] (fun v:gr=>[(3,.slice v.1 v.2.1 v.2.2)]) (none,0,0) (fun k v W=>Ext w1 W/\iz w1.heap.size W (.slice v.1 v.2.1 v.2.2) ((l.drop 1).take k)) a8 a8 ⟨Ext.refl _,aP.nil _ _ _ _ _⟩ ?_;clear ff;rintro k CZ S aB hk ⟨aj,dj⟩;have dX:=h.ext Flat.ext (ah.trans aj);refine J ?_;apply I_<;>intro g1
  .have cI:1+k<l.length:=Aw
   refine J ?_;intro aK bR e9 ag bh;have qv:((l.drop 1).take k).length<=100000:=by rw[LQ,AF8];omega
   refine J ?_;refine U_ (y:=l[1+k]) (dj.ext ag) bh rfl (fun _=>rfl) lQ Aw (by unfold maxLen;omega) (by have:=aj.size;have:=ag.size;omega) fun aO c d aR dz nA=>?_;refine J ?_;refine⟨Aw,aL,(aO,c,d),⟨rfl,trivial⟩,(aj.trans ag).grown nA fun i U=>(dj.lt i U).1,?_⟩;rw[AJ4,List.getElem?_drop,List.getElem?_eq_getElem cI];exact dz
  .have jw:k=l[0].toNat:=Aw
   subst jw;refine J ?_;exact⟨by rw[o.Rg ao ad];exact aP.low ah.size dj,ah.trans aj⟩
 .have zX:o.ja l=false:=by simpa using ao
  rw[zX];refine J ?_;exact⟨by rw[o.aaP ao];exact aP.nil _ _ _ _ _,ah⟩
theorem ac1(n:Nat)(v:B_)(l:C_ Int)(w:A_)(h:dc w v l)(ax:1<=n/\n<=100000) :
  Dz F.K4 #[.I n,v] w fun u w'=>iz w.heap.size w' u (o.rA n l)/\Ext w w':=by
 obtain⟨ep,fp,rfl,fc⟩:=h.form;refine bl E.K4 ?_;refine J ?_;intro w1 br cF ah al;have oY:iz w.heap.size w1 (.slice (some ⟨br,0,none⟩) 1 1) ((l.length:Int) :: (List.range 0).map fun i=>l.getD i 0):=aP.zd _ al cF rfl (fun _=>rfl) rfl (by show 1<=maxLen;unfold maxLen;decide);clear al;refine J ?_;refine L_ 6 (n - 1) [0,1] (fun v:gr=>[(5,.slice v.1 v.2.1 v.2.2)]) (some ⟨br,0,none⟩,1,1) (fun k v W=>Ext w W/\iz w.heap.size W (.slice v.1 v.2.1 v.2.2) ((l.length:Int) :: (List.range k).map fun i=>l.getD i 0)) a8 a8 ⟨ah,oY⟩ ?_;clear oY;rintro k CZ S aB hk ⟨aj,dj⟩;have dX:=h.ext Flat.ext aj;have qv:((l.length:Int) :: (List.range k).map fun i=>l.getD i 0).length=k+1:=Bh
 refine J ?_;apply I_<;>intro g1
 .refine J ?_;apply I_<;>intro g2
  .have cI:k<l.length:=Aw
   obtain⟨a,rfl⟩:=h.addr;refine J ?_;intro aK bR e9 ag bh;refine J ?_;refine U_ (y:=l[k]) (dj.ext ag) bh rfl (fun _=>rfl) lQ Aw (by unfold maxLen;omega) (by have:=aj.size;have:=ag.size;omega) fun aO c d aR dz nA=>?_;refine J ?_;refine⟨Aw,aL,(aO,c,d),⟨rfl,trivial⟩,(aj.trans ag).grown nA fun i U=>(dj.lt i U).1,?_⟩;rw[o.ab8,show l.getD k 0=l[k] from by simp[cI]];exact dz
  .refine J ?_;intro aK bR e9 ag bh;refine J ?_;refine U_ (y:=0) (dj.ext ag) bh rfl (fun _=>rfl) lQ Aw (by unfold maxLen;omega) (by have:=aj.size;have:=ag.size;omega) fun aO c d aR dz nA=>?_;refine J ?_;refine⟨Aw,aL,(aO,c,d),⟨rfl,trivial⟩,(aj.trans ag).grown nA fun i U=>(dj.lt i U).1,?_⟩;rw[o.ab8,show l.getD k 0=0 from by simp[List.getD,List.getElem?_eq_none (show l.length<=k by omega)]];exact dz
 .have jw:k=n - 1:=Aw
  subst jw;refine J ?_;exact⟨dj,aj⟩
theorem aqZ(v:B_)(l:C_ Int)(w:A_)(h:dc w v l)(az:l.length<=100000) :
  Dz F.K3 #[v] w fun u w'=>((o.o8 l=none/\u = .tuple #[.slice none 0 0,.I 0,.bool false])\/(∃r x ho,o.o8 l=some (r,x)/\u = .tuple #[ho,.I x,.bool true]/\iz w.heap.size w' ho r))/\Ext w w':=by
 obtain⟨ep,fp,rfl,fc⟩:=h.form;refine bl E.K3 ?_;refine J ?_;refine J_ (acS _ l w h az) ?_;rintro u w1 ⟨oY,ah⟩;have fI:=jz oY;obtain⟨b9,ci,rfl,_⟩:=fI.form;refine J ?_;apply I_<;>intro g1
 .have U:o.jb l=[]:=AG1 Aw;refine J ?_;exact⟨.inl ⟨by unfold o.o8;rw[U],aL⟩,ah⟩
 have kq:=o.JS l;obtain⟨x,r,U⟩:∃x r,o.jb l=x :: r:=by
  cases ai:o.jb l with
  | nil=>rw[ai] at g1;simp at g1
  | cons x r=>exact⟨x,r,rfl⟩
 obtain⟨h7,rfl⟩:=fI.addr;refine J ?_;intro aB aj;have IS:=fI.ext Flat.ext aj;have dX:=h.ext Flat.ext (ah.trans aj);refine J ?_;refine _0 (k:=.i64) 1 IS rfl Aw fun ae c aq=>?_;have ED:(o.jb l).drop 1=r:=by rw[U];rfl
 have z6:(o.jb l)[0]' Aw=x:=by simp[U]
 rw[ED] at aq;refine J ?_;refine K_ 0 rfl Aw ?_;refine J ?_;refine J_ (ac1 l.length _ r aB (by have:=aq.len.1;exact aq) Aw) ?_;rintro u aK ⟨dG,ag⟩;refine⟨ag,?_⟩;refine J ?_;refine⟨.inr ⟨o.rA l.length r,x,u,by unfold o.o8;rw[U],by rw[z6],aP.low (ah.trans aj).size dG⟩,(ah.trans aj).trans ag⟩
theorem aqY(v:B_)(l:C_ Int)(x:Int)(w:A_)(h:dc w v l)(az:l.length<=100000) :
  Dz F.K2 #[v,.I x] w fun u w'=>((o.mu l x=none/\u = .tuple #[.slice none 0 0,.bool false])\/(∃r ho,o.mu l x=some r/\u = .tuple #[ho,.bool true]/\iz w.heap.size w' ho r))/\Ext w w':=by
 obtain⟨ep,fp,rfl,fc⟩:=h.form;refine bl E.K2 ?_;refine J ?_;refine J_ (acQ _ l w h) ?_;rintro _ w1 ⟨rfl,ah⟩;by_cases ao:o.ja l=true;rotate_left
 .have zX:o.ja l=false:=by simpa using ao
  rw[zX];refine J ?_;exact⟨.inl ⟨by unfold o.mu;rw[if_neg (fun e=>ao e.1)],aL⟩,ah⟩
 rw[ao];obtain⟨ad,h1,I,ab⟩:=o.yw.1 ao;obtain⟨a,rfl⟩:=h.addr ad;have ff:=h.ext Flat.ext ah;have a6:l.headD 0=l[0]:=by cases l with | nil=>simp at ad | cons n r=>rfl
 refine J ?_;apply I_<;>intro g1
 .refine J ?_;exact⟨.inl ⟨by unfold o.mu;rw[if_neg (fun e=>e.2 (by rw[a6];omega))],aL⟩,ah⟩
 refine J ?_;refine J_ (acS _ l w1 ff az) ?_;rintro u aB ⟨dj,aj⟩;obtain⟨b9,ci,rfl,_⟩:=(jz dj).form;have kq:=o.JS l;refine J ?_;intro aK bR e9 ag bh;refine J ?_;refine U_ (y:=x) (dj.ext ag) bh rfl (fun _=>rfl) lQ Aw (by unfold maxLen;omega) (by have:=aj.size;have:=ag.size;omega) fun aO c d aR dz nA=>?_;have bC:Ext w1 aR:=(aj.trans ag).grown nA fun i U=>(dj.lt i U).1;refine J ?_;refine J_ (ac1 l.length _ _ aR (jz dz) Aw) ?_;rintro u bo ⟨dt,aF⟩;refine J ?_;exact⟨.inr ⟨_,_,by unfold o.mu;rw[if_pos ⟨ao,by rw[a6];omega⟩],rfl,aP.low (ah.trans bC).size dt⟩,(ah.trans bC).trans aF⟩
theorem Se(c:o.dr)(e6 dn:B_)(w:A_)(aU:o.lK w dn c.bE) :
  Dz F.KA #[.agg (c.enc e6 dn).toArray] w fun v w'=>v = .tuple #[.I (o.comm c.bE).1,.I (o.comm c.bE).2]/\Ext w w':=by
 obtain⟨aO,cap,rfl,hlen⟩:=aU.form;refine bl E.KA ?_;refine J ?_;intro w1 br cF ah al;unfold o.dr.enc at al;refine J ?_;refine L_ 4 c.bE.length [1] (fun _=>[]) () (fun k _ w'=>Ext w1 w'/\o.comm c.bE=o.comm (c.bE.drop k)) a8 a8 ⟨Ext.refl _,Bh⟩ ?_;have fR:=al;clear al;rintro k _ S aB hk ⟨ev,aX⟩;have al:=ev.obj fR;have aj:=ah.trans ev;refine J ?_;apply I_<;>intro g1
 .have aV:k<c.bE.length:=Aw
  obtain⟨a,rfl⟩:=aU.addr;obtain⟨bH,bV,gj,eM,qz⟩:=aU.at k aV;rw[o.WW aV] at aX;replace gj:=gj.ext aj;unfold o.Act.enc at gj;refine J ?_;apply I_<;>intro g2
  .refine J ?_;intro aK ag;refine J ?_;rw[aX,if_pos (by simp[o.hn,g2])];exact⟨aL,aj.trans ag⟩
  refine J ?_;apply I_<;>intro g3
  .refine J ?_;intro aK ag;refine J ?_;rw[aX,if_pos (by simp[o.hn,g3])];exact⟨aL,aj.trans ag⟩
  refine J ?_;rw[if_neg (by simp[o.hn,g2,g3])] at aX;exact⟨aV,aL,(),by trivial,ev,aX⟩
 .refine J ?_;rw[aX,AF0 Aw];exact⟨aL,aj⟩
theorem adh(c:o.dr)(e6 dn dL:B_)(l:C_ o.dg)(w:A_)(aU:o.lK w dn c.bE)(az:o.mC w dL l) :
  Dz F.KB #[.agg (c.enc e6 dn).toArray,dL] w fun v w'=>v = .I (o.ways c l)/\Ext w w':=by
 obtain⟨aO,cap,rfl,hlen⟩:=az.form;obtain⟨aoD,zg,rfl,EW⟩:=aU.form;refine bl E.KB ?_;refine J ?_;intro w1 br cF ah al;refine J ?_;refine J_ (Se c e6 _ w1 (aU.ext ah)) ?_;rintro _ aB ⟨rfl,aj⟩;have e2:=ah.trans aj;rw[o.ways];refine J ?_;apply I_<;>intro g1;rotate_left
 .refine J ?_;rw[if_neg g1];exact⟨aL,e2⟩
 rw[if_pos g1];refine J ?_;apply I_<;>intro g2;rotate_left
 .refine J ?_;rw[o.gI (.inl Aw)];exact⟨aL,e2⟩
 refine J ?_;apply I_<;>intro g3;rotate_left
 .refine J ?_;rw[o.gI (.inr Aw)];exact⟨aL,e2⟩
 rw[o.iv Aw Aw];obtain⟨a,rfl⟩:=az.addr;have U:(o.comm c.bE).2.toNat<l.length:=Aw
 have dT:=((az.at _ U).cells).ext e2;refine J ?_;refine K_ (o.comm c.bE).2.toNat Aw U ?_;refine J ?_;refine N_ (fun g4=>?_) (fun g4=>?_)
 .refine J ?_;rw[if_pos g4];exact⟨aL,e2⟩
 .refine J ?_;rw[if_neg (by simp[g4])];exact⟨aL,e2⟩
structure pq(w:World)(cs:List Value)(m:o.Model):Prop where
 ex:∃ms ys bH ho,cs=ms++ys++[bH,ho]/\o.dU w ms m/\o.ky w ys (o.layout m)/\kk w bH (o.insts m)/\sP w ho (o.refs m)
theorem pq.ext{w w':A_}{cs:C_ B_}{m:o.Model}(he:Ext w w')(h:pq w cs m):pq w' cs m :=
 let ⟨ms,ys,bH,ho,ad,h1,I,ab,aE⟩:=h.ex; ⟨ms,ys,bH,ho,ad,h1.ext he,I.ext he,ab.ext Flat.ext he,aE.ext Flat.ext he⟩
theorem pq.form{w:A_}{cs:C_ B_}{m:o.Model}(h:pq w cs m):∃eB d0 dB d1 ec d2 er d3 eN d4 bW bu bI c1 bO c2 bQ bp bZ bB b9 ci fm gd,
  cs=[.slice eB m.scalars.length d0,.slice dB m.vars.length d1,.slice ec m.ar.length d2,.slice er m.procs.length d3,.slice eN m.props.length d4,
   .slice bW (o.layout m).vars.length bu,.slice bI (o.layout m).ar.length c1,.slice bO (o.layout m).insts.length c2,.I (o.layout m).cells,.slice bQ (o.layout m).aQ.length bp,.slice bZ (o.layout m).U.length bB,.slice b9 (o.insts m).length ci,.slice fm (o.refs m).length gd] /\
  o.dU w [.slice eB m.scalars.length d0,.slice dB m.vars.length d1,.slice ec m.ar.length d2,.slice er m.procs.length d3,.slice eN m.props.length d4] m /\
  o.ky w [.slice bW (o.layout m).vars.length bu,.slice bI (o.layout m).ar.length c1,.slice bO (o.layout m).insts.length c2,.I (o.layout m).cells,.slice bQ (o.layout m).aQ.length bp,.slice bZ (o.layout m).U.length bB] (o.layout m) /\
  bg 1 (Flat cE) w (.slice bW (o.layout m).vars.length bu) (o.layout m).vars/\bg 1 (Flat cE) w (.slice bI (o.layout m).ar.length c1) (o.layout m).ar/\bg 1 (Flat cE) w (.slice bO (o.layout m).insts.length c2) (o.layout m).insts /\
  bg 1 (Flat cE) w (.slice bQ (o.layout m).aQ.length bp) (o.layout m).aQ/\bg 1 (Flat cE) w (.slice bZ (o.layout m).U.length bB) (o.layout m).U /\
  o.h5 w (.slice eB m.scalars.length d0) m.scalars/\o.hR w (.slice dB m.vars.length d1) m.vars/\o.mC w (.slice ec m.ar.length d2) m.ar/\o.qQ w (.slice er m.procs.length d3) m.procs /\
  kk w (.slice b9 (o.insts m).length ci) (o.insts m)/\sP w (.slice fm (o.refs m).length gd) (o.refs m):=by
 obtain⟨ms,ys,bH,ho,rfl,aS,cM,aX,bD⟩:=h.ex;have Ei:=aS;have aju:=cM;obtain⟨bW,bu,bI,c1,bO,c2,bQ,bp,bZ,bB,rfl,dV,dH,df,eO,fM⟩:=cM.form;obtain⟨eB,d0,dB,d1,ec,d2,er,d3,eN,d4,rfl,ad,h1,I,ab,aE,_⟩:=aS.form;obtain⟨b9,ci,rfl,_⟩:=aX.form;obtain⟨fm,gd,rfl,_⟩:=bD.form;exact⟨eB,d0,dB,d1,ec,d2,er,d3,eN,d4,bW,bu,bI,c1,bO,c2,bQ,bp,bZ,bB,b9,ci,fm,gd,rfl,Ei,aju,dV,dH,df,eO,fM,ad,h1,I,ab,aX,bD⟩
theorem ap9(cs ys:C_ B_)(m:o.Model)(w:A_)(h:o.dU w cs m)(aH:m.cA)(aS:o.eD m)(cM:o.ky w ys (o.layout m)) :
  Dz F.K6 #[.agg cs.toArray,.agg ys.toArray] w fun u w'=>(∃bH ho,u = .agg (cs++ys++[bH,ho]).toArray/\aP o.cR.enc T.d 2 w.heap.size w' bH (o.insts m)/\aP o.Ref.enc T.c 2 w.heap.size w' ho (o.refs m))/\Ext w w':=by
 have cX:=h;have r9:=cM;obtain⟨bW,bu,bI,c1,bO,c2,bQ,bp,bZ,bB,rfl,_⟩:=h.form;obtain⟨l7,d0,jW,d1,kQ,d2,pa,d3,oD,d4,rfl,_⟩:=cM.form;refine bl E.K6 ?_;refine J ?_;intro w1 bP db ah au;refine J ?_;intro aB bR e9 aj bh;replace au:=aj.obj au;refine J ?_;intro aK cx e3 ag bf;have z4:=cr bf;replace au:=ag.obj au;replace bh:=ag.obj bh;have a1:=(ah.trans aj).trans ag;have gq:=ah.size;have z2:=aj.size;refine J ?_;intro aR aw;have bC:=a1.trans aw;replace au:=aw.obj au;replace bh:=aw.obj bh;replace bf:=aw.obj bf;refine J ?_;refine J_ (F7 _ m aR (cX.ext bC) aH) ?_;rintro bH bo ⟨eM,aF⟩;obtain⟨b9,ci,rfl,_⟩:=eM.form;have bF:=bC.trans aF;refine⟨aF,?_⟩;refine J ?_;refine J_ (acK _ m bo (cX.ext bF) aH aS.lim) ?_;rintro ho bt ⟨iZ,aI⟩;obtain⟨fm,gd,rfl,_⟩:=iZ.form;have cg:=bF.trans aI;refine⟨aF.trans aI,?_⟩;replace bf:=(aF.trans aI).obj bf;refine J ?_;intro bG dy cf;have c8:Ext w bG:=dy.ext cg Aw;have aq6:=ag.size;have pR:=aw.size;have o7:=aF.size;refine J ?_;exact⟨⟨_,_,rfl,aP.low bC.size (aP.wr dy Aw (eM.ext aI)),aP.low bF.size (aP.wr dy Aw iZ)⟩,c8⟩
end Go.Proofs.R
end
section
namespace o
open Go
theorem Wt{m:Model}{c:Nat}(h:c<c6 m):∃bk:c<(bU m).length,DH m c=((bU m)[c].aQ,(bU m)[c].U):=by
 have bk:c<(bU m).length:=h;exact⟨bk,by unfold DH;rw[List.getElem?_eq_getElem bk]⟩
end o
namespace Go.Proofs.R
open Go Go.RowKit a7
def aek:C_ B_:=[.slice none 0 0,.slice none 0 0,.slice none 0 0,.slice none 0 0,.slice none 0 0,.slice none 0 0,.slice none 0 0,.slice none 0 0,.int .i64 0,.slice none 0 0,.slice none 0 0,.slice none 0 0,.slice none 0 0]
theorem acA(cs:C_ B_)(m:o.Model)(w:A_)(h:o.dU w cs m)(aH:m.cA) :
  Dz F.K9 #[.agg cs.toArray] w fun u w'=>((¬(o.check m).cC=0/\u = .tuple #[.agg aek.toArray,.bool false])\/((o.check m).cC=0/\∃zs,u = .tuple #[.agg zs.toArray,.bool true]/\pq w' zs m))/\Ext w w':=by
 have cX:=h;obtain⟨bW,bu,bI,c1,bO,c2,bQ,bp,bZ,bB,rfl,_⟩:=h.form;refine bl E.K9 ?_;refine J ?_;intro w1 br cF ah al;refine J ?_;intro aB bP db aj au;have z2:=cr au;have aeu:=ah.size;replace al:=aj.obj al;have e2:=ah.trans aj;refine J ?_;refine J_ (aqt _ m aB (cX.ext e2) aH) ?_;rintro _ aK ⟨rfl,ag⟩;replace al:=ag.obj al;replace au:=ag.obj au;have a1:=e2.trans ag;unfold BI;refine J ?_;refine _K (v:=.I (o.check m).cC) rfl ?_;refine J ?_;refine I_ (fun hk=>?_) (fun hk=>?_);rotate_left
 .refine J ?_;intro aR dq bf;refine J ?_;exact⟨.inl ⟨hk,aL⟩,dq.ext a1 Aw⟩
 have aS:=o.iu hk;refine J ?_;intro aR aw;replace al:=aw.obj al;replace au:=aw.obj au;have bC:=a1.trans aw;refine J ?_;refine J_ (aqx _ m aR (cX.ext bC) aH aS) ?_;rintro _ bo ⟨⟨ys,rfl,IQ⟩,aF⟩;have cM:=IQ.here;have bF:=bC.trans aF;refine⟨aF,?_⟩;refine J ?_;refine J_ (ap9 _ ys m bo (cX.ext bF) aH aS cM) ?_;rintro _ bt ⟨⟨bH,ho,rfl,eM,iZ⟩,aI⟩;have cg:=bF.trans aI;replace au:=(aF.trans aI).obj au;obtain⟨l7,d0,jW,d1,kQ,d2,pa,d3,oD,d4,rfl,_⟩:=cM.form;obtain⟨b9,ci,rfl,_⟩:=eM.form;obtain⟨fm,gd,rfl,_⟩:=iZ.form;have pR:=aw.size;have aq6:=ag.size;have o7:=aF.size;have awV:=cr au;refine J ?_;intro bG dy cf;have c8:Ext w bG:=dy.ext cg Aw;have ajw:=((IQ.ext aI o7).wr dy Aw).here;refine J ?_;exact⟨.inr ⟨hk,_,rfl,_,_,_,_,rfl,cX.ext c8,ajw,aP.hA (enc:=o.cR.enc) (fun _=>rfl) (aP.wr dy Aw eM),aP.hA (enc:=o.Ref.enc) (fun _=>rfl) (aP.wr dy Aw iZ)⟩,c8⟩
theorem F4(cs:C_ B_)(m:o.Model)(ref:Int)(q p k:Nat)(w:A_)(h:pq w cs m)(bq:o.ez m ref q p k) :
  Dz F.La #[.agg cs.toArray,.I ref] w fun u w'=>(∃e6 dn,u = .agg ((o.bx m p k).enc e6 dn).toArray/\o.eL w e6 (o.bx m p k).guard/\o.lK w dn (o.bx m p k).bE)/\Ext w w':=by
 obtain⟨eB,d0,dB,d1,ec,d2,er,d3,eN,d4,bW,bu,bI,c1,bO,c2,bQ,bp,bZ,bB,b9,ci,fm,gd,rfl,_,_,_,_,_,_,_,_,_,_,ab,aX,bD⟩:=h.form;have ao:=bq.at_.U;have aq:=bq.at_.aq;have mP:=bq.at_.hk;have oe:=bq.at_.ip;obtain⟨r,rfl⟩:=Rt bq.aQ;have aG:r<(o.refs m).length:=bq.U;have gm:(o.refs m)[r].inst=(q:Int):=bq.at_.ox;have o0:(o.refs m)[r].cmd=(k:Int):=bq.at_.sA;obtain⟨jI,rfl⟩:=bD.addr;obtain⟨h7,rfl⟩:=aX.addr;obtain⟨a3,rfl⟩:=ab.addr;obtain⟨lZ,bV,dL,dA,eW,fl⟩:=ab.at p aq;obtain⟨CA,Bs,rfl,Cp⟩:=fl.form;obtain⟨ac,rfl⟩:=fl.addr;obtain⟨eE,e6,dn,fR,hv,fW⟩:=fl.at k mP;obtain⟨gn,gz,rfl,_⟩:=hv.form;obtain⟨sw,rZ,rfl,_⟩:=fW.form;unfold o.dw.enc at dA;unfold o.dr.enc at fR;refine bl E.La ?_;refine J ?_;intro w1 bP db ah au;refine J ?_;intro aB cx e3 aj bf;have z4:=cr bf;have aeu:=ah.size;replace au:=aj.obj au;have e2:=ah.trans aj;have O8:=bD.ext Flat.ext e2;refine J ?_;intro aK dE kI ag bY;have qd:(o.refs m)[r].enc=[.I q,.I k]:=by unfold o.Ref.enc;rw[gm,o0]
 rw[qd] at bY;replace au:=ag.obj au;replace bf:=ag.obj bf;have a1:=e2.trans ag;have Yo:=aX.ext Flat.ext a1;have Z3:=dA.ext a1;have Jb:=fR.ext a1;clear O8;refine J ?_;intro aR aw;replace au:=aw.obj au;replace bf:=aw.obj bf;replace bY:=aw.obj bY;replace Yo:=Yo.ext Flat.ext aw;replace Z3:=Z3.ext aw;replace Jb:=Jb.ext aw;refine J ?_;refine K_ p (by rw[oe]) aq ?_;refine J ?_;intro bo e4 BY;refine J ?_;have j8:=o.vK aq mP;exact⟨⟨.slice gn (o.bx m p k).guard.length gz,.slice sw (o.bx m p k).bE.length rZ,by rw[j8];rfl,by rw[j8];exact hv,by rw[j8];exact fW⟩,e4.ext (a1.trans aw) Aw⟩
theorem LH(cs:C_ B_)(v:B_)(m:o.Model)(s:C_ Int)(c:Nat)(w:A_)(h:pq w cs m)(aS:o.eD m)(ak:dc w v s)(az:s.length=o.c6 m)(ai:c<m.ar.length) :
  Dz F.Le #[.agg cs.toArray,v,.I c] w fun u w'=>dc w' u (o.chanOf m s c)/\Ext w w':=by
 obtain⟨eB,d0,dB,d1,ec,d2,er,d3,eN,d4,bW,bu,bI,c1,bO,c2,bQ,bp,bZ,bB,b9,ci,fm,gd,rfl,_,_,dV,dH,df,eO,fM,ad,h1,I,ab,aX,bD⟩:=h.form;obtain⟨ep,fp,rfl,fc⟩:=ak.form;obtain⟨j7,e0⟩:=o.s6 ai;have hS:=(aS.chan _ (Gy ai)).cap;have sj:=o.kX ai;have eE:=o.oN ai;have ko:o.c6 m<=64:=o.iL aS;obtain⟨cZ,rfl⟩:=dH.addr;obtain⟨pr,rfl⟩:=I.addr;have dT:=(I.at c ai).cells;refine bl E.Le ?_;refine J ?_;intro w1 bR e9 ah bh;have Sa:=dH.ext Flat.ext ah;replace dT:=dT.ext ah;have ff:=ak.ext Flat.ext ah;refine J ?_;refine _Y (k:=.i64) (k':=.i64) (o.b6 m c) (o.b6 m c+(1+o.fH m c)) ff (by simp[c0,bL,e0]) (by simp[c0,bL,e0];omega) Aw Aw fun ae kC aq=>?_;refine J ?_;refine⟨?_,ah⟩;rw[show o.b6 m c+(1+o.fH m c) - o.b6 m c=1+o.fH m c from Aw] at aq ⊢;exact aq
theorem LK(cs:C_ B_)(v:B_)(m:o.Model)(s:C_ Int)(c:Nat)(x n:Int)(w:A_)(h:pq w cs m)(aS:o.eD m)(ak:dc w v s)(az:s.length=o.c6 m)(af:x=c)(ai:c<o.c6 m) :
  Dz F.Lg #[.agg cs.toArray,v,.I x,.I n] w fun u w'=>((o.putAt m s c n=none/\u = .tuple #[.slice none 0 0,.bool false])\/(∃t jV,o.putAt m s c n=some t/\u = .tuple #[jV,.bool true]/\iz w.heap.size w' jV t))/\Ext w w':=by
 subst af;obtain⟨eB,d0,dB,d1,ec,d2,er,d3,eN,d4,bW,bu,bI,c1,bO,c2,bQ,bp,bZ,bB,b9,ci,fm,gd,rfl,_,_,dV,dH,df,eO,fM,ad,h1,I,ab,aX,bD⟩:=h.form;obtain⟨ep,fp,rfl,fc⟩:=ak.form;obtain⟨dv,qg⟩:=o.Wt ai;have f2:=o.J3 m;have f3:=o.J1 m;have la:(o.bU m).length=o.c6 m:=rfl;have dY:(o.layout m).aQ[c]' Aw=(o.bU m)[c].aQ:=o.J2 _ dv;have ew:(o.layout m).U[c]' Aw=(o.bU m)[c].U:=o.J0 _ dv;have ko:o.c6 m<=64:=o.iL aS;obtain⟨a3,rfl⟩:=eO.addr;obtain⟨a4,rfl⟩:=fM.addr;refine bl E.Lg ?_;refine J ?_;intro w1 cx e3 ah bf;have F2:=eO.ext Flat.ext ah;have awa:=fM.ext Flat.ext ah;refine J ?_;apply I_<;>intro g1
 .refine J ?_;exact⟨.inl ⟨by unfold o.putAt;rw[qg,if_pos (.inl (by simp only;omega))],aL⟩,ah⟩
 refine J ?_;apply I_<;>intro g2
 .refine J ?_;exact⟨.inl ⟨by unfold o.putAt;rw[qg,if_pos (.inr (by simp only;omega))],aL⟩,ah⟩
 refine J ?_;refine J_ (acF _ s c n _ (ak.ext Flat.ext ah) rfl Aw Aw) ?_;rintro u aB ⟨dj,aj⟩;refine J ?_;exact⟨.inr ⟨_,_,by unfold o.putAt;rw[qg,if_neg (by simp only;omega)],rfl,aP.low ah.size dj⟩,ah.trans aj⟩
theorem LJ(cs:C_ B_)(v nc:B_)(m:o.Model)(s l:C_ Int)(c:Nat)(w:A_)(h:pq w cs m)(aS:o.eD m)(ak:dc w v s)(ax:dc w nc l)(az:s.length=o.c6 m)(ai:c<m.ar.length)(qv:l.length=1+o.fH m c) :
  Dz F.Lf #[.agg cs.toArray,v,.I c,nc] w fun u w'=>iz w.heap.size w' u (o.hi s (o.b6 m c) l)/\Ext w w':=by
 obtain⟨eB,d0,dB,d1,ec,d2,er,d3,eN,d4,bW,bu,bI,c1,bO,c2,bQ,bp,bZ,bB,b9,ci,fm,gd,rfl,_,_,dV,dH,df,eO,fM,ad,h1,I,ab,aX,bD⟩:=h.form;obtain⟨ep,fp,rfl,fc⟩:=ak.form;obtain⟨on,DR,rfl,avH⟩:=ax.form;obtain⟨j7,e0⟩:=o.s6 ai;have sj:=o.kX ai;have ko:o.c6 m<=64:=o.iL aS;obtain⟨cZ,rfl⟩:=dH.addr;refine bl E.Lf ?_;refine J ?_;intro w1 cx e3 ah bf;have Sa:=dH.ext Flat.ext ah;have ff:=ak.ext Flat.ext ah;have rk:=ax.ext Flat.ext ah;refine J ?_;intro aB aj;have dX:=ff.ext Flat.ext aj;have iH:=rk.ext Flat.ext aj;have e2:=ah.trans aj;refine J ?_;refine AD3 (k:=.i64) (o.b6 m c) dX (by simp[c0,bL,e0]) Aw fun avO atJ c4=>?_;refine J ?_;refine _0 (k:=.i64) (o.b6 m c+l.length) dX (by simp[c0,bL,e0]) Aw fun avP gN j5=>?_;refine J ?_;intro aK bR e9 ag bh;have dG:iz aB.heap.size aK (.slice (some ⟨bR,0,none⟩) 0 0) []:=aP.empty e9 bh;have tl:(s.take (o.b6 m c)).length<=64:=by rw[LQ];omega
 have dl:(s.drop (o.b6 m c+l.length)).length<=64:=by rw[AF8];omega
 refine J ?_;refine _q dG (c4.ext Flat.ext ag) (fun _=>rfl) lQ (by simp only[List.length_nil];omega) (by simp only[List.length_nil];unfold maxLen;omega) ag.size fun v4 aR dz nA=>?_;have dW:Ext aB aR:=ag.grown nA fun i U=>(dG.lt i U).1;rw[AF9] at dz;obtain⟨gK,AF,rfl,_⟩:=dz.form;refine J ?_;refine _q dz (iH.ext Flat.ext dW) (fun _=>rfl) lQ Aw (by unfold maxLen;omega) dW.size fun v5 bo dt gT=>?_;have ix:Ext aB bo:=dW.grown gT fun i U=>(dz.lt i U).1;obtain⟨rC,awf,rfl,_⟩:=dt.form;refine J ?_;refine _q dt (j5.ext Flat.ext ix) (fun _=>rfl) lQ (by rw[Lk];omega) (by rw[Lk];unfold maxLen;omega) ix.size fun v6 bt c9 iq=>?_;have hq:Ext aB bt:=ix.grown iq fun i U=>(dt.lt i U).1;obtain⟨tS,awg,rfl,_⟩:=c9.form;refine J ?_;exact⟨aP.low e2.size c9,e2.trans hq⟩
end Go.Proofs.R
end
section
namespace o
open Go
theorem WG{m:Model}{i:Nat}(h:i<m.ar.length):b6 m (i+1)=b6 m i+(1+fH m i):=by rw[afV h,oN h]
theorem NM{m:Model}:∀(d i:Nat),i+d<=m.ar.length->b6 m i<=b6 m (i+d)
 | 0,_,_=>Gf _
 | d+1,i,h=>by
  have:=NM (m:=m) d i Aw
  have:=WG (m:=m) (i:=i+d) Aw
  rw[<-AI4];omega
theorem WE{m:Model}{i j:Nat}(B9:i<j)(aC:j<m.ar.length):b6 m i+(1+fH m i)<=b6 m j:=by
 have h1:=WG (m:=m) (i:=i) Aw;have I:=NM (m:=m) (j - (i+1)) (i+1) Aw;rw[show i+1+(j - (i+1))=j from Aw] at I;omega
theorem afU(m:Model)(i:Nat)(h:i<=m.ar.length):total (cP m)<=b6 m i:=by
 have:=NM (m:=m) i 0 Aw
 rw[AE9,afW] at this;exact this
theorem ant{m:Model}{i j:Nat}(U:i<m.ar.length)(aC:j<(nk m.scalars m.ar[i]).length):∃h:b6 m i+j<(bU m).length,(bU m)[b6 m i+j].aQ=(nk m.scalars m.ar[i])[j].aQ/\(bU m)[b6 m i+j].U=(nk m.scalars m.ar[i])[j].U:=by
 have hw:i<(dx m).length:=by simpa[dx] using U
 have e:(dx m)[i]=nk m.scalars m.ar[i]:=by simp[dx]
 have hk:j<(dx m)[i].length:=by rw[e];exact aC
 have h1:=NS 2 (dx m) 0 i j hw hk;have nz:=vF U;rw[vI] at aC;have I:=ans (m:=m) (c:=b6 m i+j) (by unfold b6;omega) Aw;rw[show b6 m i+j - total (cP m)=total ((dx m).take i)+j from by unfold b6;omega,h1] at I;obtain⟨ab,aE⟩:=List.getElem?_eq_some_iff.1 I;refine⟨ab,?_,?_⟩
 .rw[aE];simp only[e]
 .rw[aE];simp only[e]
theorem XX{m:Model}{s:C_ Int}{c:Nat}{n:Int}(av:Fits m s)(aG:c<total (cP m)\/total (cP m)+total (dx m)<=c)(an:∀h:c<(bU m).length,(bU m)[c].aQ<=n/\n<=(bU m)[c].U):Fits m (s.set c n):=by
 refine⟨by rw[AE8];exact av.len,fun i U=>?_,fun j aC en=>?_⟩
 .have h1:=vF U;have I:=afU m i Aw
  have:mM m i m.ar[i] (s.set c n)=mM m i m.ar[i] s:=LR fun k hk=>List.getElem?_set_ne Aw
  rw[this];exact av.queue i U
 .rw[List.getElem_set];split
  .rename_i e;subst e;exact an en
  .exact av.cell j (by rw[AE8] at aC;exact aC) en
theorem ap1{s:C_ Scalar}{c:dg}{l:C_ Int}(hS:1<=c.cap)(h:lM s c l){j:Nat}(aC:j<(nk s c).length):∃x,l[j]? = some x/\(nk s c)[j].aQ<=x/\x<=(nk s c)[j].U:=by
 obtain⟨n,ad,h1,I,ab⟩:=h;cases j with
 | zero=>exact⟨n,ad,h1,I⟩
 | succ k =>
  rw[vI] at aC;obtain⟨x,af,aU,an⟩:=ab k Aw;refine⟨x,af,?_⟩;have e:(nk s c)[k+1]'(by rw[vI];omega)=kZ s c:=by simp[nk]
  rw[e];unfold kZ;unfold eS at aU ⊢;by_cases ax:(k:Int)<n
  .have:=aU ax
   split at this<;>rename_i ak
   .rw[if_pos ak];simp only at this ⊢;omega
   .rw[if_neg ak];exact this
  .have:=an Aw
   subst this;split
   .simp only;omega
   .simp only
    have:=size_le c.scalar s
    omega
theorem OK{m:Model}{s l:C_ Int}{i:Nat}(av:Fits m s)(U:i<m.ar.length)(hS:1<=m.ar[i].cap)(az:l.length=1+fH m i)(ao:lM m.scalars m.ar[i] l):Fits m (hi s (b6 m i) l):=by
 have sj:=kX U;have nz:b6 m i+l.length<=s.length:=by rw[av.len];omega
 have eE:=oN U;refine⟨by rw[uT nz];exact av.len,fun j aC=>?_,fun x af uO=>?_⟩
 .by_cases e:j=i
  .subst e
   have:mM m j m.ar[j] (hi s (b6 m j) l)=l:=by
    apply List.ext_getElem?;intro k;unfold mM;rw[List.getElem?_take,List.getElem?_drop];split
    .rw[sl nz,if_pos ⟨Aw,Aw⟩,show b6 m j+k - b6 m j=k from Aw]
    .rw[List.getElem?_eq_none Aw]
   rw[this];exact ao
  .have mm:=oN aC
   have:mM m j m.ar[j] (hi s (b6 m i) l)=mM m j m.ar[j] s:=LR fun k hk=>by
    rw[sl nz,if_neg];rcases Nat.lt_or_gt_of_ne e with h | h
    .have:=WE h U;omega
    .have:=WE h aC;omega
   rw[this];exact av.queue j aC
 .have ft:x<s.length:=by rw[uT nz] at af;exact af
  have aH:=sl nz x;rw[List.getElem?_eq_getElem af] at aH;by_cases fs:b6 m i<=x/\x<b6 m i+l.length
  .rw[if_pos fs] at aH;have ZB:x - b6 m i<(nk m.scalars m.ar[i]).length:=by rw[vI];omega
   obtain⟨y,bK,br,bP⟩:=ap1 hS ao ZB;obtain⟨ab,aE,aY⟩:=ant U ZB;rw[bK] at aH;have e:x=b6 m i+(x - b6 m i):=Aw
   have oV:(bU m)[x]=(bU m)[b6 m i+(x - b6 m i)]:=by congr 1
   injection aH with aH
   rw[aH,oV,aE,aY];exact⟨br,bP⟩
  .rw[if_neg fs,List.getElem?_eq_getElem ft] at aH;injection aH with aH
   rw[aH];exact av.cell x ft uO
theorem ab6{n:Nat}{l:C_ Int}{k:Nat}(hk:k+1<n):(rA n l)[k+1]? = some (l.getD k 0):=by
 unfold rA;rw[List.getElem?_cons_succ,List.getElem?_map,List.getElem?_range Aw];rfl
theorem ab7{s:C_ Scalar}{c:dg}{l:C_ Int}(hS:1<=c.cap)(az:(l.length:Int)<=c.cap)(an:∀x∈l,(eS c.scalar c.aQ c.U s).aQ<=x/\x<=(eS c.scalar c.aQ c.U s).U):lM s c (rA (1+c.cap.toNat) l):=by
 refine⟨l.length,rfl,Aw,az,fun k hk=>⟨l.getD k 0,ab6 Aw,fun jw=>?_,fun jw=>?_⟩⟩
 .have oh:k<l.length:=Aw
  have e:l.getD k 0=l[k]:=by simp[oh]
  rw[e];exact an _ (Gy oh)
 .simp[List.getD,List.getElem?_eq_none (show l.length<=k by omega)]
theorem acs{s:C_ Scalar}{c:dg}{l:C_ Int}(az:l.length=1+c.cap.toNat)(hS:1<=c.cap)(h:lM s c l):ja l=true/\((jb l).length:Int)<=c.cap/\l.headD 0=(jb l).length/\∀x∈jb l,(eS c.scalar c.aQ c.U s).aQ<=x/\x<=(eS c.scalar c.aQ c.U s).U:=by
 obtain⟨n,ad,h1,I,ab⟩:=h;obtain⟨a,r,rfl⟩:∃a r,l=a :: r:=by
  cases l with
  | nil=>simp at az;omega
  | cons a r=>exact⟨a,r,rfl⟩
 simp only[List.getElem?_cons_zero,Option.some.injEq] at ad;subst ad;simp only[List.length_cons] at az;have ao:ja (a :: r)=true:=by
  simp only[ja,Bool.and_eq_true,decide_eq_true_eq,List.all_eq_true];refine⟨⟨h1,Aw⟩,fun x af=>?_⟩;obtain⟨k,hk,rfl⟩:=List.mem_iff_getElem.1 af;rw[AF8] at hk;rw[AJ7];obtain⟨x,af,_,bw⟩:=ab (a.toNat+k) Aw;rw[List.getElem?_cons_succ,List.getElem?_eq_getElem Aw] at af;injection af with af
  rw[af];exact bw Aw
 have U:jb (a :: r)=r.take a.toNat:=by
  unfold jb;rw[if_pos ao];rfl
 rw[U];refine⟨ao,by rw[LQ];omega,by rw[LQ];simp;omega,fun x af=>?_⟩;obtain⟨k,hk,rfl⟩:=List.mem_iff_getElem.1 af;rw[LQ] at hk;rw[AI7];obtain⟨x,af,an,_⟩:=ab k Aw;rw[List.getElem?_cons_succ,List.getElem?_eq_getElem Aw] at af;injection af with af
 rw[af];exact an Aw
theorem apO{s:C_ Scalar}{c:dg}{l r:C_ Int}{v:Int}(az:l.length=1+c.cap.toNat)(hS:1<=c.cap)(h:lM s c l)(aD:(eS c.scalar c.aQ c.U s).aQ<=v/\v<=(eS c.scalar c.aQ c.U s).U)(aq:mu l v=some r):lM s c r:=by
 obtain⟨h1,I,ab,aE⟩:=acs az hS h;unfold mu at aq;split at aq
 .rename_i cN;injection aq with aq
  subst aq;rw[az];refine ab7 hS ?_ fun x af=>?_
  .have:=cN.2
   rw[ab,az] at this;rw[Lk,List.length_singleton];omega
  .rcases List.mem_append.1 af with af | af
   .exact aE x af
   .rw[AG4] at af;subst af;exact aD
 .cases aq
theorem ase{s:C_ Scalar}{c:dg}{l r:C_ Int}{v:Int}(az:l.length=1+c.cap.toNat)(hS:1<=c.cap)(h:lM s c l)(aq:o8 l=some (r,v)):lM s c r:=by
 obtain⟨h1,I,ab,aE⟩:=acs az hS h;unfold o8 at aq;split at aq
 .cases aq
 .rename_i x q ao;injection aq with aq
  injection aq with e1 e2
  subst e1;rw[az];rw[ao] at I aE;exact ab7 hS (by simp only[List.length_cons] at I;omega) fun y bK=>aE y (AH6 _ bK)
theorem Lz{m:Model}{s t:C_ Int}{c:Nat}{n:Int}(av:Fits m s)(aG:c<total (cP m)\/total (cP m)+total (dx m)<=c)(h:putAt m s c n=some t):Fits m t:=by
 have e:=FY h;subst e;refine XX av aG fun ai=>?_;unfold putAt DH at h;rw[List.getElem?_eq_getElem ai] at h;simp only at h;split at h
 .cases h
 .omega
theorem Ry{m:Model}{q:Nat}(j:Nat):total (cP m)+total (dx m)<=da m q+j:=by unfold da;omega
theorem Nl{m:Model}(aS:eD m){s t:C_ Int}{q p:Nat}{a:Act}(ao:fo m q p)(aU:l8 (inner (m.procs[p]'(ao.aq)) (eF m)) a)(av:Fits m s)(h:gC m s q a=some t):Fits m t:=by
 have zP:=aU.kind;unfold gC at h;by_cases aY:a.kind=5
 .rw[if_pos aY] at h;have ai:a.to.toNat<m.ar.length:=(aU.chan (.inr aY)).2;have hS:=(aS.chan _ (Gy ai)).cap.1;have dv:(chanOf m s a.to.toNat).length=1+m.ar[a.to.toNat].cap.toNat:=by rw[n0 (by rw[av.len];exact kX ai),oN ai]
  unfold w2 at h;cases aq:o8 (chanOf m s a.to.toNat) with
  | none=>rw[aq] at h;cases h
  | some F8 =>
   obtain⟨r,n⟩:=F8;rw[aq] at h;have E7:=av.queue _ ai;have e:chanOf m s a.to.toNat=mM m a.to.toNat m.ar[a.to.toNat] s:=by unfold chanOf mM;rw[oN ai]
   rw[<-e] at E7;have wu:=Gp aq;have h1:=OK av ai hS (by rw[wu,dv,oN ai]) (ase dv hS E7 aq);exact Lz h1 (.inr (by rw[AI4];exact Ry _)) h
 rw[if_neg aY] at h;by_cases he:(eval a.value (cc m s q)).2≠0
 .rw[if_pos he] at h;cases h
 rw[if_neg he] at h;by_cases h1:a.kind=1
 .rw[if_pos h1] at h;obtain⟨_,v,aD,iJ⟩:=aU.set h1;obtain⟨hg,fa⟩:=List.getElem?_eq_some_iff.1 aD;have Fh:a.to.toNat<m.vars.length:=hg;have nz:=rJ Fh
  have:cells m.vars[a.to.toNat] m.scalars=1:=by
   have Fi:m.vars[a.to.toNat]=v:=fa;rw[Fi];unfold cells;rw[if_pos iJ]
  exact Lz av (.inl (by rw[this] at nz;omega)) h
 rw[if_neg h1] at h;by_cases I:a.kind=2
 .rw[if_pos I] at h;have hg:a.to.toNat<m.vars.length:=(aU.item I).2.1;have nz:=rJ hg;have wu:=rv hg;unfold uU at h;split at h
  .cases h
  .rename_i ax;exact Lz av (.inl Aw) h
 rw[if_neg I] at h;by_cases ab:a.kind=3
 .rw[if_pos ab] at h;exact Lz av (.inr (by rw[AI4];exact Ry _)) h
 rw[if_neg ab] at h;have aE:a.kind=4:=Aw
 have ai:a.to.toNat<m.ar.length:=(aU.chan (.inl aE)).2;have hS:=(aS.chan _ (Gy ai)).cap.1;have dv:(chanOf m s a.to.toNat).length=1+m.ar[a.to.toNat].cap.toNat:=by rw[n0 (by rw[av.len];exact kX ai),oN ai]
 have qg:vH m a.to.toNat=eS m.ar[a.to.toNat].scalar m.ar[a.to.toNat].aQ m.ar[a.to.toNat].U m.scalars:=by unfold vH;rw[List.getElem?_eq_getElem ai]
 unfold tX at h;rw[qg] at h;split at h
 .cases h
 .rename_i ax;cases aq:mu (chanOf m s a.to.toNat) (eval a.value (cc m s q)).1 with
  | none=>rw[aq] at h;cases h
  | some r =>
   rw[aq] at h;have e:hi s (b6 m a.to.toNat) r=t:=by injection h
   rw[<-e];have E7:=av.queue _ ai;have e2:chanOf m s a.to.toNat=mM m a.to.toNat m.ar[a.to.toNat] s:=by unfold chanOf mM;rw[oN ai]
   rw[<-e2] at E7;have wu:=F0 aq;exact OK av ai hS (by rw[wu,dv,oN ai]) (apO dv hS E7 Aw aq)
theorem We{m:Model}(aS:eD m){q p:Nat}(ao:fo m q p):∀(l:C_ Act) (s t:C_ Int),(∀a∈l,l8 (inner (m.procs[p]'(ao.aq)) (eF m)) a)->Fits m s->h6 m q l s=some t->Fits m t
 | [],s,t,_,av,h=>by injection h with h;rw[<-h];exact av
 | a :: l,s,t,aU,av,h=>by
  simp only[h6] at h;cases h1:gC m s q a with
  | none=>rw[h1] at h;cases h
  | some u =>
   rw[h1] at h;exact We aS ao l u t (fun b an=>aU b (AH6 _ an)) (Nl aS ao (aU a (AG2 ..)) av h1) h
end o
end
section
namespace Go.Proofs.R
open Go Go.RowKit a7
theorem DD(v:B_)(l:C_ Int)(n:Int)(w:A_)(az:oJ w v l):Dz F.f9 #[v,.I n] w fun v w'=>v = .tuple #[.I (o.gL l n).1,.I (o.gL l n).2]/\w'=w:=by
 obtain⟨aO,cap,rfl,hlen⟩:=az.form;refine bl E.f9 ?_;refine ay ?_;apply I_<;>intro g1
 .refine ay ?_;rw[o.gL,o.gI (.inl g1)];exact⟨rfl,trivial⟩
 refine ay ?_;apply I_<;>intro g2
 .refine ay ?_;rw[o.gL,o.gI (.inr Aw)];exact⟨rfl,trivial⟩
 obtain⟨i,rfl⟩:=Rt (show 0<=n by omega);obtain⟨a,rfl⟩:=az.addr;refine ay ?_;rw[o.gL,o.iv Aw Aw];simp only[Int.toNat_natCast];exact⟨aL,trivial⟩
theorem asN(l:C_ Int)(az:l.length<=9223372036854775807)(n:Int)(h:o.dP n):o.nth l (IntKind.i64.wrap (n - 1))=o.nth l (n - 1):=by
 obtain⟨h1,I⟩:=h;by_cases ax:n = -9223372036854775808
 .subst ax
  have:IntKind.i64.wrap (-9223372036854775808 - 1)=9223372036854775807:=BJ
  rw[this,o.gI (.inr Aw),o.gI (.inl Aw)]
 .rw[IntWalk.i64_in (n - 1) Aw]
theorem asQ(x:o.Node)(cs:C_ B_)(v:o.Env)(base b:Nat)(w:A_)(m:B_)(st:C_ Int)(af:x.ok)(h:o.pY w cs v)(hm:qO base b w m st)(ab:x.op=3->0<st.length)(aH:∀z∈st,o.dP z) :
  Dz F.f4 #[.pointer (some ⟨b,0,none⟩),.agg x.enc.toArray,.agg cs.toArray] w fun u w'=>u = .tuple #[.I (o.gw x v (st.getLastD 0)).1,.I (o.gw x v (st.getLastD 0)).2]/\Ext w w':=by
 obtain⟨a0,bu,cZ,c1,a2,c2,a3,bp,rfl,o6,cO,de,dQ,gK,eU,eh,eo,dY⟩:=h.form;refine bl E.f4 ?_;refine ay ?_;refine O_ fun w1 br cF ah al=>?_;refine ay ?_;refine O_ fun aB bP db aj au=>?_;have he:=ah.trans aj;have cq:aB.heap[br]? = some (.cells #[.I x.op,.I x.n] T.e):=aj.obj al;clear al;refine ay ?_;apply I_<;>intro g1
 .have hk:o.gw x v (st.getLastD 0)=if o.within x.n then (x.n,0) else (0,10):=by rw[o.gw,if_pos g1]
  have aA:(o.tell (· + ·) x.n 0).2=o.within x.n:=by
   unfold o.tell
   have:o.within 0=true:=rfl
   simp only[Int.add_zero,this,Bool.and_true,Bool.and_self];split<;>simp_all
  rw[hk];refine ay ?_;refine J_ (Ns x.n 0 aB) ?_;rintro _ aK ⟨rfl,ag⟩;rw[aA];refine ay ?_;refine N_ (fun g2=>?_) (fun g2=>?_)
  all_goals
   refine ay ?_;rw[g2];exact b5
 by_cases aD:x.op=2\/x.op=3
 .have hk:o.gw x v (st.getLastD 0)=(match o.nth v.vars x.n with | some l=>if x.op=2 then o.gL l 0 else (match o.nth l (st.getLastD 0 - 1) with | some y=>(y,0) | none=>(0,10)) | none=>(0,8)):=by
   rw[o.gw,if_neg g1];split
   .rename_i e;cases o.nth v.vars x.n<;>simp[e]
   .rename_i e;rw[if_pos Aw];cases o.nth v.vars x.n with
    | none=>rfl
    | some l=>simp only[e,if_false];cases o.nth l (st.getLastD 0 - 1)<;>rfl
  by_cases uB:x.n<0\/(v.vars.length:Int)<=x.n
  .rw[hk,o.gI uB]
   (repeat' (refine ay ?_;first | (refine I_ (fun _=>?_) (fun _=>?_)<;>try (exfalso;omega)) | refine N_ (fun _=>?_) (fun _=>?_)))<;>try refine ay ?_
   all_goals exact b5
  obtain⟨i,U⟩:=Rt (show 0<=x.n by omega);have kq:i<v.vars.length:=Aw
  obtain⟨a,rfl⟩:=o6.addr;obtain⟨bH,j7,gm⟩:=o6.at i kq;have ax:o.nth v.vars x.n=some v.vars[i]:=by rw[U,o.iv Aw Aw];simp only[Int.toNat_natCast]
  rw[U] at cq;by_cases g2:x.op=2
  .have cI:o.gw x v (st.getLastD 0)=o.gL v.vars[i] 0:=by rw[hk,ax];simp only[g2,if_true]
   rw[cI];refine ay ?_;refine M_ (he.cell j7) ?_;refine ay ?_;refine J_ (DD _ v.vars[i] 0 aB (gm.ext he)) ?_;rintro _ _ ⟨rfl,rfl⟩;refine ay ?_;exact b5
  .have g3:x.op=3:=Aw
   have fS:=ab g3;have nB:o.gw x v (st.getLastD 0)=(match o.nth v.vars[i] (st.getLastD 0 - 1) with | some y=>(y,0) | none=>(0,10)):=by rw[hk,ax];simp only[g2,if_false]
   rw[nB];clear nB hk;refine ay ?_;refine M_ (he.cell j7) ?_;refine ay ?_;refine P_ _ (fun w' e=>adN base b w' m st (hm.ext (he.trans e)) fS) ?_;refine ay ?_;refine _l ?_;refine ay ?_;refine P_ _ (fun w' e=>(DD _ v.vars[i] _ w' (gm.ext (he.trans e))).mono fun _ _ ⟨h1,I⟩=>⟨h1,I ▸ Ext.refl _⟩) ?_;refine ay ?_;intro aK ag;have akY:o.dP (st.getLastD 0):=by rw[D6 _ fS];exact aH _ (Gy _)
   obtain⟨b9,ci,rfl,li⟩:=gm.form;have hw:=asN _ li _ akY;cases ao:o.nth v.vars[i] (IntKind.i64.wrap (st.getLastD 0 - 1)) with
   | none =>
    have e1:o.gL v.vars[i] (IntKind.i64.wrap (st.getLastD 0 - 1))=(0,8):=by rw[o.gL,ao]
    rw[e1];refine ay ?_;rw[<-hw,ao];exact b5
   | some y =>
    have e1:o.gL v.vars[i] (IntKind.i64.wrap (st.getLastD 0 - 1))=(y,0):=by rw[o.gL,ao]
    rw[e1];refine ay ?_;rw[<-hw,ao];exact b5
 rw[o.gw,if_neg g1,if_neg Aw,if_neg Aw];refine ay ?_;apply I_<;>intro g4
 .rw[if_pos g4];refine ay ?_;refine J_ (DD _ v.locals x.n aB (de.ext he)) ?_;rintro _ _ ⟨rfl,rfl⟩;refine ay ?_;exact b5
 rw[if_neg g4];refine ay ?_;apply I_<;>intro g6
 .rw[if_pos g6];refine ay ?_;refine J_ (DD _ v.lens x.n aB (cO.ext he)) ?_;rintro _ _ ⟨rfl,rfl⟩;refine ay ?_;exact b5
 rw[if_neg g6];refine ay ?_;apply I_<;>intro g5
 .rw[if_pos g5];refine ay ?_;exact b5
 rw[if_neg g5];refine ay ?_;apply I_<;>intro g7;rotate_left
 .rw[if_neg g7];refine ay ?_;exact b5
 rw[if_pos g7];refine ay ?_;apply I_<;>intro g8
 .refine ay ?_;rw[if_neg Aw];exact b5
 rw[if_pos Aw];obtain⟨i,U⟩:=Rt (show 0<=x.n by omega);obtain⟨_,ft⟩:=af.n;rw[U] at ft;have ao:x.n.tdiv 16=((i / 16:Nat):Int):=by rw[U];rfl
 have alq:x.n.tmod 16=((i % 16:Nat):Int):=by rw[U];rfl
 refine ay ?_;refine _J Aw ?_;rw[ao];refine ay ?_;apply I_<;>intro g9
 .refine ay ?_;rw[o.gI (.inr Aw)];exact b5
 have aC:i / 16<v.at_.length:=Aw
 obtain⟨a,rfl⟩:=dQ.addr;obtain⟨bH,j7,gm⟩:=dQ.at (i / 16) aC;rw[o.iv Aw Aw];simp only[Int.toNat_natCast];refine ay ?_;refine _J Aw ?_;rw[ao];refine ay ?_;refine M_ (he.cell j7) ?_;refine ay ?_;refine _s Aw ?_;refine ay ?_;refine P_ _ (fun w' e=>(DD _ v.at_[i / 16] _ w' (gm.ext (he.trans e))).mono fun _ _ ⟨h1,I⟩=>⟨h1,I ▸ Ext.refl _⟩) ?_;refine ay ?_;intro aK ag;refine ay ?_;exact b5
end Go.Proofs.R
end
section
namespace o
open Go Go.RowKit a7
structure Env.ok(v:Env):Prop where
 vars:∀l∈v.vars,∀z∈l,dP z
 lens:∀z∈v.lens,dP z
 locals:∀z∈v.locals,dP z
 at_:∀l∈v.at_,∀z∈l,dP z
 self:dP v.self
theorem ac0{w:A_}{v:B_}{l:C_ (C_ Int)}(h:vw w v l):∀r∈l,∀z∈r,dP z:=by
 intro r aG;obtain⟨i,U,rfl⟩:=List.mem_iff_getElem.1 aG;obtain⟨aO,cap,rfl,_⟩:=h.form;obtain⟨a,rfl⟩:=h.addr;obtain⟨bH,_,I⟩:=h.at i U;exact I.ok
theorem pY.ok{w:A_}{cs:C_ B_}{v:Env}(h:pY w cs v):v.ok:=by
 obtain⟨v0,v1,v2,v3,_,ad,h1,I,ab,aE⟩:=h.ex;exact⟨ac0 ad,h1.ok,I.ok,ac0 ab,aE⟩
theorem Ak{α:Type}{l:C_ α}{n:Int}{x:α}(h:nth l n=some x):x∈l:=by
 unfold nth at h;split at h
 .exact List.mem_of_getElem? h
 .cases h
theorem JQ:dP 0:=⟨BJ,BJ⟩
theorem asY{n:Int}(h:within n=true):dP n:=by simp[within] at h;exact⟨Aw,Aw⟩
theorem asg(f:Int->Int->Int)(a b:Int):dP (tell f a b).1:=by
 unfold tell;split
 .rename_i h;simp only[Bool.and_eq_true] at h;exact asY h.2
 .exact JQ
theorem afN(b:Bool):dP (bit b):=by cases b<;>exact⟨BJ,BJ⟩
theorem ahd{x:Int}{ae:ph}(h:gJ x=some ae)(a b:Int):dP (ae.zm a b).1:=by
 unfold gJ at h
 repeat' split at h
 all_goals first | (cases h;first | exact asg _ _ _ | exact afN _) | cases h
theorem Me{l:C_ Int}{n:Int}(h:∀z∈l,dP z):dP (gL l n).1:=by
 unfold gL;split
 .rename_i x af;exact h x (Ak af)
 .exact JQ
theorem aid{v:Env}(aD:v.ok){x:Node}{st:C_ Int}(af:x.ok):dP (ha v x st).1:=by
 unfold ha;split
 .rename_i ae aJ;unfold xh;simp only;split
  .exact ahd aJ _ _
  .exact JQ
 .unfold gw
  (repeat' split)
  all_goals first
   | exact af.n
   | exact JQ
   | exact aD.self
   | exact Me aD.locals
   | exact Me aD.lens
   | (rename_i cN;exact Me (aD.vars _ (Ak cN)))
   | (rename_i cN;exact Me (aD.at_ _ (Ak cN)))
   | (rename_i h1 _ _ I;exact aD.vars _ (Ak h1) _ (Ak I))
   | (rename_i I;rename_i h1;exact aD.vars _ (Ak h1) _ (Ak I))
end o
namespace Go.Proofs.R
open Go Go.RowKit a7
theorem asT(ae:o.ph)(u fc:B_)(l:C_ Int)(w:A_)(az:Ints w fc l)(ad:0<l.length)(a6:xp w u ae.zm) :
  Dz F.f5 #[.agg #[.I ae.parts,.I ae.jC,.I ae.makes,u],fc] w fun v w'=>v = .tuple #[.I (o.xh ae l).1,.I (o.xh ae l).2]/\Ext w w':=by
 obtain⟨aO,cap,rfl,hlen⟩:=az.form;refine bl E.f5 ?_;refine ay ?_;refine O_ fun w1 b an ah al=>?_;obtain⟨a,rfl⟩:=az.addr ad;have oV:Ints w1 (.slice (some a) l.length cap) l:=az.ext ah;refine ay ?_;refine K_ (l.length - 1) Aw Aw ?_;refine ay ?_;refine _w _ (fun w' e=>AB8 (a6.ext (ah.trans e)) fun bM e2=>⟨rfl,e2⟩) ?_;have dS:l[0]=l.headD 0:=by
  cases l with
  | nil=>simp at ad
  | cons z l=>rfl
 rw[dS,<-D6 l ad];rw[o.xh];generalize ae.zm (l.headD 0) (l.getLastD 0)=q;refine ay ?_;intro aB aj;refine ay ?_;refine N_ (fun g=>?_) (fun g=>?_)
 all_goals
  refine ay ?_;simp only[g,if_true,Bool.false_eq_true,if_false];exact b5
theorem ahK(x:o.Node)(cs:C_ B_)(v:o.Env)(base b pm dk:Nat)(w:A_)(m:B_)(st:C_ Int)(SV:F_)(af:x.ok)(h:o.pY w cs v)(hm:qO base b w m st)(ab:x.op=3->0<st.length)(aH:∀z∈st,o.dP z)
  (wA:w.heap[pm]? = some (.cells #[.pointer (some ⟨b,0,none⟩)] SV))(tt:w.heap[dk]? = some (.cells cs.toArray T.v)) :
  Dz F.f3 #[.agg x.enc.toArray,.pointer (some ⟨pm,0,none⟩),.pointer (some ⟨dk,0,none⟩)] w fun u w' =>
   u = .tuple #[.I (o.gw x v (st.getLastD 0)).1,.I (o.gw x v (st.getLastD 0)).2]/\Ext w w':=by
 obtain⟨v0,v1,v2,v3,rfl,_⟩:=h.ex;refine bl E.f3 ?_;refine ay ?_;refine O_ fun w1 br cF ah al=>?_;have cq:w1.heap[br]? = some (.cells x.enc.toArray T.e):=al;refine ay ?_;refine R_ (c:=x.enc) cq (Ext.refl _) rfl ?_;refine ay ?_;refine R_ tt ah rfl ?_;refine ay ?_;refine J_ (asQ x _ v base b w1 m st af (h.ext ah) (hm.ext ah) ab aH) ?_;rintro _ aB ⟨rfl,aj⟩;refine ay ?_;exact b5
theorem aie(v:o.Env):L4 (o.ha v) o.xh fun x st=>o.gw x v (st.getLastD 0):=fun _ _=>rfl
theorem ahL(gQ:B_)(e:C_ o.Node)(cs:C_ B_)(v:o.Env)(w:A_)(he:o.eL w gQ e)(h:o.pY w cs v) :
  Dz F.Ir #[gQ,.agg cs.toArray] w fun u w'=>u = .tuple #[.I (o.eval e v).1,.I (o.eval e v).2]/\Ext w w':=by
 have c5:=h.ok;obtain⟨v0,v1,v2,v3,rfl,_⟩:=h.ex;refine bl E.Ir ?_;refine ay ?_;refine O_ fun w1 dk tt ah al=>?_;refine ay ?_;refine W_ (cs:=[.slice none 0 0,.map none]) (by simp[eZ]) ?_;refine ay ?_;refine O_ fun aB b an aj au=>?_;refine ay ?_;refine O_ fun aK pm wA ag bh=>?_;refine ay ?_;refine _W bh BJ rfl fun aR dq bf=>?_;have Pr:aR.heap[pm]? = some (.cells #[.pointer (some ⟨b,0,none⟩)] T.xN):=bf;have aw:Ext aB aR:=dq.ext ag wA;have Qs:=cr au;have Z7:=cr al;have zL:Ext w aR:=(ah.trans aj).trans aw;clear bf dq ag bh;have e3:=aw.obj au;have lb:=aw.obj (aj.obj al);have gq:=ah.size;refine ay ?_;refine J_ (ade (o.ha v) o.xh (fun x st=>o.gw x v (st.getLastD 0)) (aie v) o.dP b w aR zL Aw gQ _ _ e he e3 (fun x st af _ _ _ _=>o.aid c5 af) ?_ ?_) ?_
 .intro x st base m w' af hm zS aH cO de dQ S6 cK t hh hk;refine V_ (first:=[]) (cap:=[.pointer (some ⟨pm,0,none⟩),.pointer (some ⟨dk,0,none⟩)]) Cq
   (ahK x _ v base b pm dk S6 m st _ af (h.ext ((hm.ext zL (by intro k hk e;omega)).trans hh)) (zS.ext hh) ?_ aH (hh.obj (hm.obj Aw Pr)) (hh.obj (hm.obj Aw lb))) fun v bM ⟨h1,I⟩=>by subst h1;exact hk bM I
  intro ab
  have:o.fe x.op=1:=by rw[ab];rfl
  omega
 .rintro ae ep fc l w' cK t hm ⟨u,rfl,a6⟩ ⟨x,af⟩ az U hk;exact _e (first:=[]) (cap:=[]) Cq (asT ae u fc l w' U (by have:=RK af;omega) a6) fun v bM ⟨h1,I⟩=>by subst h1;exact hk bM I
 rintro _ bo ⟨rfl,ly⟩;have aF:Ext w bo:=ly.ext zL (by intro k hk e;omega);refine ay ?_;exact b5
end Go.Proofs.R
end
section
namespace Go.Proofs.R
open Go Go.RowKit a7
theorem LG(v:B_)(l:C_ Int)(n:Int)(w:A_)(az:oJ w v l):Dz F.Kl #[v,.I n] w fun v w'=>v = .tuple #[.I (o.gL l n).1,.bool (decide ((o.gL l n).2=0))]/\Ext w w':=by
 obtain⟨aO,cap,rfl,hlen⟩:=az.form;refine bl E.Kl ?_;refine ay ?_;apply I_<;>intro g1
 .refine ay ?_;rw[o.gL,o.gI (.inl g1)];exact b5
 refine ay ?_;apply I_<;>intro g2
 .refine ay ?_;rw[o.gL,o.gI (.inr Aw)];exact b5
 obtain⟨i,rfl⟩:=Rt (show 0<=n by omega);obtain⟨a,rfl⟩:=az.addr;refine ay ?_;rw[o.gL,o.iv Aw Aw];simp only[Int.toNat_natCast];exact b5
theorem asM(l:C_ Int)(n:Int):(o.gL l n).2=0\/o.gL l n=(0,8):=by
 unfold o.gL;split
 .exact .inl rfl
 .exact .inr rfl
theorem AD(b:Bool)(w:A_):Dz F.Kj #[.bool b] w fun v w'=>v = .I (o.bit b)/\w'=w:=by
 refine bl E.Kj ?_;refine ay ?_;refine N_ (fun h=>?_) (fun h=>?_)
 all_goals
  subst h;refine ay ?_;exact⟨rfl,trivial⟩
theorem Sv(n:Int)(w:A_):Dz F.Kb #[.I n] w fun v w'=>v = .bool (o.within n)/\w'=w:=by
 refine bl E.Kb ?_
 (repeat' (refine ay ?_;first | (refine I_ (fun _=>?_) (fun _=>?_)<;>try (exfalso;omega)) | refine N_ (fun _=>?_) (fun _=>?_)))<;>try refine ay ?_
 all_goals
  refine⟨?_,aL⟩;congr 1
  first | (rw[AG7];simp[o.within];omega) | (simp[o.within];omega)
theorem SX(a b n:Int)(w:A_):Dz F.Ka #[.I a,.I b,.I n] w
  fun v w'=>v = .tuple #[.I (if o.within a&&o.within b&&o.within n then n else 0),.bool (o.within a&&o.within b&&o.within n)]/\w'=w:=by
 refine bl E.Ka ?_;refine ay ?_;refine J_ (Sv a w) ?_;rintro _ _ ⟨rfl,rfl⟩;refine ay ?_;cases h1:o.within a with
 | false =>
  refine ay ?_;exact⟨Bh,trivial⟩
 | true =>
  refine ay ?_;refine J_ (Sv b _) ?_;rintro _ _ ⟨rfl,rfl⟩;refine ay ?_;cases I:o.within b with
  | false =>
   refine ay ?_;exact⟨Bh,trivial⟩
  | true =>
   refine ay ?_;refine J_ (Sv n _) ?_;rintro _ _ ⟨rfl,rfl⟩;refine ay ?_;cases ab:o.within n with
   | false =>
    refine ay ?_;exact⟨Bh,trivial⟩
   | true =>
    refine ay ?_;exact⟨Bh,trivial⟩
theorem SY(f:Int->Int->Int)(a b n:Int)(h:o.within a=true->o.within b=true->n=f a b) :
  (if (o.within a&&o.within b&&o.within n)=true then n else 0)=(o.tell f a b).1/\(o.within a&&o.within b&&o.within n)=(o.tell f a b).2:=by
 unfold o.tell;cases h1:o.within a with
 | false=>simp
 | true =>
  cases I:o.within b with
  | false=>simp
  | true =>
   rw[h h1 I];cases ab:o.within (f a b)<;>simp
theorem aqg:ud F.J6 (o.tell (· + ·)):=by
 intro a b w;refine bl E.J6 ?_;refine ay ?_;refine _l ?_;refine ay ?_;refine J_ (SX a b _ w) ?_;rintro _ _ ⟨rfl,rfl⟩;obtain⟨h1,I⟩:=SY (· + ·) a b (IntKind.i64.wrap (a+b)) (fun h1 I=>by simp[o.within] at h1 I;exact IntWalk.i64_in _ Aw);rw[h1,I];refine ay ?_;exact b5
theorem ac3:ud F.J9 (o.tell (· - ·)):=by
 intro a b w;refine bl E.J9 ?_;refine ay ?_;refine _l ?_;refine ay ?_;refine J_ (SX a b _ w) ?_;rintro _ _ ⟨rfl,rfl⟩;obtain⟨h1,I⟩:=SY (· - ·) a b (IntKind.i64.wrap (a - b)) (fun h1 I=>by simp[o.within] at h1 I;exact IntWalk.i64_in _ Aw);rw[h1,I];refine ay ?_;exact b5
theorem aqO:ud F.J7 (o.tell (· * ·)):=by
 intro a b w;refine bl E.J7 ?_;refine ay ?_;refine _l ?_;refine ay ?_;refine J_ (SX a b _ w) ?_;rintro _ _ ⟨rfl,rfl⟩;obtain⟨h1,I⟩:=SY (· * ·) a b (IntKind.i64.wrap (a*b)) (fun h1 I=>by simp[o.within] at h1 I;have:=abA h1 I;exact IntWalk.i64_in _ Aw);rw[h1,I];refine ay ?_;exact b5
def rI(op a b:Int):Int×Int:=match o.gJ op with | some ae=>o.xh ae [a,b] | none=>(0,0)
theorem aqj(op a b:Int)(w:A_)(lW:11<=op/\op<=19) :
  Dz F.Km #[.I op,.I a,.I b] w fun v w'=>v = .tuple #[.I (rI op a b).1,.I (rI op a b).2]/\Ext w w':=by
 have num:∀f:Int->Int->Int×Bool,(if (f a b).2=true then ((f a b).1,(0:Int)) else (0,10))=(let r:=f a b;if r.2=true then (r.1,0) else (0,10)):=fun _=>rfl;have ai:op=11\/op=12\/op=13\/op=14\/op=15\/op=16\/op=17\/op=18\/op=19:=Aw
 refine bl E.Km ?_;rcases ai with e | e | e | e | e | e | e | e | e
 .have key:rI op a b=if (o.tell (· + ·) a b).2=true then ((o.tell (· + ·) a b).1,0) else (0,10):=by subst e;rfl
  rw[key];refine ay ?_;refine J_ (aqg a b w) ?_;rintro _ w1 ⟨rfl,ah⟩;refine ay ?_;refine N_ (fun h=>?_) (fun h=>?_)
  all_goals
   refine ay ?_;rw[h];exact b5
 .have key:rI op a b=if (o.tell (· - ·) a b).2=true then ((o.tell (· - ·) a b).1,0) else (0,10):=by subst e;rfl
  rw[key];refine ay ?_;refine J_ (ac3 a b w) ?_;rintro _ w1 ⟨rfl,ah⟩;refine ay ?_;refine N_ (fun h=>?_) (fun h=>?_)
  all_goals
   refine ay ?_;rw[h];exact b5
 .have key:rI op a b=if (o.tell (· * ·) a b).2=true then ((o.tell (· * ·) a b).1,0) else (0,10):=by subst e;rfl
  rw[key];refine ay ?_;refine J_ (aqO a b w) ?_;rintro _ w1 ⟨rfl,ah⟩;refine ay ?_;refine N_ (fun h=>?_) (fun h=>?_)
  all_goals
   refine ay ?_;rw[h];exact b5
 .have key:rI op a b=(o.bit (decide (a=b)),0):=by subst e;rfl
  rw[key];refine ay ?_;refine J_ (AD _ w) ?_;rintro _ _ ⟨rfl,rfl⟩;refine ay ?_;exact b5
 .have key:rI op a b=(o.bit (!decide (a=b)),0):=by subst e;rfl
  rw[key];refine ay ?_;refine J_ (AD _ w) ?_;rintro _ _ ⟨rfl,rfl⟩;refine ay ?_;exact b5
 .have key:rI op a b=(o.bit (decide (a<b)),0):=by subst e;rfl
  rw[key];refine ay ?_;refine J_ (AD _ w) ?_;rintro _ _ ⟨rfl,rfl⟩;refine ay ?_;exact b5
 .have key:rI op a b=(o.bit (decide (a<=b)),0):=by subst e;rfl
  rw[key];refine ay ?_;refine J_ (AD _ w) ?_;rintro _ _ ⟨rfl,rfl⟩;refine ay ?_;exact b5
 .have key:rI op a b=(o.bit (!decide (a=0) && !decide (b=0)),0):=by subst e;rfl
  rw[key];refine ay ?_;refine I_ (fun h1=>?_) (fun h1=>?_)
  all_goals
   refine ay ?_;refine J_ (AD _ w) ?_;rintro _ _ ⟨rfl,rfl⟩;refine ay ?_;refine⟨?_,fE⟩;simp[h1]
 .have key:rI op a b=(o.bit (!decide (a=0) || !decide (b=0)),0):=by subst e;rfl
  rw[key];refine ay ?_;refine I_ (fun h1=>?_) (fun h1=>?_)
  all_goals
   refine ay ?_;refine J_ (AD _ w) ?_;rintro _ _ ⟨rfl,rfl⟩;refine ay ?_;refine⟨?_,fE⟩;simp[h1]
end Go.Proofs.R
end