/- Texts joined: MovP StaT StaU LiteT LiteU StaV StaX StaY MovA MovB ComA MovC MovD MovQ ExprK ExprL ExprN ExprR. -/
import Derived.Test.YtempnjgiohpopaaGreatDoorQrdd
import Derived.Test.YtempnjgiohpopaaGreatDoorQrdg
import Derived.Test.YtempnjgiohpopaaGreatDoorQrdk
import Derived.Test.YtempnjgiohpopaaGreatDoorQrdn
import Derived.Test.YtempnjgiohpopaaGreatDoorQrdo
import Derived.Laws.Bits64b
import Derived.Lib.AppendZerosOnto
set_option linter.all false
set_option maxRecDepth 4000
set_option maxHeartbeats 6400000
section
namespace o
open Go
def k2(l:List Int):Bool:=match l with
 | []=>false
 | n :: r=>decide (0≤n∧n≤r.length)&&(r.drop n.toNat).all (fun x=>decide (x=0))
def kI(l:List Int):List Int:=if k2 l then (l.drop 1).take (l.headD 0).toNat else []
def ts(k:Nat)(l:List Int):List Int:=(l.length:Int) :: (List.range (k - 1)).map fun i=>l.getD i 0
def ov(l:List Int)(v:Int):Option (List Int):=if k2 l=true∧l.headD 0≠(l.length:Int) - 1 then some (ts l.length (kI l++[v])) else none
def p2(l:List Int):Option (List Int×Int):=match kI l with
 | []=>none
 | x :: r=>some (ts l.length r,x)
theorem To{k:Nat}(h:1≤k)(l:List Int):(ts k l).length=k:=by simp[ts];omega
theorem Sj{l:List Int}(h:k2 l=true):1≤l.length:=by
 cases l with
 | nil=>cases h
 | cons n r=>simp
theorem F9{l r:List Int}{v:Int}(h:ov l v=some r):r.length=l.length:=by
 unfold ov at h;split at h
 ·rename_i h1;injection h with h
  rw[←h,To (Sj h1.1)]
 ·cases h
theorem Gu{l r:List Int}{v:Int}(h:p2 l=some (r,v)):r.length=l.length:=by
 unfold p2 at h;split at h
 ·cases h
 ·rename_i x q aB;injection h with h
  injection h with h1 U
  have:k2 l=true:=Classical.byContradiction fun aI=>by
   unfold kI at aB;rw[if_neg aI] at aB;cases aB
  rw[←h1,To (Sj this)]
def chanOf(m:Model)(s:List Int)(c:Nat):List Int:=(s.drop (cZ m c)).take (1+jd m c)
def kH(s:List Int)(a:Nat)(l:List Int):List Int:=s.take a++l++s.drop (a+l.length)
def Az(m:Model)(c:Nat):Int×Int:=match (b1 m)[c]? with
 | some x=>(x.aZ,x.ad)
 | none=>(0,-1)
def putAt(m:Model)(s:List Int)(c:Nat)(n:Int):Option (List Int):=if n<(Az m c).1∨(Az m c).2<n then none else some (s.set c n)
def uj(m:Model)(c:Nat):dm:=match m.aJ[c]? with
 | some x=>eM x.scalar x.aZ x.ad m.scalars
 | none=>eM 0 0 0 m.scalars
def vl(m:Model)(s:List Int)(c:Nat)(n:Int):Option (List Int) :=
 if n<(uj m c).aZ∨(uj m c).ad<n then none else (ov (chanOf m s c) n).map (kH s (cZ m c))
def xr(m:Model)(s:List Int)(q:Nat)(a:Act):Option (List Int):=match p2 (chanOf m s a.to.toNat) with
 | none=>none
 | some (rest,n)=>putAt m (kH s (cZ m a.to.toNat) rest) (dx m q+1+a.loc.toNat) n
def wV(m:Model)(s:List Int)(a:Act)(k:Int×Int)(n:Int):Option (List Int) :=
 if k.2≠0∨k.1<1∨(u0 m a.to.toNat:Int)<k.1 then none else putAt m s (hM m a.to.toNat+k.1.toNat - 1) n
def ju(m:Model)(s:List Int)(q:Nat)(a:Act):Option (List Int) :=
 if a.kind=5 then xr m s q a
 else if (eval a.value (cS m s q)).2≠0 then none
 else if a.kind=1 then putAt m s (hM m a.to.toNat) (eval a.value (cS m s q)).1
 else if a.kind=2 then wV m s a (eval a.index (cS m s q)) (eval a.value (cS m s q)).1
 else if a.kind=3 then putAt m s (dx m q+1+a.to.toNat) (eval a.value (cS m s q)).1
 else vl m s a.to.toNat (eval a.value (cS m s q)).1
def iO(m:Model)(q:Nat):List Act→List Int→Option (List Int)
 | [],s=>some s
 | a :: r,s=>match ju m s q a with
  | none=>none
  | some t=>iO m q r t
def j1(m:Model)(s:List Int)(q:Nat)(c:dG):Option (List Int) :=
 if s[dx m q]? ≠ some c.from_ then none
 else if 0<c.guard.length∧((eval c.guard (cS m s q)).2≠0∨(eval c.guard (cS m s q)).1=0) then none
 else (iO m q c.b4 s).map fun t=>t.set (dx m q) c.to
theorem OD(m:Model)(q:Nat)(a:Act):∀(l:List Act) (s:List Int),iO m q (l++[a]) s=match iO m q l s with | none=>none | some t=>ju m t q a
 | [],s=>by
  simp only[List.nil_append,iO];cases ju m s q a<;>rfl
 | x :: l,s=>by
  simp only[List.cons_append,iO];cases ju m s q x with
  | none=>rfl
  | some t=>exact OD m q a l t
theorem uV{s:List Int}{a:Nat}{l:List Int}(h:a+l.length≤s.length):(kH s a l).length=s.length:=by
 simp[kH];omega
theorem y1{s:List Int}{a:Nat}{l:List Int}(h:a+l.length≤s.length)(x:Nat):(kH s a l)[x]? = if a≤x∧x<a+l.length then l[x - a]? else s[x]? := by
 unfold kH;have aL:(s.take a).length=a:=by simp;omega
 by_cases h1:x<a
 ·rw[if_neg (by omega),List.getElem?_append_left (by rw[List.length_append];omega),List.getElem?_append_left (by omega),List.getElem?_take,if_pos h1]
 ·by_cases U:x<a+l.length
  ·rw[if_pos ⟨by omega,U⟩,List.getElem?_append_left (by rw[List.length_append];omega),List.getElem?_append_right (by omega),aL]
  ·rw[if_neg (by omega),List.getElem?_append_right (by rw[List.length_append];omega),List.getElem?_drop,List.length_append,aL];congr 1;omega
theorem sr{m:Model}{s:List Int}{c:Nat}(h:cZ m c+(1+jd m c)≤s.length):(chanOf m s c).length=1+jd m c:=by
 simp[chanOf];omega
theorem C0{m:Model}{s t:List Int}{c:Nat}{n:Int}(h:putAt m s c n=some t):t=s.set c n:=by
 unfold putAt at h;split at h
 ·cases h
 ·injection h with h
  exact h.symm
def ep(s t:List Int)(l:List Int):Prop:=t.length=s.length∧∀c:Nat,t[c]? ≠ s[c]? → (c:Int)∈l
theorem ep.refl(s l:List Int):ep s s l:=⟨rfl,fun _ h=>absurd rfl h⟩
theorem ep.trans{s t u l:List Int}(h:ep s t l)(k:ep t u l):ep s u l:=⟨k.1.trans h.1,fun c ax=>by
 by_cases e:u[c]? = t[c]?
 ·exact h.2 c (by rw[←e];exact ax)
 ·exact k.2 c e⟩
theorem ep.mono{s t l r:List Int}(h:ep s t l)(ay:∀x∈l,x∈r):ep s t r:=⟨h.1,fun c ax=>ay _ (h.2 c ax)⟩
theorem ep.set(s:List Int)(a:Nat)(n:Int):ep s (s.set a n) (fC a 1):=⟨List.length_set ..,fun c ax=>by
 rw[Gd,List.mem_singleton];apply Classical.byContradiction;intro aI;exact ax (List.getElem?_set_ne (by omega))⟩
theorem ep.B6{s l:List Int}{a:Nat}(h:a+l.length≤s.length):ep s (kH s a l) (fC a l.length):=⟨uV h,fun c ax=>by
 rw[y1 h] at ax;apply Classical.byContradiction;intro aI;rw[pg] at aI;exact ax (if_neg (by omega))⟩
theorem afB{m:Model}{s t:List Int}{c:Nat}{n:Int}(ax:cZ m c+(1+jd m c)≤s.length)(h:vl m s c n=some t):ep s t (sq m c):=by
 unfold vl at h;split at h
 ·cases h
 ·cases aO:ov (chanOf m s c) n with
  | none=>rw[aO] at h;cases h
  | some r =>
   rw[aO] at h;have aP:=F9 aO;rw[sr ax] at aP;have e:kH s (cZ m c) r=t:=by injection h
   rw[←e];unfold sq;rw[←aP];exact ep.B6 (by omega)
theorem aeH{m:Model}{s t:List Int}{q:Nat}{a:Act}(ax:cZ m a.to.toNat+(1+jd m a.to.toNat)≤s.length)(h:xr m s q a=some t):ep s t (sq m a.to.toNat++fC (dx m q+1+a.loc.toNat) 1):=by
 unfold xr at h;cases aO:p2 (chanOf m s a.to.toNat) with
 | none=>rw[aO] at h;cases h
 | some Dd =>
  obtain⟨r,n⟩:=Dd;rw[aO] at h;have aP:=Gu aO;rw[sr ax] at aP;have e:=C0 h;rw[e];refine ep.trans (t:=kH s (cZ m a.to.toNat) r) ?_ ((ep.set _ _ _).mono fun x ar=>List.mem_append_right _ ar)
  have:=ep.B6 (s:=s) (a:=cZ m a.to.toNat) (l:=r) (by omega)
  rw[aP] at this;exact this.mono fun x ar=>List.mem_append_left _ ar
theorem afA{m:Model}{s:List Int}{q:Nat}{a:Act}(h:p0 a=true):eval a.index (cS m s q)=((cS m s q).self,0):=by
 unfold p0 at h;split at h
 ·rename_i x ar;rw[ar];have bc:x.op=5:=by simpa using h
  have aI:eK x.op=0:=by rw[bc];decide
  have aN:gL (cS m s q) x []=((cS m s q).self,0):=by
   unfold gL;rw[bc];simp[fX,h2,bc]
  unfold eval jU eL;simp only[List.length_singleton,stepG,aI,aN];simp[eL]
 ·cases h
theorem OB{m:Model}{s t:List Int}{q:Nat}{a:Act}(aB:q<(insts m).length)(ax:(a.kind=4∨a.kind=5)→cZ m a.to.toNat+(1+jd m a.to.toNat)≤s.length)(hk:1≤a.kind∧a.kind≤5)(h:ju m s q a=some t):ep s t (kp m q a):=by
 unfold ju at h;unfold kp;by_cases bc:a.kind=5
 ·rw[if_pos bc] at h;rw[if_neg (by omega),if_neg (by omega),if_neg (by omega),if_neg (by omega),if_pos bc];exact aeH (ax (.inr bc)) h
 rw[if_neg bc] at h;by_cases he:(eval a.value (cS m s q)).2≠0
 ·rw[if_pos he] at h;cases h
 rw[if_neg he] at h;by_cases h1:a.kind=1
 ·rw[if_pos h1] at h ⊢;rw[C0 h];exact ep.set _ _ _
 rw[if_neg h1] at h ⊢;by_cases U:a.kind=2
 ·rw[if_pos U] at h ⊢;unfold wV at h;split at h
  ·cases h
  ·rename_i aI;rw[C0 h];refine(ep.set _ _ _).mono fun x ar=>?_;rw[Gd,List.mem_singleton] at ar;subst ar;unfold o9;by_cases ay:p0 a=true
   ·rw[if_pos ay,Gd,List.mem_singleton,AZ aB];have qH:(cS m s q).self=(insts m)[q].elem:=(vo s aB rfl).2
    have:=afA (m:=m) (s:=s) (q:=q) (a:=a) ay
    rw[this];simp only[qH]
   ·rw[if_neg ay,pg];omega
 rw[if_neg U] at h ⊢;by_cases ag:a.kind=3
 ·rw[if_pos ag] at h ⊢;rw[C0 h];exact ep.set _ _ _
 rw[if_neg ag] at h ⊢;rw[if_pos (by omega)];exact afB (ax (by omega)) h
theorem iJ.set{s t l:List Int}(h:iJ s t l)(aP:s.length=t.length)(a:Nat)(n:Int):iJ (s.set a n) (t.set a n) l:=fun x ar=>by
 rw[List.getElem?_set,List.getElem?_set,aP,h x ar]
theorem iJ.B6{s t l r:List Int}(h:iJ s t l){a:Nat}(h1:a+r.length≤s.length)(U:a+r.length≤t.length):iJ (kH s a r) (kH t a r) l:=fun x ar=>by
 rw[y1 h1,y1 U,h x ar]
theorem O7{m:Model}{s t:List Int}{c:Nat}(h:iJ s t (sq m c)):chanOf m s c=chanOf m t c:=Gj fun _ hk=>h.row hk
def zX(l:List Int)(au p:Option (List Int)):Prop:=match au,p with
 | none,none=>True
 | some s,some t=>iJ s t l∧s.length=t.length
 | _,_=>False
theorem F6{m:Model}{s t l:List Int}(h:iJ s t l)(aP:s.length=t.length)(c:Nat)(n:Int):zX l (putAt m s c n) (putAt m t c n):=by
 unfold putAt;split
 ·exact trivial
 ·exact⟨h.set aP c n,by rw[List.length_set,List.length_set,aP]⟩
theorem VS{m:Model}{s t l:List Int}{fg:Scope}{q p:Nat}{a:Act}(aS:fg.vars=m.vars)(bp:oB fg a)(aB:gp m q p)(nn:(m.procs[p]'(aB.aO)).over≠0∨fg.self=0)
  (h:iJ s t l)(aP:s.length=t.length)(bd:∀x∈oO m q a,x∈l)(hw:∀x∈kp m q a,x∈l)(ax:(a.kind=4∨a.kind=5)→cZ m a.to.toNat+(1+jd m a.to.toNat)≤s.length):zX l (ju m s q a) (ju m t q a):=by
 unfold ju;by_cases bc:a.kind=5
 ·rw[if_pos bc,if_pos bc];unfold oO at bd;rw[if_pos bc] at bd;unfold xr;rw[O7 (h.sub bd)];cases aO:p2 (chanOf m t a.to.toNat) with
  | none=>exact trivial
  | some Dd =>
   obtain⟨r,n⟩:=Dd;have sU:=Gu aO;have gr:=ax (.inr bc);rw[sr (by omega)] at sU;exact F6 (h.B6 (by omega) (by omega)) (by rw[uV (by omega),uV (by omega),aP]) _ _
 rw[if_neg bc,if_neg bc];unfold oO at bd;rw[if_neg bc] at bd;rw[H7 aS (bp.val bc) aB nn (h.sub fun x ar=>bd x (List.mem_append_right _ ar))];split
 ·exact trivial
 by_cases h1:a.kind=1
 ·rw[if_pos h1,if_pos h1];exact F6 h aP _ _
 rw[if_neg h1,if_neg h1];by_cases U:a.kind=2
 ·rw[if_pos U,if_pos U];rw[if_pos U] at bd;rw[H7 aS (bp.item U).2.2 aB nn (h.sub fun x ar=>bd x (List.mem_append_left _ ar))];unfold wV;split
  ·exact trivial
  ·exact F6 h aP _ _
 rw[if_neg U,if_neg U];by_cases ag:a.kind=3
 ·rw[if_pos ag,if_pos ag];exact F6 h aP _ _
 rw[if_neg ag,if_neg ag];have aK:a.kind=4:=by have:=bp.kind;omega
 unfold kp at hw;rw[if_neg h1,if_neg U,if_neg ag,if_pos aK] at hw;unfold vl;split
 ·exact trivial
 ·rw[O7 (h.sub hw)];cases aO:ov (chanOf m t a.to.toNat) (eval a.value (cS m t q)).1 with
  | none=>exact trivial
  | some r =>
   have sU:=F9 aO;have gr:=ax (.inl aK);rw[sr (by omega)] at sU;exact⟨h.B6 (by omega) (by omega),by rw[uV (by omega),uV (by omega),aP]⟩
theorem oU{m:Model}{c:Nat}(h:c<m.aJ.length):cZ m c+(1+jd m c)≤fH m:=by
 have:=yh h
 rw[oV h]
 have:=pD m
 omega
theorem OJ{m:Model}{fg:Scope}{q:Nat}(aB:q<(insts m).length)(qz:fg.aJ=m.aJ):∀(l:List Act) (s t:List Int),(∀a∈l,oB fg a)→s.length=fH m→iO m q l s=some t→ep s t (l.flatMap (kp m q))
 | [],s,t,_,_,h=>by
  injection h with h
  rw[←h];exact ep.refl _ _
 | a :: l,s,t,bp,ay,h=>by
  simp only[iO] at h;cases h1:ju m s q a with
  | none=>rw[h1] at h;cases h
  | some u =>
   rw[h1] at h;have U:=OB aB (fun hk=>by rw[ay];exact oU (by have:=((bp a (List.mem_cons_self ..)).chan hk).2;rwa[qz] at this)) (bp a (List.mem_cons_self ..)).kind h1;have ag:=OJ aB qz l u t (fun b aD=>bp b (List.mem_cons_of_mem _ aD)) (U.1.trans ay) h;rw[List.flatMap_cons];exact(U.mono fun x ar=>List.mem_append_left _ ar).trans (ag.mono fun x ar=>List.mem_append_right _ ar)
theorem OK{fg:Scope}{c:dG}(h:r7 fg c):∀a∈c.b4,oB fg a:=fun a bp=>by
 obtain⟨k,hk,rfl⟩:=List.mem_iff_getElem.1 bp;exact h.act k hk
theorem XB{m:Model}{fg:Scope}{q:Nat}{c:dG}{s t:List Int}(aB:q<(insts m).length)(qz:fg.aJ=m.aJ)(ax:r7 fg c)(ay:s.length=fH m)(h:j1 m s q c=some t):ep s t (lJ m q c c.b4.length):=by
 unfold j1 at h;split at h
 ·cases h
 split at h
 ·cases h
 cases h1:iO m q c.b4 s with
 | none=>rw[h1] at h;cases h
 | some u =>
  rw[h1] at h;have e:u.set (dx m q) c.to=t:=by injection h
  rw[←e];unfold lJ;rw[List.take_length];exact((OJ aB qz _ s u (OK ax) ay h1).mono fun x ar=>List.mem_append_right _ ar).trans ((ep.set _ _ _).mono fun x ar=>List.mem_append_left _ ar)
theorem OI{m:Model}{l:List Int}{fg:Scope}{q p:Nat}(aS:fg.vars=m.vars)(qz:fg.aJ=m.aJ)(aB:gp m q p)(nn:(m.procs[p]'(aB.aO)).over≠0∨fg.self=0) :
  ∀(kq:List Act) (s t:List Int),(∀a∈kq,oB fg a)→iJ s t l→s.length=t.length→s.length=fH m→(∀x∈kq.flatMap (oO m q),x∈l)→(∀x∈kq.flatMap (kp m q),x∈l)→zX l (iO m q kq s) (iO m q kq t)
 | [],s,t,_,h,aP,_,_,_=>⟨h,aP⟩
 | a :: kq,s,t,bp,h,aP,ay,bd,hw=>by
  have IB:=bp a (List.mem_cons_self ..);have gr:(a.kind=4∨a.kind=5)→cZ m a.to.toNat+(1+jd m a.to.toNat)≤s.length:=fun hk=>by rw[ay];exact oU (by have:=(IB.chan hk).2;rwa[qz] at this)
  have h1:=VS aS IB aB nn h aP (fun x ar=>bd x (List.mem_flatMap.2 ⟨a,List.mem_cons_self ..,ar⟩)) (fun x ar=>hw x (List.mem_flatMap.2 ⟨a,List.mem_cons_self ..,ar⟩)) gr;simp only[iO];cases bP:ju m s q a with
  | none =>
   rw[bP] at h1;cases ba:ju m t q a with
   | none=>exact trivial
   | some u=>rw[ba] at h1;exact h1.elim
  | some u =>
   rw[bP] at h1;cases ba:ju m t q a with
   | none=>rw[ba] at h1;exact h1.elim
   | some r =>
    rw[ba] at h1;have hu:=(OB aB.aB gr IB.kind bP).1;exact OI aS qz aB nn kq u r (fun b aD=>bp b (List.mem_cons_of_mem _ aD)) h1.1 h1.2 (hu.trans ay) (fun x ar=>bd x (by rw[List.flatMap_cons];exact List.mem_append_right _ ar)) (fun x ar=>hw x (by rw[List.flatMap_cons];exact List.mem_append_right _ ar))
theorem XA{m:Model}{l:List Int}{fg:Scope}{q p:Nat}{c:dG}{s t:List Int}(aS:fg.vars=m.vars)(qz:fg.aJ=m.aJ)(aB:gp m q p)(nn:(m.procs[p]'(aB.aO)).over≠0∨fg.self=0)(ax:r7 fg c)
  (h:iJ s t l)(aP:s.length=t.length)(ay:s.length=fH m)(bd:∀x∈ow m q c c.b4.length,x∈l)(hw:∀x∈lJ m q c c.b4.length,x∈l):zX l (j1 m s q c) (j1 m t q c):=by
 unfold ow sF at bd;unfold lJ at hw;rw[List.take_length] at bd hw;have aj:s[dx m q]? = t[dx m q]? := (h.sub fun x ar=>bd x (List.mem_append_left _ (List.mem_append_left _ ar))).one;unfold j1;rw[aj,H7 aS ax.guard aB nn (h.sub fun x ar=>bd x (List.mem_append_left _ (List.mem_append_right _ ar)))];split
 ·exact trivial
 split
 ·exact trivial
 have h1:=OI aS qz aB nn c.b4 s t (OK ax) h aP ay (fun x ar=>bd x (List.mem_append_right _ ar)) (fun x ar=>hw x (List.mem_append_right _ ar));cases bP:iO m q c.b4 s with
 | none =>
  rw[bP] at h1;cases ba:iO m q c.b4 t with
  | none=>exact trivial
  | some u=>rw[ba] at h1;exact h1.elim
 | some u =>
  rw[bP] at h1;cases ba:iO m q c.b4 t with
  | none=>rw[ba] at h1;exact h1.elim
  | some r =>
   rw[ba] at h1;exact⟨h1.1.set h1.2 _ _,by rw[List.length_set,List.length_set,h1.2]⟩
theorem SB{s w:Int}:∀{l:List dm} {k:Nat} {x:Cell},x∈eT s w l k→∃b∈l,x.aZ=b.aZ∧x.ad=b.ad
 | [],_,_,h=>by cases h
 | b :: l,k,x,h=>by
  rcases List.mem_cons.1 h with rfl | h
  ·exact⟨b,by simp,rfl,rfl⟩
  ·obtain⟨mZ,h1,U⟩:=SB h;exact⟨mZ,by simp[h1],U⟩
theorem Et{s:Int}:∀{ls:List (List dm)} {i:Nat} {x:Cell},x∈cellsOf s ls i→∃l∈ls,∃b∈l,x.aZ=b.aZ∧x.ad=b.ad
 | [],_,_,h=>by cases h
 | l :: r,i,x,h=>by
  rcases List.mem_append.1 h with h | h
  ·obtain⟨b,h1,U⟩:=SB h;exact⟨l,by simp,b,h1,U⟩
  ·obtain⟨te,h1,U⟩:=Et h;exact⟨te,by simp[h1],U⟩
def r6(aZ ad:Int):Prop := -1048576≤aZ∧aZ≤ad∧ad≤1048576
theorem Hn{fg aZ ad:Int}{s:List Scalar}(h:fg=0→r6 aZ ad):r6 (eM fg aZ ad s).aZ (eM fg aZ ad s).ad:=by
 unfold eM;by_cases aj:fg=0
 ·rw[if_pos aj];exact h aj
 ·rw[if_neg aj]
  have:=size_le fg s
  unfold r6;simp only;omega
theorem S5{aZ ad:Int}(h:narrow aZ ad=true):r6 aZ ad:=by have:=S4 h;unfold r6;omega
theorem W5{m:Model}(h:eI m):∀x∈b1 m,r6 x.aZ x.ad:=fun x ar=>by
 unfold b1 at ar;rcases List.mem_append.1 ar with ar | ar
 ·rcases List.mem_append.1 ar with ar | ar
  ·obtain⟨l,aP,b,aD,bP,ba⟩:=Et ar;obtain⟨v,aS,rfl⟩:=List.mem_map.1 aP;rw[(List.mem_replicate.1 aD).2] at bP ba;rw[bP,ba];exact Hn fun aj=>S5 ((h.var v aS).F1 aj)
  ·obtain⟨l,aP,b,aD,bP,ba⟩:=Et ar;obtain⟨c,ax,rfl⟩:=List.mem_map.1 aP;rw[bP,ba];have dh:=h.chan c ax;have hz:=dh.cap;rcases List.mem_cons.1 aD with rfl | aD
   ·unfold r6;simp only;omega
   ·rw[(List.mem_replicate.1 aD).2];exact Hn fun aj=>by
     have:=S4 (dh.F1 aj)
     unfold r6;omega
 ·obtain⟨l,aP,b,aD,bP,ba⟩:=Et ar;obtain⟨xE,rK,rfl⟩:=List.mem_map.1 aP;rw[bP,ba];unfold ka at aD;split at aD
  ·rename_i p aO;have hm:p∈m.procs:=by
    unfold nth at aO;split at aO
    ·exact List.mem_of_getElem? aO
    ·cases aO
   have dh:=h.proc p hm;rcases List.mem_cons.1 aD with rfl | aD
   ·have:=dh.cz;unfold r6;simp only;omega
   ·obtain⟨v,aS,rfl⟩:=List.mem_map.1 aD;exact Hn fun aj=>S5 ((dh.var v aS).F1 aj)
  ·cases aD
end o
end
section
namespace bt
open Go Go.RowKit
def yw(d:Nat):List Value:=[.int .u8 d]
def Hr(l:List Nat):List Value:=l.map fun(d:Nat)=>Value.int .u8 (d:Int)
theorem Hs:∀l:List Nat,Hr l=l.flatMap yw
 | []=>rfl
 | x :: r=>by
  have:=Hs r
  simp only[Hr,List.map_cons,List.flatMap_cons] at this ⊢;rw[this];rfl
theorem YO(l:List Nat)(k x:Nat):(l.flatMap yw).set k (.int .u8 x)=(l.set k x).flatMap yw:=by
 rw[←Hs,←Hs];simp[Hr,List.map_set]
theorem K.kP{e:TypeId}{base:Nat}{w:World}{l:List Nat}{a:Addr}{n c k x:Nat}{hb:World→Prop}{t}(h:bs yw e 1 base w (.slice (some a) n c) l)(hk:k<l.length)
  (c7:∀av,dK a.block w av→bs yw e 1 base av (.slice (some a) n c) (l.set k x)→hb av):q7 (.pointer (some (a.add (k*1)))) (.int .u8 (x:Nat)) w hb t:=by
 rcases h.2 with ⟨aI,aj⟩ | ⟨g,cap,cur,h1,U,ag,aK,bc,bD,b6⟩
 ·cases aI
 ·injection h1 with bP ba bQ
  injection bP with bP
  subst bP bQ;have cq:k<cur.size:=by omega
  have lk:Addr.add ⟨g,0,none⟩ (k*1)=⟨g,k,none⟩:=by rw[add_eq,Nat.mul_one,Nat.zero_add]
  have ax:w.cell? (Addr.add ⟨g,0,none⟩ (k*1))=some cur[k]:=fp ag (by rw[Nat.mul_one];exact Array.getElem?_eq_getElem cq);rw[lk] at ax ⊢;have bA:w.ownsRow base e 1 (.slice (some ⟨g,0,none⟩) l.length c) l.length (l.flatMap yw):=by unfold bs at h;rw[ba] at h;exact h
  have ay:=World.ownsRow.stored bA k (.int .u8 (x:Nat));rw[YO] at ay;refine K.st ax (by simp[World.frozen?,ag]) (by simp[Value.oneCell']) (c7 _ (dK.setCell w ⟨g,k,none⟩ _) ?_);unfold bs;rw[List.length_set,ba];exact ay.1
theorem K.vO{α:Type}{P:Program}{c6:Value→World→Prop}{enc:α→List Value}{e:TypeId}{sz base:Nat}{w:World}{s x:Value}{xs ys:List α}{R:World→Addr→α→Prop}[k8 R enc]{ty:TypeId}{b:Nat}{t}(ay:bs enc e sz base w s xs)(ar:bz sz R w x ys)(c8:∀x,(enc x).length=sz)(h1:∀y,∀u∈enc y,u.oneCell'=true)
  (aD:(xs.length+ys.length)*b≤140737488355328)(jA:xs.length+ys.length≤maxLen)(iP:base≤w.heap.size)(hk:∀b8 w',bs enc e sz base w' b8 (xs++ys)→w.grownBy w' s.ownBlock→c6 b8 w'):ki P ty e sz b s x w c6 t:=by
 obtain⟨bl,cap,rfl,qu,U,ag,aK⟩:=ar.ex;cases bl with
 | some a=>exact K.V8 ay ⟨some a,cap,rfl,qu,U,ag,aK⟩ c8 h1 aD jA iP hk
 | none =>
  have:ys=[]:=Classical.byContradiction fun aI=>by have:=ag aI;cases this
  subst this;rw[List.append_nil] at hk;refine K.app fun⟨aL,i,z,ad,bU,yY,yE,wT,FF⟩=>?_;refine⟨ty,s,w,?_,hk s w ay ⟨rfl,rfl,rfl,Nat.le_refl _,fun _ _ _=>rfl⟩⟩;rcases ay.2 with ⟨rfl,aj⟩ | ⟨g,cap,cur,rfl,_,_,BL,_⟩
  ·simp[Builtin.append_,run_underlying aL,Go.sizeOf,typeInfo,ad,Builtin.lenOf,Builtin.firstCells]
  ·simp[Builtin.append_,run_underlying aL,Go.sizeOf,typeInfo,ad,Builtin.lenOf,Builtin.firstCells,BL,storeCells]
theorem P9:∀(l:List Int) (k:Nat) (x:Int),(l.flatMap dA).set k (.int .i64 x)=(l.set k x).flatMap dA
 | [],_,_=>rfl
 | y :: l,0,x=>rfl
 | y :: l,k+1,x=>by
  have:=P9 l k x
  simp only[List.flatMap_cons,List.set_cons_succ];rw[←this];rfl
theorem K.UF{e:TypeId}{base:Nat}{w:World}{l:List Int}{a:Addr}{n c k:Nat}{x:Int}{hb:World→Prop}{t}(h:bs dA e 1 base w (.slice (some a) n c) l)(hk:k<l.length)
  (c7:∀av,dK a.block w av→bs dA e 1 base av (.slice (some a) n c) (l.set k x)→hb av):q7 (.pointer (some (a.add (k*1)))) (.int .i64 x) w hb t:=by
 rcases h.2 with ⟨aI,aj⟩ | ⟨g,cap,cur,h1,U,ag,aK,bc,bD,b6⟩
 ·cases aI
 ·injection h1 with bP ba bQ
  injection bP with bP
  subst bP bQ;have cq:k<cur.size:=by omega
  have lk:Addr.add ⟨g,0,none⟩ (k*1)=⟨g,k,none⟩:=by rw[add_eq,Nat.mul_one,Nat.zero_add]
  have ax:w.cell? (Addr.add ⟨g,0,none⟩ (k*1))=some cur[k]:=fp ag (by rw[Nat.mul_one];exact Array.getElem?_eq_getElem cq);rw[lk] at ax ⊢;have bA:w.ownsRow base e 1 (.slice (some ⟨g,0,none⟩) l.length c) l.length (l.flatMap dA):=by unfold bs at h;rw[ba] at h;exact h
  have ay:=World.ownsRow.stored bA k (.int .i64 x);rw[P9] at ay;refine K.st ax (by simp[World.frozen?,ag]) (by simp[Value.oneCell']) (c7 _ (dK.setCell w ⟨g,k,none⟩ _) ?_);unfold bs;rw[List.length_set,ba];exact ay.1
end bt
namespace o
open Go
theorem FL{l:List Int}:k2 l=true↔∃h:0<l.length,0≤l[0]∧l[0]≤(l.length:Int) - 1∧∀k (hk:k<l.length),l[0]+1≤k→l[k]=0:=by
 cases l with
 | nil=>simp[k2]
 | cons n r =>
  simp only[k2,Bool.and_eq_true,decide_eq_true_eq,List.all_eq_true];constructor
  ·rintro⟨⟨aj,h1⟩,U⟩;refine⟨by simp,aj,by simp;omega,fun k hk aP=>?_⟩;cases k with
   | zero=>simp at aP;omega
   | succ k =>
    simp only[List.getElem_cons_zero,List.getElem_cons_succ] at aP ⊢;refine U _ (List.mem_iff_getElem.2 ⟨k - n.toNat,by simp at hk ⊢;omega,?_⟩);rw[List.getElem_drop];congr 1;omega
  ·rintro⟨_,aj,h1,U⟩;simp only[List.getElem_cons_zero,List.length_cons] at aj h1 U;refine⟨⟨aj,by omega⟩,fun x ar=>?_⟩;obtain⟨k,hk,rfl⟩:=List.mem_iff_getElem.1 ar;rw[List.getElem_drop]
   have:=U (n.toNat+k+1) (by simp at hk;omega) (by omega)
   simpa using this
theorem abX{l:List Int}(h:k2 l=true)(aj:0<l.length):kI l=(l.drop 1).take l[0].toNat:=by
 unfold kI;rw[if_pos h];cases l with
 | nil=>simp at aj
 | cons n r=>rfl
theorem Sl(l:List Int):(kI l).length≤l.length:=by
 unfold kI;split
 ·rw[List.length_take,List.length_drop];omega
 ·simp
theorem abW{l:List Int}(h:¬k2 l=true):kI l=[]:=by unfold kI;rw[if_neg h]
theorem Tq(l:List Int)(k:Nat):((l.length:Int) :: (List.range (k+1)).map fun i=>l.getD i 0)=((l.length:Int) :: (List.range k).map fun i=>l.getD i 0)++[l.getD k 0]:=by
 rw[List.range_succ,List.map_append];rfl
end o
namespace Go.Proofs.R
open Go Go.RowKit bt
abbrev k9(base:Nat)(w:World)(v:Value)(l:List Int):Prop:=bs dA T.a 1 base w v l
theorem oq{base:Nat}{w:World}{v:Value}{l:List Int}(h:k9 base w v l):e4 w v l:=bs.lH (enc:=dA) (fun _=>rfl) h
theorem TU(v:Value)(l:List Int)(w:World)(h:e4 w v l) :
  bu Tryz.prog F.zn #[v] w fun u w'=>u = .bool (o.k2 l)∧Ext w w':=by
 obtain⟨e1,fu,rfl,fQ⟩:=h.form;have no:(¬∃h:0<l.length,0≤l[0]∧l[0]≤(l.length:Int) - 1∧∀k (hk:k<l.length),l[0]+1≤k→l[k]=0)→o.k2 l=false:=fun aI=>by
  cases aB:o.k2 l with
  | false=>rfl
  | true=>exact absurd (o.FL.1 aB) aI
 refine bM E.zn ?_;refine bF ?_;refine al ?_;apply K.cond<;>intro g1
 ·refine al ?_;exact⟨by rw[no];rintro⟨aj,_⟩;omega,Ext.refl _⟩
 have aj:0<l.length:=by omega
 obtain⟨a,rfl⟩:=h.addr aj;refine al ?_;apply K.cond<;>intro g2
 ·refine al ?_;exact⟨by rw[no];rintro⟨_,h1,_⟩;omega,Ext.refl _⟩
 refine al ?_;apply K.cond<;>intro g3
 ·refine al ?_;exact⟨by rw[no];rintro⟨_,h1,U,_⟩;omega,Ext.refl _⟩
 refine al ?_;refine K.DA [0] (fun x:Int=>[(3,.int .i64 x)]) (l[0]+1) (fun x W=>W=w∧l[0]+1≤x∧x≤l.length∧∀k (hk:k<l.length),l[0]+1≤k→(k:Int)<x→l[k]=0) (fun x=>((l.length:Int) - x).toNat) bB ⟨rfl,by omega,by omega,fun k hk a b=>by omega⟩ ?_;rintro x S av ⟨rfl,RW,ar,c9⟩;refine al ?_;apply K.cond<;>intro g4
 ·refine al ?_;refine K.dk x.toNat (by omega) (by omega) ?_;refine al ?_;apply K.cond<;>intro g5
  ·refine al ?_;refine⟨x+1,bB,⟨bw,by omega,by omega,fun k hk a b=>?_⟩,by omega⟩;by_cases e:(k:Int)=x
   ·have:k=x.toNat:=by omega
    subst this;exact g5
   ·exact c9 k hk a (by omega)
  ·refine al ?_;exact⟨by rw[no];rintro⟨_,_,_,ag⟩;exact g5 (ag _ (by omega) (by omega)),Ext.refl _⟩
 ·refine al ?_;exact⟨by rw[o.FL.2 ⟨aj,by omega,by omega,fun k hk a=>c9 k hk a (by omega)⟩],Ext.refl _⟩
theorem TL{w:World}(v:Value)(l:List Int)(c:Nat)(n x:Int)(h:e4 w v l)(ar:x=c)(ax:c<l.length)(aP:l.length≤100000) :
  bu Tryz.prog F.zp #[v,.int .i64 x,.int .i64 n] w fun u w'=>k9 w.heap.size w' u (l.set c n)∧Ext w w':=by
 subst ar;obtain⟨e1,fu,rfl,fQ⟩:=h.form;refine bM E.zp ?_;refine bF ?_;refine al ?_;intro av bC cL aA aq;have qF:k9 w.heap.size av (.slice (some ⟨bC,0,none⟩) 0 0) []:=bs.empty cL aq;refine al ?_;refine K.vO qF (h.ext Flat.ext aA) (fun _=>rfl) j4 (by simp only[List.length_nil];omega) (by simp only[List.length_nil];unfold maxLen;omega) aA.size fun b8 aT eX aao=>?_;rw[List.nil_append] at eX;have ba:Ext w aT:=aA.grown aao fun k hk=>(qF.lt k hk).1;obtain⟨bl,iz,rfl,_⟩:=eX.form;obtain⟨a,rfl⟩:=(oq eX).addr (by omega);refine al ?_;refine K.UF eX ax fun bf eZ eY=>?_;have aD:=eX.lt a.block rfl;refine al ?_;exact⟨eY,eZ.ext ba aD.1⟩
end Go.Proofs.R
end
section
namespace bt
open Go Go.RowKit
section
variable{S:Fr}{w:World}{aF:Value→Prop}
theorem K.Uu{α:Type}{sz n cap:Nat}{R:World→Addr→α→Prop}{bl:Option Addr}{x:Operand}{k:IntKind}{xs:List α}{t}(l:Nat)(ay:bz sz R w (.slice bl n cap) xs)(ar:bb S x = .int k (l:Int))(aP:l≤xs.length)
  (hk:∀au c,bz sz R w (.slice au (xs.length - l) c) (xs.drop l)→aF (.slice au (xs.length - l) c)):sg S sz (.slice bl n cap) (some x) none none aF t:=by
 obtain⟨bP,ba,bQ⟩:=ay.len;refine K.iW l n cap (by simp[fN,ar]) (by simp[fN]) (by simp[fN]) ⟨by omega,by omega,Nat.le_refl _⟩ (by simp) ?_;have h:=ay.sub l n (by omega) (by omega);rw[List.take_of_length_le (by rw[List.length_drop];omega)] at h;rw[bP] at h ⊢;exact hk _ _ h
theorem K.afF{α:Type}{sz n cap:Nat}{R:World→Addr→α→Prop}{bl:Option Addr}{y:Operand}{k:IntKind}{xs:List α}{t}(u:Nat)(ay:bz sz R w (.slice bl n cap) xs)(cx:bb S y = .int k (u:Int))(hu:u≤xs.length)
  (hk:∀au c,bz sz R w (.slice au u c) (xs.take u)→aF (.slice au u c)):sg S sz (.slice bl n cap) none (some y) none aF t:=by
 obtain⟨bP,ba,bQ⟩:=ay.len;refine K.iW 0 u cap (by simp[fN]) (by simp[fN,cx]) (by simp[fN]) ⟨by omega,by omega,Nat.le_refl _⟩ (by simp) ?_;have h:=ay.sub 0 u (by omega) hu;exact hk _ _ h
end
end bt
namespace Go.Proofs.R
open Go Go.RowKit bt
theorem TW(v:Value)(l:List Int)(w:World)(h:e4 w v l)(aP:l.length≤100000) :
  bu Tryz.prog F.zl #[v] w fun u w'=>k9 w.heap.size w' u (o.kI l)∧Ext w w':=by
 obtain⟨e1,fu,rfl,fQ⟩:=h.form;refine bM E.zl ?_;refine bF ?_;refine al ?_;refine K.call (TU _ l w h) ?_;rintro _ av ⟨rfl,aA⟩;by_cases aB:o.k2 l=true
 ·rw[aB];obtain⟨aj,h1,U,ag⟩:=o.FL.1 aB;obtain⟨a,rfl⟩:=h.addr aj;have fA:=h.ext Flat.ext aA;refine al ?_;refine K.df 4 l[0].toNat [0] (fun v:gj=>[(3,.slice v.1 v.2.1 v.2.2)]) (none,0,0) (fun k v W=>Ext av W∧k9 av.heap.size W (.slice v.1 v.2.1 v.2.2) ((l.drop 1).take k)) bB bB ⟨Ext.refl _,bs.nil _ _ _ _ _⟩ ?_;clear fA;rintro k U3 S aT hk ⟨aC,eX⟩;have eb:=h.ext Flat.ext (aA.trans aC);refine al ?_;apply K.cond<;>intro g1
  ·have eO:1+k<l.length:=by omega
   refine al ?_;intro bf b5 fU aw bK;have n3:((l.drop 1).take k).length≤100000:=by rw[List.length_take,List.length_drop];omega
   refine al ?_;refine K.mr (y:=l[1+k]) (eX.ext aw) bK rfl (fun _=>rfl) j4 (by omega) (by unfold maxLen;omega) (by have:=aC.size;have:=aw.size;omega) fun bl c d bq ey n0=>?_;refine al ?_;refine⟨by omega,bw,(bl,c,d),⟨rfl,trivial⟩,(aC.trans aw).grown n0 fun i ad=>(eX.lt i ad).1,?_⟩;rw[List.take_succ,List.getElem?_drop,List.getElem?_eq_getElem eO];exact ey
  ·have o3:k=l[0].toNat:=by omega
   subst o3;refine al ?_;exact⟨by rw[o.abX aB aj];exact bs.low aA.size eX,aA.trans aC⟩
 ·have Jq:o.k2 l=false:=by simpa using aB
  rw[Jq];refine al ?_;exact⟨by rw[o.abW aB];exact bs.nil _ _ _ _ _,aA⟩
theorem T5(n:Nat)(v:Value)(l:List Int)(w:World)(h:e4 w v l)(aI:1≤n∧n≤100000) :
  bu Tryz.prog F.zm #[.int .i64 n,v] w fun u w'=>k9 w.heap.size w' u (o.ts n l)∧Ext w w':=by
 obtain⟨e1,fu,rfl,fQ⟩:=h.form;refine bM E.zm ?_;refine bF ?_;refine al ?_;intro av bC cL aA aq;have qF:k9 w.heap.size av (.slice (some ⟨bC,0,none⟩) 1 1) ((l.length:Int) :: (List.range 0).map fun i=>l.getD i 0):=bs.Eo _ aq cL rfl (fun _=>rfl) rfl (by show 1≤maxLen;unfold maxLen;decide);clear aq;refine al ?_;refine K.df 6 (n - 1) [0,1] (fun v:gj=>[(5,.slice v.1 v.2.1 v.2.2)]) (some ⟨bC,0,none⟩,1,1) (fun k v W=>Ext w W∧k9 w.heap.size W (.slice v.1 v.2.1 v.2.2) ((l.length:Int) :: (List.range k).map fun i=>l.getD i 0)) bB bB ⟨aA,qF⟩ ?_;clear qF;rintro k U3 S aT hk ⟨aC,eX⟩;have eb:=h.ext Flat.ext aC;have n3:((l.length:Int) :: (List.range k).map fun i=>l.getD i 0).length=k+1:=by simp
 refine al ?_;apply K.cond<;>intro g1
 ·refine al ?_;apply K.cond<;>intro g2
  ·have eO:k<l.length:=by omega
   obtain⟨a,rfl⟩:=h.addr (by omega);refine al ?_;intro bf b5 fU aw bK;refine al ?_;refine K.mr (y:=l[k]) (eX.ext aw) bK rfl (fun _=>rfl) j4 (by omega) (by unfold maxLen;omega) (by have:=aC.size;have:=aw.size;omega) fun bl c d bq ey n0=>?_;refine al ?_;refine⟨by omega,bw,(bl,c,d),⟨rfl,trivial⟩,(aC.trans aw).grown n0 fun i ad=>(eX.lt i ad).1,?_⟩;rw[o.Tq,show l.getD k 0=l[k] from by simp[eO]];exact ey
  ·refine al ?_;intro bf b5 fU aw bK;refine al ?_;refine K.mr (y:=0) (eX.ext aw) bK rfl (fun _=>rfl) j4 (by omega) (by unfold maxLen;omega) (by have:=aC.size;have:=aw.size;omega) fun bl c d bq ey n0=>?_;refine al ?_;refine⟨by omega,bw,(bl,c,d),⟨rfl,trivial⟩,(aC.trans aw).grown n0 fun i ad=>(eX.lt i ad).1,?_⟩;rw[o.Tq,show l.getD k 0=0 from by simp[List.getD,List.getElem?_eq_none (show l.length≤k by omega)]];exact ey
 ·have o3:k=n - 1:=by omega
  subst o3;refine al ?_;exact⟨eX,aC⟩
theorem afb(v:Value)(l:List Int)(w:World)(h:e4 w v l)(aP:l.length≤100000) :
  bu Tryz.prog F.CI #[v] w fun u w'=>((o.p2 l=none∧u = .tuple #[.slice none 0 0,.int .i64 0,.bool false])∨(∃r x kg,o.p2 l=some (r,x)∧u = .tuple #[kg,.int .i64 x,.bool true]∧k9 w.heap.size w' kg r))∧Ext w w':=by
 obtain⟨e1,fu,rfl,fQ⟩:=h.form;refine bM E.CI ?_;refine bF ?_;refine al ?_;refine K.call (TW _ l w h aP) ?_;rintro u av ⟨qF,aA⟩;have fT:=oq qF;obtain⟨eu,ci,rfl,_⟩:=fT.form;refine al ?_;apply K.cond<;>intro g1
 ·have ad:o.kI l=[]:=List.eq_nil_of_length_eq_zero (by omega);refine al ?_;exact⟨.inl ⟨by unfold o.p2;rw[ad],bw⟩,aA⟩
 have pJ:=o.Sl l;obtain⟨x,r,ad⟩:∃x r,o.kI l=x :: r:=by
  cases ax:o.kI l with
  | nil=>rw[ax] at g1;simp at g1
  | cons x r=>exact⟨x,r,rfl⟩
 obtain⟨lY,rfl⟩:=fT.addr (by omega);refine al ?_;intro aT aC;have Qs:=fT.ext Flat.ext aC;have eb:=h.ext Flat.ext (aA.trans aC);refine al ?_;refine K.Uu (k:=.i64) 1 Qs rfl (by omega) fun au c aO=>?_;have QW:(o.kI l).drop 1=r:=by rw[ad];rfl
 have RW:(o.kI l)[0]'(by omega)=x:=by simp[ad]
 rw[QW] at aO;refine al ?_;refine K.dk 0 rfl (by omega) ?_;refine al ?_;refine K.call (T5 l.length _ r aT (by have:=aO.len.1;exact aO) (by omega)) ?_;rintro u bf ⟨eY,aw⟩;refine⟨aw,?_⟩;refine al ?_;refine⟨.inr ⟨o.ts l.length r,x,u,by unfold o.p2;rw[ad],by rw[RW],bs.low (aA.trans aC).size eY⟩,(aA.trans aC).trans aw⟩
theorem afa(v:Value)(l:List Int)(x:Int)(w:World)(h:e4 w v l)(aP:l.length≤100000) :
  bu Tryz.prog F.CH #[v,.int .i64 x] w fun u w'=>((o.ov l x=none∧u = .tuple #[.slice none 0 0,.bool false])∨(∃r kg,o.ov l x=some r∧u = .tuple #[kg,.bool true]∧k9 w.heap.size w' kg r))∧Ext w w':=by
 obtain⟨e1,fu,rfl,fQ⟩:=h.form;refine bM E.CH ?_;refine bF ?_;refine al ?_;refine K.call (TU _ l w h) ?_;rintro _ av ⟨rfl,aA⟩;by_cases aB:o.k2 l=true;rotate_left
 ·have Jq:o.k2 l=false:=by simpa using aB
  rw[Jq];refine al ?_;exact⟨.inl ⟨by unfold o.ov;rw[if_neg (fun e=>aB e.1)],bw⟩,aA⟩
 rw[aB];obtain⟨aj,h1,U,ag⟩:=o.FL.1 aB;obtain⟨a,rfl⟩:=h.addr aj;have fA:=h.ext Flat.ext aA;have br:l.headD 0=l[0]:=by cases l with | nil=>simp at aj | cons n r=>rfl
 refine al ?_;apply K.cond<;>intro g1
 ·refine al ?_;exact⟨.inl ⟨by unfold o.ov;rw[if_neg (fun e=>e.2 (by rw[br];omega))],bw⟩,aA⟩
 refine al ?_;refine K.call (TW _ l av fA aP) ?_;rintro u aT ⟨eX,aC⟩;obtain⟨eu,ci,rfl,_⟩:=(oq eX).form;have pJ:=o.Sl l;refine al ?_;intro bf b5 fU aw bK;refine al ?_;refine K.mr (y:=x) (eX.ext aw) bK rfl (fun _=>rfl) j4 (by omega) (by unfold maxLen;omega) (by have:=aC.size;have:=aw.size;omega) fun bl c d bq ey n0=>?_;have b3:Ext av bq:=(aC.trans aw).grown n0 fun i ad=>(eX.lt i ad).1;refine al ?_;refine K.call (T5 l.length _ _ bq (oq ey) (by omega)) ?_;rintro u bS ⟨ea,bj⟩;refine al ?_;exact⟨.inr ⟨_,_,by unfold o.ov;rw[if_pos ⟨aB,by rw[br];omega⟩],rfl,bs.low (aA.trans b3).size ea⟩,(aA.trans b3).trans bj⟩
theorem TK(c:o.dG)(fD eD:Value)(w:World)(bp:o.mR w eD c.b4) :
  bu Tryz.prog F.zf #[.agg (c.enc fD eD).toArray] w fun v w'=>v = .tuple #[.int .i64 (o.comm c.b4).1,.int .i64 (o.comm c.b4).2]∧Ext w w':=by
 obtain⟨bl,cap,rfl,hlen⟩:=bp.form;refine bM E.zf ?_;refine bF ?_;refine al ?_;intro av bC cL aA aq;unfold o.dG.enc at aq;refine al ?_;refine K.df 4 c.b4.length [1] (fun _=>[]) () (fun k _ w'=>Ext av w'∧o.comm c.b4=o.comm (c.b4.drop k)) bB bB ⟨Ext.refl _,by simp⟩ ?_;have gr:=aq;clear aq;rintro k _ S aT hk ⟨fl,bH⟩;have aq:=fl.obj gr;have aC:=aA.trans fl;refine al ?_;apply K.cond<;>intro g1
 ·have bh:k<c.b4.length:=by omega
  obtain⟨a,rfl⟩:=bp.addr (by omega);obtain⟨cr,ct,mD,fm,pM⟩:=bp.at k bh;rw[o.XG bh] at bH;replace mD:=mD.ext aC;unfold o.Act.enc at mD;refine al ?_;apply K.cond<;>intro g2
  ·refine al ?_;intro bf aw;refine al ?_;rw[bH,if_pos (by simp[o.gh,g2])];exact⟨bw,aC.trans aw⟩
  refine al ?_;apply K.cond<;>intro g3
  ·refine al ?_;intro bf aw;refine al ?_;rw[bH,if_pos (by simp[o.gh,g3])];exact⟨bw,aC.trans aw⟩
  refine al ?_;rw[if_neg (by simp[o.gh,g2,g3])] at bH;exact⟨bh,bw,(),by trivial,fl,bH⟩
 ·refine al ?_;rw[bH,List.drop_eq_nil_of_le (by omega)];exact⟨bw,aC⟩
theorem afk(c:o.dG)(fD eD dM:Value)(l:List o.c5)(w:World)(bp:o.mR w eD c.b4)(aP:o.lN w dM l) :
  bu Tryz.prog F.Cp #[.agg (c.enc fD eD).toArray,dM] w fun v w'=>v = .int .i64 (o.ways c l)∧Ext w w':=by
 obtain⟨bl,cap,rfl,hlen⟩:=aP.form;obtain⟨ajf,yj,rfl,Fv⟩:=bp.form;refine bM E.Cp ?_;refine bF ?_;refine al ?_;intro av bC cL aA aq;refine al ?_;refine K.call (TK c fD _ av (bp.ext aA)) ?_;rintro _ aT ⟨rfl,aC⟩;have ba:=aA.trans aC;rw[o.ways];refine al ?_;apply K.cond<;>intro g1;rotate_left
 ·refine al ?_;rw[if_neg g1];exact⟨bw,ba⟩
 rw[if_pos g1];refine al ?_;apply K.cond<;>intro g2;rotate_left
 ·refine al ?_;rw[o.gQ (.inl (by omega))];exact⟨bw,ba⟩
 refine al ?_;apply K.cond<;>intro g3;rotate_left
 ·refine al ?_;rw[o.gQ (.inr (by omega))];exact⟨bw,ba⟩
 rw[o.hX (by omega) (by omega)];obtain⟨a,rfl⟩:=aP.addr (by omega);have ad:(o.comm c.b4).2.toNat<l.length:=by omega
 have et:=((aP.at _ ad).cells).ext ba;refine al ?_;refine K.dk (o.comm c.b4).2.toNat (by omega) ad ?_;refine al ?_;refine K.c4 (fun g4=>?_) (fun g4=>?_)
 ·refine al ?_;rw[if_pos g4];exact⟨bw,ba⟩
 ·refine al ?_;rw[if_neg (by simp[g4])];exact⟨bw,ba⟩
structure oN(w:World)(cs:List Value)(m:o.Model):Prop where
 ex:∃ms ys cr kg,cs=ms++ys++[cr,kg]∧o.er w ms m∧o.jr w ys (o.layout m)∧oE w cr (o.insts m)∧NX w kg (o.refs m)
theorem oN.ext{w w':World}{cs:List Value}{m:o.Model}(he:Ext w w')(h:oN w cs m):oN w' cs m :=
 let ⟨ms,ys,cr,kg,aj,h1,U,ag,aK⟩:=h.ex; ⟨ms,ys,cr,kg,aj,h1.ext he,U.ext he,ag.ext Flat.ext he,aK.ext Flat.ext he⟩
theorem oN.form{w:World}{cs:List Value}{m:o.Model}(h:oN w cs m):∃hJ d0 ff d1 gf d2 gV d3 ij d4 cy bO b9 c1 ch c2 cm bN cA bT eu ci mb nM,
  cs=[.slice hJ m.scalars.length d0,.slice ff m.vars.length d1,.slice gf m.aJ.length d2,.slice gV m.procs.length d3,.slice ij m.props.length d4,
   .slice cy (o.layout m).vars.length bO,.slice b9 (o.layout m).aJ.length c1,.slice ch (o.layout m).insts.length c2,.int .i64 (o.layout m).cells,.slice cm (o.layout m).aZ.length bN,.slice cA (o.layout m).ad.length bT,.slice eu (o.insts m).length ci,.slice mb (o.refs m).length nM] ∧
  o.er w [.slice hJ m.scalars.length d0,.slice ff m.vars.length d1,.slice gf m.aJ.length d2,.slice gV m.procs.length d3,.slice ij m.props.length d4] m ∧
  o.jr w [.slice cy (o.layout m).vars.length bO,.slice b9 (o.layout m).aJ.length c1,.slice ch (o.layout m).insts.length c2,.int .i64 (o.layout m).cells,.slice cm (o.layout m).aZ.length bN,.slice cA (o.layout m).ad.length bT] (o.layout m) ∧
  bz 1 (Flat dA) w (.slice cy (o.layout m).vars.length bO) (o.layout m).vars∧bz 1 (Flat dA) w (.slice b9 (o.layout m).aJ.length c1) (o.layout m).aJ∧bz 1 (Flat dA) w (.slice ch (o.layout m).insts.length c2) (o.layout m).insts ∧
  bz 1 (Flat dA) w (.slice cm (o.layout m).aZ.length bN) (o.layout m).aZ∧bz 1 (Flat dA) w (.slice cA (o.layout m).ad.length bT) (o.layout m).ad ∧
  o.gi w (.slice hJ m.scalars.length d0) m.scalars∧o.gJ w (.slice ff m.vars.length d1) m.vars∧o.lN w (.slice gf m.aJ.length d2) m.aJ∧o.pt w (.slice gV m.procs.length d3) m.procs ∧
  oE w (.slice eu (o.insts m).length ci) (o.insts m)∧NX w (.slice mb (o.refs m).length nM) (o.refs m):=by
 obtain⟨ms,ys,cr,kg,rfl,bg,dE,bH,gq⟩:=h.ex;have Bc:=bg;have Zu:=dE;obtain⟨cy,bO,b9,c1,ch,c2,cm,bN,cA,bT,rfl,gW,fr,fL,hp,jS⟩:=dE.form;obtain⟨hJ,d0,ff,d1,gf,d2,gV,d3,ij,d4,rfl,aj,h1,U,ag,aK,_⟩:=bg.form;obtain⟨eu,ci,rfl,_⟩:=bH.form;obtain⟨mb,nM,rfl,_⟩:=gq.form;exact⟨hJ,d0,ff,d1,gf,d2,gV,d3,ij,d4,cy,bO,b9,c1,ch,c2,cm,bN,cA,bT,eu,ci,mb,nM,rfl,Bc,Zu,gW,fr,fL,hp,jS,aj,h1,U,ag,bH,gq⟩
theorem aer(cs ys:List Value)(m:o.Model)(w:World)(h:o.er w cs m)(a8:m.cX)(bg:o.eI m)(dE:o.jr w ys (o.layout m)) :
  bu Tryz.prog F.CJ #[.agg cs.toArray,.agg ys.toArray] w fun u w'=>(∃cr kg,u = .agg (cs++ys++[cr,kg]).toArray∧bs o.c3.enc T.l 2 w.heap.size w' cr (o.insts m)∧bs o.Ref.enc T.p 2 w.heap.size w' kg (o.refs m))∧Ext w w':=by
 have fP:=h;have rq:=dE;obtain⟨cy,bO,b9,c1,ch,c2,cm,bN,cA,bT,rfl,_⟩:=h.form;obtain⟨jW,d0,lK,d1,lL,d2,mi,d3,lM,d4,rfl,_⟩:=dE.form;refine bM E.CJ ?_;refine bF ?_;refine al ?_;intro av ca dB aA aM;refine al ?_;intro aT b5 fU aC bK;replace aM:=aC.obj aM;refine al ?_;intro bf cO fo aw bI;have z4:=cM bI;replace aM:=aw.obj aM;replace bK:=aw.obj bK;have bQ:=(aA.trans aC).trans aw;have fE:=aA.size;have z2:=aC.size;refine al ?_;intro bq aR;have b3:=bQ.trans aR;replace aM:=aR.obj aM;replace bK:=aR.obj bK;replace bI:=aR.obj bI;refine al ?_;refine K.call (Da _ m bq (fP.ext b3) a8) ?_;rintro cr bS ⟨fm,bj⟩;obtain⟨eu,ci,rfl,_⟩:=fm.form;have cc:=b3.trans bj;refine⟨bj,?_⟩;refine al ?_;refine K.call (TP _ m bS (fP.ext cc) a8 bg.lim) ?_;rintro kg bX ⟨np,bk⟩;obtain⟨mb,nM,rfl,_⟩:=np.form;have c0:=cc.trans bk;refine⟨bj.trans bk,?_⟩;replace bI:=(bj.trans bk).obj bI;refine al ?_;intro cn ek da;have dZ:Ext w cn:=ek.ext c0 (by omega);have afm:=aw.size;have nz:=aR.size;have mL:=bj.size;refine al ?_;exact⟨⟨_,_,rfl,bs.low b3.size (bs.wr ek (by omega) (fm.ext bk)),bs.low cc.size (bs.wr ek (by omega) np)⟩,dZ⟩
end Go.Proofs.R
end
section
namespace o
open Go
theorem Wr{m:Model}{c:Nat}(h:c<fH m):∃bA:c<(b1 m).length,Az m c=((b1 m)[c].aZ,(b1 m)[c].ad):=by
 have bA:c<(b1 m).length:=h;exact⟨bA,by unfold Az;rw[List.getElem?_eq_getElem bA]⟩
end o
namespace Go.Proofs.R
open Go Go.RowKit bt
def Vd:List Value:=[.slice none 0 0,.slice none 0 0,.slice none 0 0,.slice none 0 0,.slice none 0 0,.slice none 0 0,.slice none 0 0,.slice none 0 0,.int .i64 0,.slice none 0 0,.slice none 0 0,.slice none 0 0,.slice none 0 0]
theorem aes(cs:List Value)(m:o.Model)(w:World)(h:o.er w cs m)(a8:m.cX) :
  bu Tryz.prog F.CK #[.agg cs.toArray] w fun u w'=>((¬(o.check m).dp=0∧u = .tuple #[.agg Vd.toArray,.bool false])∨((o.check m).dp=0∧∃qY,u = .tuple #[.agg qY.toArray,.bool true]∧oN w' qY m))∧Ext w w':=by
 have fP:=h;obtain⟨cy,bO,b9,c1,ch,c2,cm,bN,cA,bT,rfl,_⟩:=h.form;refine bM E.CK ?_;refine bF ?_;refine al ?_;intro av bC cL aA aq;refine al ?_;intro aT ca dB aC aM;have z2:=cM aM;have agR:=aA.size;replace aq:=aC.obj aq;have ba:=aA.trans aC;refine al ?_;refine K.call (KN _ m aT (fP.ext ba) a8) ?_;rintro _ bf ⟨rfl,aw⟩;replace aq:=aw.obj aq;replace aM:=aw.obj aM;have bQ:=ba.trans aw;unfold ux;refine al ?_;refine K.kx (v:=.int .i64 (o.check m).dp) rfl ?_;refine al ?_;refine K.cond (fun hk=>?_) (fun hk=>?_);rotate_left
 ·refine al ?_;intro bq ee bI;refine al ?_;exact⟨.inl ⟨hk,bw⟩,ee.ext bQ (by omega)⟩
 have bg:=o.qO hk;refine al ?_;intro bq aR;replace aq:=aR.obj aq;replace aM:=aR.obj aM;have b3:=bQ.trans aR;refine al ?_;refine K.call (TO _ m bq (fP.ext b3) a8 bg) ?_;rintro _ bS ⟨⟨ys,rfl,wu⟩,bj⟩;have dE:=wu.here;have cc:=b3.trans bj;refine⟨bj,?_⟩;refine al ?_;refine K.call (aer _ ys m bS (fP.ext cc) a8 bg dE) ?_;rintro _ bX ⟨⟨cr,kg,rfl,fm,np⟩,bk⟩;have c0:=cc.trans bk;replace aM:=(bj.trans bk).obj aM;obtain⟨jW,d0,lK,d1,lL,d2,mi,d3,lM,d4,rfl,_⟩:=dE.form;obtain⟨eu,ci,rfl,_⟩:=fm.form;obtain⟨mb,nM,rfl,_⟩:=np.form;have nz:=aR.size;have afm:=aw.size;have mL:=bj.size;have akd:=cM aM;refine al ?_;intro cn ek da;have dZ:Ext w cn:=ek.ext c0 (by omega);have Zw:=((wu.ext bk mL).wr ek (by omega)).here;refine al ?_;exact⟨.inr ⟨hk,_,rfl,_,_,_,_,rfl,fP.ext dZ,Zw,bs.lH (enc:=o.c3.enc) (fun _=>rfl) (bs.wr ek (by omega) fm),bs.lH (enc:=o.Ref.enc) (fun _=>rfl) (bs.wr ek (by omega) np)⟩,dZ⟩
theorem KE(cs:List Value)(m:o.Model)(ref:Int)(q p k:Nat)(w:World)(h:oN w cs m)(cK:o.gZ m ref q p k) :
  bu Tryz.prog F.xc #[.agg cs.toArray,.int .i64 ref] w fun u w'=>(∃fD eD,u = .agg ((o.dQ m p k).enc fD eD).toArray∧o.fG w fD (o.dQ m p k).guard∧o.mR w eD (o.dQ m p k).b4)∧Ext w w':=by
 obtain⟨hJ,d0,ff,d1,gf,d2,gV,d3,ij,d4,cy,bO,b9,c1,ch,c2,cm,bN,cA,bT,eu,ci,mb,nM,rfl,_,_,_,_,_,_,_,_,_,_,ag,bH,gq⟩:=h.form;have aB:=cK.at_.ad;have aO:=cK.at_.aO;have yP:=cK.at_.hk;have sS:=cK.at_.ip;obtain⟨r,rfl⟩:=Int.eq_ofNat_of_zero_le cK.aZ;have bd:r<(o.refs m).length:=cK.ad;have o8:(o.refs m)[r].inst=(q:Int):=cK.at_.Db;have BU:(o.refs m)[r].cmd=(k:Int):=cK.at_.Dc;obtain⟨x3,rfl⟩:=gq.addr (by omega);obtain⟨lY,rfl⟩:=bH.addr (by omega);obtain⟨a3,rfl⟩:=ag.addr (by omega);obtain⟨oa,ct,dM,ej,eJ,hi⟩:=ag.at p aO;obtain⟨ads,WY,rfl,acA⟩:=hi.form;obtain⟨ac,rfl⟩:=hi.addr (by omega);obtain⟨gA,fD,eD,gr,jO,jF⟩:=hi.at k yP;obtain⟨oo,kU,rfl,_⟩:=jO.form;obtain⟨zu,yi,rfl,_⟩:=jF.form;unfold o.dj.enc at ej;unfold o.dG.enc at gr;refine bM E.xc ?_;refine bF ?_;refine al ?_;intro av ca dB aA aM;refine al ?_;intro aT cO fo aC bI;have z4:=cM bI;have agR:=aA.size;replace aM:=aC.obj aM;have ba:=aA.trans aC;have Zy:=gq.ext Flat.ext ba;refine al ?_;intro bf dH mB aw cC;have H3:(o.refs m)[r].enc=[.int .i64 q,.int .i64 k]:=by unfold o.Ref.enc;rw[o8,BU]
 rw[H3] at cC;replace aM:=aw.obj aM;replace bI:=aw.obj bI;have bQ:=ba.trans aw;have Qp:=bH.ext Flat.ext bQ;have uP:=ej.ext bQ;have QR:=gr.ext bQ;clear Zy;refine al ?_;intro bq aR;replace aM:=aR.obj aM;replace bI:=aR.obj bI;replace cC:=aR.obj cC;replace Qp:=Qp.ext Flat.ext aR;replace uP:=uP.ext aR;replace QR:=QR.ext aR;refine al ?_;refine K.dk p (by rw[sS]) aO ?_;refine al ?_;intro bS fx yF;refine al ?_;have wE:=o.Ex aO yP;exact⟨⟨.slice oo (o.dQ m p k).guard.length kU,.slice zu (o.dQ m p k).b4.length yi,by rw[wE];rfl,by rw[wE];exact jO,by rw[wE];exact jF⟩,fx.ext (bQ.trans aR) (by omega)⟩
theorem KH(cs:List Value)(v:Value)(m:o.Model)(s:List Int)(c:Nat)(w:World)(h:oN w cs m)(bg:o.eI m)(ay:e4 w v s)(aP:s.length=o.fH m)(ax:c<m.aJ.length) :
  bu Tryz.prog F.xd #[.agg cs.toArray,v,.int .i64 c] w fun u w'=>e4 w' u (o.chanOf m s c)∧Ext w w':=by
 obtain⟨hJ,d0,ff,d1,gf,d2,gV,d3,ij,d4,cy,bO,b9,c1,ch,c2,cm,bN,cA,bT,eu,ci,mb,nM,rfl,_,_,gW,fr,fL,hp,jS,aj,h1,U,ag,bH,gq⟩:=h.form;obtain⟨e1,fu,rfl,fQ⟩:=ay.form;obtain⟨lr,e3⟩:=o.vW ax;have hz:=(bg.chan _ (List.getElem_mem ax)).cap;have wQ:=o.oU ax;have gA:=o.oV ax;have oZ:o.fH m≤64:=o.mJ bg;obtain⟨dy,rfl⟩:=fr.addr (by omega);obtain⟨vN,rfl⟩:=U.addr (by omega);have et:=(U.at c ax).cells;refine bM E.xd ?_;refine bF ?_;refine al ?_;intro av b5 fU aA bK;have KD:=fr.ext Flat.ext aA;replace et:=et.ext aA;have fA:=ay.ext Flat.ext aA;refine al ?_;refine K.Gi (k:=.i64) (k':=.i64) (o.cZ m c) (o.cZ m c+(1+o.jd m c)) fA (by simp[fv,cd,e3]) (by simp[fv,cd,e3];omega) (by omega) (by omega) fun au l0 aO=>?_;refine al ?_;refine⟨?_,aA⟩;rw[show o.cZ m c+(1+o.jd m c) - o.cZ m c=1+o.jd m c from by omega] at aO ⊢;exact aO
theorem Ge(cs:List Value)(v:Value)(m:o.Model)(s:List Int)(c:Nat)(x n:Int)(w:World)(h:oN w cs m)(bg:o.eI m)(ay:e4 w v s)(aP:s.length=o.fH m)(ar:x=c)(ax:c<o.fH m) :
  bu Tryz.prog F.u4 #[.agg cs.toArray,v,.int .i64 x,.int .i64 n] w fun u w'=>((o.putAt m s c n=none∧u = .tuple #[.slice none 0 0,.bool false])∨(∃t mg,o.putAt m s c n=some t∧u = .tuple #[mg,.bool true]∧k9 w.heap.size w' mg t))∧Ext w w':=by
 subst ar;obtain⟨hJ,d0,ff,d1,gf,d2,gV,d3,ij,d4,cy,bO,b9,c1,ch,c2,cm,bN,cA,bT,eu,ci,mb,nM,rfl,_,_,gW,fr,fL,hp,jS,aj,h1,U,ag,bH,gq⟩:=h.form;obtain⟨e1,fu,rfl,fQ⟩:=ay.form;obtain⟨fa,rr⟩:=o.Wr ax;have f2:=o.SJ m;have f3:=o.SH m;have yR:(o.b1 m).length=o.fH m:=rfl;have dV:(o.layout m).aZ[c]'(by omega)=(o.b1 m)[c].aZ:=o.SI _ fa;have eo:(o.layout m).ad[c]'(by omega)=(o.b1 m)[c].ad:=o.SG _ fa;have oZ:o.fH m≤64:=o.mJ bg;obtain⟨a3,rfl⟩:=hp.addr (by omega);obtain⟨a4,rfl⟩:=jS.addr (by omega);refine bM E.u4 ?_;refine bF ?_;refine al ?_;intro av cO fo aA bI;have C5:=hp.ext Flat.ext aA;have ajv:=jS.ext Flat.ext aA;refine al ?_;apply K.cond<;>intro g1
 ·refine al ?_;exact⟨.inl ⟨by unfold o.putAt;rw[rr,if_pos (.inl (by simp only;omega))],bw⟩,aA⟩
 refine al ?_;apply K.cond<;>intro g2
 ·refine al ?_;exact⟨.inl ⟨by unfold o.putAt;rw[rr,if_pos (.inr (by simp only;omega))],bw⟩,aA⟩
 refine al ?_;refine K.call (TL _ s c n _ (ay.ext Flat.ext aA) rfl (by omega) (by omega)) ?_;rintro u aT ⟨eX,aC⟩;refine al ?_;exact⟨.inr ⟨_,_,by unfold o.putAt;rw[rr,if_neg (by simp only;omega)],rfl,bs.low aA.size eX⟩,aA.trans aC⟩
theorem KR(cs:List Value)(v k7:Value)(m:o.Model)(s l:List Int)(c:Nat)(w:World)(h:oN w cs m)(bg:o.eI m)(ay:e4 w v s)(aI:e4 w k7 l)(aP:s.length=o.fH m)(ax:c<m.aJ.length)(n3:l.length=1+o.jd m c) :
  bu Tryz.prog F.xe #[.agg cs.toArray,v,.int .i64 c,k7] w fun u w'=>k9 w.heap.size w' u (o.kH s (o.cZ m c) l)∧Ext w w':=by
 obtain⟨hJ,d0,ff,d1,gf,d2,gV,d3,ij,d4,cy,bO,b9,c1,ch,c2,cm,bN,cA,bT,eu,ci,mb,nM,rfl,_,_,gW,fr,fL,hp,jS,aj,h1,U,ag,bH,gq⟩:=h.form;obtain⟨e1,fu,rfl,fQ⟩:=ay.form;obtain⟨on,vZ,rfl,ai5⟩:=aI.form;obtain⟨lr,e3⟩:=o.vW ax;have wQ:=o.oU ax;have oZ:o.fH m≤64:=o.mJ bg;obtain⟨dy,rfl⟩:=fr.addr (by omega);refine bM E.xe ?_;refine bF ?_;refine al ?_;intro av cO fo aA bI;have KD:=fr.ext Flat.ext aA;have fA:=ay.ext Flat.ext aA;have uN:=aI.ext Flat.ext aA;refine al ?_;intro aT aC;have eb:=fA.ext Flat.ext aC;have jE:=uN.ext Flat.ext aC;have ba:=aA.trans aC;refine al ?_;refine K.afF (k:=.i64) (o.cZ m c) eb (by simp[fv,cd,e3]) (by omega) fun ajd ahb e2=>?_;refine al ?_;refine K.Uu (k:=.i64) (o.cZ m c+l.length) eb (by simp[fv,cd,e3]) (by omega) fun aje gK hT=>?_;refine al ?_;intro bf b5 fU aw bK;have eY:k9 aT.heap.size bf (.slice (some ⟨b5,0,none⟩) 0 0) []:=bs.empty fU bK;have tl:(s.take (o.cZ m c)).length≤64:=by rw[List.length_take];omega
 have dl:(s.drop (o.cZ m c+l.length)).length≤64:=by rw[List.length_drop];omega
 refine al ?_;refine K.vO eY (e2.ext Flat.ext aw) (fun _=>rfl) j4 (by simp only[List.length_nil];omega) (by simp only[List.length_nil];unfold maxLen;omega) aw.size fun v4 bq ey n0=>?_;have ed:Ext aT bq:=aw.grown n0 fun i ad=>(eY.lt i ad).1;rw[List.nil_append] at ey;obtain⟨gR,agn,rfl,_⟩:=ey.form;refine al ?_;refine K.vO ey (jE.ext Flat.ext ed) (fun _=>rfl) j4 (by omega) (by unfold maxLen;omega) ed.size fun v5 bS ea kD=>?_;have iq:Ext aT bS:=ed.grown kD fun i ad=>(ey.lt i ad).1;obtain⟨pf,ajD,rfl,_⟩:=ea.form;refine al ?_;refine K.vO ea (hT.ext Flat.ext iq) (fun _=>rfl) j4 (by rw[List.length_append];omega) (by rw[List.length_append];unfold maxLen;omega) iq.size fun v6 bX dn jM=>?_;have kj:Ext aT bX:=iq.grown jM fun i ad=>(ea.lt i ad).1;obtain⟨rV,ajE,rfl,_⟩:=dn.form;refine al ?_;exact⟨bs.low ba.size dn,ba.trans kj⟩
end Go.Proofs.R
end
section
namespace o
open Go
theorem O3{m:Model}{i:Nat}(h:i<m.aJ.length):cZ m (i+1)=cZ m i+(1+jd m i):=by rw[WR h,oV h]
theorem Ht{m:Model}:∀(d i:Nat),i+d≤m.aJ.length→cZ m i≤cZ m (i+d)
 | 0,_,_=>Nat.le_refl _
 | d+1,i,h=>by
  have:=Ht (m:=m) d i (by omega)
  have:=O3 (m:=m) (i:=i+d) (by omega)
  rw[←Nat.add_assoc];omega
theorem O2{m:Model}{i j:Nat}(Ft:i<j)(aU:j<m.aJ.length):cZ m i+(1+jd m i)≤cZ m j:=by
 have h1:=O3 (m:=m) (i:=i) (by omega);have U:=Ht (m:=m) (j - (i+1)) (i+1) (by omega);rw[show i+1+(j - (i+1))=j from by omega] at U;omega
theorem WQ(m:Model)(i:Nat)(h:i≤m.aJ.length):total (cG m)≤cZ m i:=by
 have:=Ht (m:=m) i 0 (by omega)
 rw[Nat.zero_add,WS] at this;exact this
theorem acw{m:Model}{i j:Nat}(ad:i<m.aJ.length)(aU:j<(lh m.scalars m.aJ[i]).length):∃h:cZ m i+j<(b1 m).length,(b1 m)[cZ m i+j].aZ=(lh m.scalars m.aJ[i])[j].aZ∧(b1 m)[cZ m i+j].ad=(lh m.scalars m.aJ[i])[j].ad:=by
 have hw:i<(dc m).length:=by simpa[dc] using ad
 have e:(dc m)[i]=lh m.scalars m.aJ[i]:=by simp[dc]
 have hk:j<(dc m)[i].length:=by rw[e];exact aU
 have h1:=Hz 2 (dc m) 0 i j hw hk;have nY:=yh ad;rw[sn] at aU;have U:=acv (m:=m) (c:=cZ m i+j) (by unfold cZ;omega) (by omega);rw[show cZ m i+j - total (cG m)=total ((dc m).take i)+j from by unfold cZ;omega,h1] at U;obtain⟨ag,aK⟩:=List.getElem?_eq_some_iff.1 U;refine⟨ag,?_,?_⟩
 ·rw[aK];simp only[e]
 ·rw[aK];simp only[e]
theorem YN{m:Model}{s:List Int}{c:Nat}{n:Int}(aN:Fits m s)(bd:c<total (cG m)∨total (cG m)+total (dc m)≤c)(aD:∀h:c<(b1 m).length,(b1 m)[c].aZ≤n∧n≤(b1 m)[c].ad):Fits m (s.set c n):=by
 refine⟨by rw[List.length_set];exact aN.len,fun i ad=>?_,fun j aU ef=>?_⟩
 ·have h1:=yh ad;have U:=WQ m i (by omega)
  have:nK m i m.aJ[i] (s.set c n)=nK m i m.aJ[i] s:=Gj fun k hk=>List.getElem?_set_ne (by omega)
  rw[this];exact aN.queue i ad
 ·rw[List.getElem_set];split
  ·rename_i e;subst e;exact aD ef
  ·exact aN.cell j (by rw[List.length_set] at aU;exact aU) ef
theorem ael{s:List Scalar}{c:c5}{l:List Int}(hz:1≤c.cap)(h:lT s c l){j:Nat}(aU:j<(lh s c).length):∃x,l[j]? = some x∧(lh s c)[j].aZ≤x∧x≤(lh s c)[j].ad:=by
 obtain⟨n,aj,h1,U,ag⟩:=h;cases j with
 | zero=>exact⟨n,aj,h1,U⟩
 | succ k =>
  rw[sn] at aU;obtain⟨x,ar,bp,aD⟩:=ag k (by omega);refine⟨x,ar,?_⟩;have e:(lh s c)[k+1]'(by rw[sn];omega)=jy s c:=by simp[lh]
  rw[e];unfold jy;unfold eM at bp ⊢;by_cases aI:(k:Int)<n
  ·have:=bp aI
   split at this<;>rename_i ay
   ·rw[if_pos ay];simp only at this ⊢;omega
   ·rw[if_neg ay];exact this
  ·have:=aD (by omega)
   subst this;split
   ·simp only;omega
   ·simp only
    have:=size_le c.scalar s
    omega
theorem P8{m:Model}{s l:List Int}{i:Nat}(aN:Fits m s)(ad:i<m.aJ.length)(hz:1≤m.aJ[i].cap)(aP:l.length=1+jd m i)(aB:lT m.scalars m.aJ[i] l):Fits m (kH s (cZ m i) l):=by
 have wQ:=oU ad;have nY:cZ m i+l.length≤s.length:=by rw[aN.len];omega
 have gA:=oV ad;refine⟨by rw[uV nY];exact aN.len,fun j aU=>?_,fun x ar rK=>?_⟩
 ·by_cases e:j=i
  ·subst e
   have:nK m j m.aJ[j] (kH s (cZ m j) l)=l:=by
    apply List.ext_getElem?;intro k;unfold nK;rw[List.getElem?_take,List.getElem?_drop];split
    ·rw[y1 nY,if_pos ⟨by omega,by omega⟩,show cZ m j+k - cZ m j=k from by omega]
    ·rw[List.getElem?_eq_none (by omega)]
   rw[this];exact aB
  ·have yN:=oV aU
   have:nK m j m.aJ[j] (kH s (cZ m i) l)=nK m j m.aJ[j] s:=Gj fun k hk=>by
    rw[y1 nY,if_neg];rcases Nat.lt_or_gt_of_ne e with h | h
    ·have:=O2 h ad;omega
    ·have:=O2 h aU;omega
   rw[this];exact aN.queue j aU
 ·have hV:x<s.length:=by rw[uV nY] at ar;exact ar
  have a8:=y1 nY x;rw[List.getElem?_eq_getElem ar] at a8;by_cases fw:cZ m i≤x∧x<cZ m i+l.length
  ·rw[if_pos fw] at a8;have Rk:x - cZ m i<(lh m.scalars m.aJ[i]).length:=by rw[sn];omega
   obtain⟨y,cx,bC,ca⟩:=ael hz aB Rk;obtain⟨ag,aK,bc⟩:=acw ad Rk;rw[cx] at a8;have e:x=cZ m i+(x - cZ m i):=by omega
   have n2:(b1 m)[x]=(b1 m)[cZ m i+(x - cZ m i)]:=by congr 1
   injection a8 with a8
   rw[a8,n2,aK,bc];exact⟨bC,ca⟩
  ·rw[if_neg fw,List.getElem?_eq_getElem hV] at a8;injection a8 with a8
   rw[a8];exact aN.cell x hV rK
theorem adU{n:Nat}{l:List Int}{k:Nat}(hk:k+1<n):(ts n l)[k+1]? = some (l.getD k 0):=by
 unfold ts;rw[List.getElem?_cons_succ,List.getElem?_map,List.getElem?_range (by omega)];rfl
theorem Tp{s:List Scalar}{c:c5}{l:List Int}(hz:1≤c.cap)(aP:(l.length:Int)≤c.cap)(aD:∀x∈l,(eM c.scalar c.aZ c.ad s).aZ≤x∧x≤(eM c.scalar c.aZ c.ad s).ad):lT s c (ts (1+c.cap.toNat) l):=by
 refine⟨l.length,rfl,by omega,aP,fun k hk=>⟨l.getD k 0,adU (by omega),fun o3=>?_,fun o3=>?_⟩⟩
 ·have rD:k<l.length:=by omega
  have e:l.getD k 0=l[k]:=by simp[rD]
  rw[e];exact aD _ (List.getElem_mem rD)
 ·simp[List.getD,List.getElem?_eq_none (show l.length≤k by omega)]
theorem Tz{s:List Scalar}{c:c5}{l:List Int}(aP:l.length=1+c.cap.toNat)(hz:1≤c.cap)(h:lT s c l):k2 l=true∧((kI l).length:Int)≤c.cap∧l.headD 0=(kI l).length∧∀x∈kI l,(eM c.scalar c.aZ c.ad s).aZ≤x∧x≤(eM c.scalar c.aZ c.ad s).ad:=by
 obtain⟨n,aj,h1,U,ag⟩:=h;obtain⟨a,r,rfl⟩:∃a r,l=a :: r:=by
  cases l with
  | nil=>simp at aP;omega
  | cons a r=>exact⟨a,r,rfl⟩
 simp only[List.getElem?_cons_zero,Option.some.injEq] at aj;subst aj;simp only[List.length_cons] at aP;have aB:k2 (a :: r)=true:=by
  simp only[k2,Bool.and_eq_true,decide_eq_true_eq,List.all_eq_true];refine⟨⟨h1,by omega⟩,fun x ar=>?_⟩;obtain⟨k,hk,rfl⟩:=List.mem_iff_getElem.1 ar;rw[List.length_drop] at hk;rw[List.getElem_drop];obtain⟨x,ar,_,bU⟩:=ag (a.toNat+k) (by omega);rw[List.getElem?_cons_succ,List.getElem?_eq_getElem (by omega)] at ar;injection ar with ar
  rw[ar];exact bU (by omega)
 have ad:kI (a :: r)=r.take a.toNat:=by
  unfold kI;rw[if_pos aB];rfl
 rw[ad];refine⟨aB,by rw[List.length_take];omega,by rw[List.length_take];simp;omega,fun x ar=>?_⟩;obtain⟨k,hk,rfl⟩:=List.mem_iff_getElem.1 ar;rw[List.length_take] at hk;rw[List.getElem_take];obtain⟨x,ar,aD,_⟩:=ag k (by omega);rw[List.getElem?_cons_succ,List.getElem?_eq_getElem (by omega)] at ar;injection ar with ar
 rw[ar];exact aD (by omega)
theorem aeb{s:List Scalar}{c:c5}{l r:List Int}{v:Int}(aP:l.length=1+c.cap.toNat)(hz:1≤c.cap)(h:lT s c l)(aS:(eM c.scalar c.aZ c.ad s).aZ≤v∧v≤(eM c.scalar c.aZ c.ad s).ad)(aO:ov l v=some r):lT s c r:=by
 obtain⟨h1,U,ag,aK⟩:=Tz aP hz h;unfold ov at aO;split at aO
 ·rename_i c7;injection aO with aO
  subst aO;rw[aP];refine Tp hz ?_ fun x ar=>?_
  ·have:=c7.2
   rw[ag,aP] at this;rw[List.length_append,List.length_singleton];omega
  ·rcases List.mem_append.1 ar with ar | ar
   ·exact aK x ar
   ·rw[List.mem_singleton] at ar;subst ar;exact aS
 ·cases aO
theorem af5{s:List Scalar}{c:c5}{l r:List Int}{v:Int}(aP:l.length=1+c.cap.toNat)(hz:1≤c.cap)(h:lT s c l)(aO:p2 l=some (r,v)):lT s c r:=by
 obtain⟨h1,U,ag,aK⟩:=Tz aP hz h;unfold p2 at aO;split at aO
 ·cases aO
 ·rename_i x q aB;injection aO with aO
  injection aO with bP ba
  subst bP;rw[aP];rw[aB] at U aK;exact Tp hz (by simp only[List.length_cons] at U;omega) fun y cx=>aK y (List.mem_cons_of_mem _ cx)
theorem F7{m:Model}{s t:List Int}{c:Nat}{n:Int}(aN:Fits m s)(bd:c<total (cG m)∨total (cG m)+total (dc m)≤c)(h:putAt m s c n=some t):Fits m t:=by
 have e:=C0 h;subst e;refine YN aN bd fun ax=>?_;unfold putAt Az at h;rw[List.getElem?_eq_getElem ax] at h;simp only at h;split at h
 ·cases h
 ·omega
theorem SS{m:Model}{q:Nat}(j:Nat):total (cG m)+total (dc m)≤dx m q+j:=by unfold dx;omega
theorem VT{m:Model}(bg:eI m){s t:List Int}{q p:Nat}{a:Act}(aB:gp m q p)(bp:oB (inner (m.procs[p]'(aB.aO)) (eU m)) a)(aN:Fits m s)(h:ju m s q a=some t):Fits m t:=by
 have BE:=bp.kind;unfold ju at h;by_cases bc:a.kind=5
 ·rw[if_pos bc] at h;have ax:a.to.toNat<m.aJ.length:=(bp.chan (.inr bc)).2;have hz:=(bg.chan _ (List.getElem_mem ax)).cap.1;have fa:(chanOf m s a.to.toNat).length=1+m.aJ[a.to.toNat].cap.toNat:=by rw[sr (by rw[aN.len];exact oU ax),oV ax]
  unfold xr at h;cases aO:p2 (chanOf m s a.to.toNat) with
  | none=>rw[aO] at h;cases h
  | some Dd =>
   obtain⟨r,n⟩:=Dd;rw[aO] at h;have BS:=aN.queue _ ax;have e:chanOf m s a.to.toNat=nK m a.to.toNat m.aJ[a.to.toNat] s:=by unfold chanOf nK;rw[oV ax]
   rw[←e] at BS;have sU:=Gu aO;have h1:=P8 aN ax hz (by rw[sU,fa,oV ax]) (af5 fa hz BS aO);exact F7 h1 (.inr (by rw[Nat.add_assoc];exact SS _)) h
 rw[if_neg bc] at h;by_cases he:(eval a.value (cS m s q)).2≠0
 ·rw[if_pos he] at h;cases h
 rw[if_neg he] at h;by_cases h1:a.kind=1
 ·rw[if_pos h1] at h;obtain⟨_,v,aS,jG⟩:=bp.set h1;obtain⟨iR,fJ⟩:=List.getElem?_eq_some_iff.1 aS;have JF:a.to.toNat<m.vars.length:=iR;have nY:=tK JF
  have:cells m.vars[a.to.toNat] m.scalars=1:=by
   have JG:m.vars[a.to.toNat]=v:=fJ;rw[JG];unfold cells;rw[if_pos jG]
  exact F7 aN (.inl (by rw[this] at nY;omega)) h
 rw[if_neg h1] at h;by_cases U:a.kind=2
 ·rw[if_pos U] at h;have iR:a.to.toNat<m.vars.length:=(bp.item U).2.1;have nY:=tK iR;have sU:=u1 iR;unfold wV at h;split at h
  ·cases h
  ·rename_i aI;exact F7 aN (.inl (by omega)) h
 rw[if_neg U] at h;by_cases ag:a.kind=3
 ·rw[if_pos ag] at h;exact F7 aN (.inr (by rw[Nat.add_assoc];exact SS _)) h
 rw[if_neg ag] at h;have aK:a.kind=4:=by omega
 have ax:a.to.toNat<m.aJ.length:=(bp.chan (.inl aK)).2;have hz:=(bg.chan _ (List.getElem_mem ax)).cap.1;have fa:(chanOf m s a.to.toNat).length=1+m.aJ[a.to.toNat].cap.toNat:=by rw[sr (by rw[aN.len];exact oU ax),oV ax]
 have rr:uj m a.to.toNat=eM m.aJ[a.to.toNat].scalar m.aJ[a.to.toNat].aZ m.aJ[a.to.toNat].ad m.scalars:=by unfold uj;rw[List.getElem?_eq_getElem ax]
 unfold vl at h;rw[rr] at h;split at h
 ·cases h
 ·rename_i aI;cases aO:ov (chanOf m s a.to.toNat) (eval a.value (cS m s q)).1 with
  | none=>rw[aO] at h;cases h
  | some r =>
   rw[aO] at h;have e:kH s (cZ m a.to.toNat) r=t:=by injection h
   rw[←e];have BS:=aN.queue _ ax;have ba:chanOf m s a.to.toNat=nK m a.to.toNat m.aJ[a.to.toNat] s:=by unfold chanOf nK;rw[oV ax]
   rw[←ba] at BS;have sU:=F9 aO;exact P8 aN ax hz (by rw[sU,fa,oV ax]) (aeb fa hz BS (by omega) aO)
end o
end
section
set_option linter.unusedSimpArgs false
end
section
set_option linter.unusedSimpArgs false
namespace o
open Go Go.RowKit bt
structure Env.ok(v:Env):Prop where
 vars:∀l∈v.vars,∀z∈l,en z
 lens:∀z∈v.lens,en z
 locals:∀z∈v.locals,en z
 at_:∀l∈v.at_,∀z∈l,en z
 self:en v.self
end o
end
section
set_option linter.unusedSimpArgs false
namespace Go.Proofs.R
open Go Go.RowKit bt
theorem Ga(v:Value)(l:List Int)(n:Int)(w:World)(aP:oF w v l):bu Tryz.prog F.u3 #[v,.int .i64 n] w fun v w'=>v = .tuple #[.int .i64 (o.iH l n).1,.bool (decide ((o.iH l n).2=0))]∧Ext w w':=by
 obtain⟨bl,cap,rfl,hlen⟩:=aP.form;refine bM E.u3 ?_;refine bF ?_;refine aH ?_;apply K.cond<;>intro g1
 ·refine aH ?_;rw[o.iH,o.gQ (.inl g1)];exact cg
 refine aH ?_;apply K.cond<;>intro g2
 ·refine aH ?_;rw[o.iH,o.gQ (.inr (by omega))];exact cg
 obtain⟨i,rfl⟩:=Int.eq_ofNat_of_zero_le (show 0≤n by omega);obtain⟨a,rfl⟩:=aP.addr (by omega);refine aH ?_;rw[o.iH,o.hX (by omega) (by omega)];simp only[Int.toNat_natCast];exact cg
theorem agx(l:List Int)(n:Int):(o.iH l n).2=0∨o.iH l n=(0,8):=by
 unfold o.iH;split
 ·exact .inl rfl
 ·exact .inr rfl
theorem xA(b:Bool)(w:World):bu Tryz.prog F.qM #[.bool b] w fun v w'=>v = .int .i64 (o.bit b)∧w'=w:=by
 refine bM E.qM ?_;refine bF ?_;refine aH ?_;refine K.c4 (fun h=>?_) (fun h=>?_)
 all_goals
  subst h;refine aH ?_;exact⟨rfl,trivial⟩
theorem KV(n:Int)(w:World):bu Tryz.prog F.w2 #[.int .i64 n] w fun v w'=>v = .bool (o.within n)∧w'=w:=by
 refine bM E.w2 ?_;refine bF ?_
 (repeat' (refine aH ?_;first | (refine K.cond (fun _=>?_) (fun _=>?_)<;>try (exfalso;omega)) | refine K.c4 (fun _=>?_) (fun _=>?_)))<;>try refine aH ?_
 all_goals
  refine⟨?_,bw⟩;congr 1
  first | (rw[Bool.eq_iff_iff];simp[o.within];omega) | (simp[o.within];omega)
theorem Lh(a b n:Int)(w:World):bu Tryz.prog F.w1 #[.int .i64 a,.int .i64 b,.int .i64 n] w
  fun v w'=>v = .tuple #[.int .i64 (if o.within a&&o.within b&&o.within n then n else 0),.bool (o.within a&&o.within b&&o.within n)]∧w'=w:=by
 refine bM E.w1 ?_;refine bF ?_;refine aH ?_;refine K.call (KV a w) ?_;rintro _ _ ⟨rfl,rfl⟩;refine aH ?_;cases h1:o.within a with
 | false =>
  refine aH ?_;exact⟨by simp,trivial⟩
 | true =>
  refine aH ?_;refine K.call (KV b _) ?_;rintro _ _ ⟨rfl,rfl⟩;refine aH ?_;cases U:o.within b with
  | false =>
   refine aH ?_;exact⟨by simp,trivial⟩
  | true =>
   refine aH ?_;refine K.call (KV n _) ?_;rintro _ _ ⟨rfl,rfl⟩;refine aH ?_;cases ag:o.within n with
   | false =>
    refine aH ?_;exact⟨by simp,trivial⟩
   | true =>
    refine aH ?_;exact⟨by simp,trivial⟩
theorem Li(f:Int→Int→Int)(a b n:Int)(h:o.within a=true→o.within b=true→n=f a b) :
  (if (o.within a&&o.within b&&o.within n)=true then n else 0)=(o.tell f a b).1∧(o.within a&&o.within b&&o.within n)=(o.tell f a b).2:=by
 unfold o.tell;cases h1:o.within a with
 | false=>simp
 | true =>
  cases U:o.within b with
  | false=>simp
  | true =>
   rw[h h1 U];cases ag:o.within (f a b)<;>simp
theorem aew:q3 F.Cb (o.tell (· + ·)):=by
 intro a b w;refine bM E.Cb ?_;refine bF ?_;refine aH ?_;refine K.GK ?_;refine aH ?_;refine K.call (Lh a b _ w) ?_;rintro _ _ ⟨rfl,rfl⟩;obtain⟨h1,U⟩:=Li (· + ·) a b (IntKind.i64.wrap (a+b)) (fun h1 U=>by simp[o.within] at h1 U;exact IntWalk.i64_in _ (by omega));rw[h1,U];refine aH ?_;exact cg
theorem T7:q3 F.y9 (o.tell (· - ·)):=by
 intro a b w;refine bM E.y9 ?_;refine bF ?_;refine aH ?_;refine K.GK ?_;refine aH ?_;refine K.call (Lh a b _ w) ?_;rintro _ _ ⟨rfl,rfl⟩;obtain⟨h1,U⟩:=Li (· - ·) a b (IntKind.i64.wrap (a - b)) (fun h1 U=>by simp[o.within] at h1 U;exact IntWalk.i64_in _ (by omega));rw[h1,U];refine aH ?_;exact cg
theorem ae1:q3 F.Cc (o.tell (· * ·)):=by
 intro a b w;refine bM E.Cc ?_;refine bF ?_;refine aH ?_;refine K.GK ?_;refine aH ?_;refine K.call (Lh a b _ w) ?_;rintro _ _ ⟨rfl,rfl⟩;obtain⟨h1,U⟩:=Li (· * ·) a b (IntKind.i64.wrap (a*b)) (fun h1 U=>by simp[o.within] at h1 U;have:=S3 h1 U;exact IntWalk.i64_in _ (by omega));rw[h1,U];refine aH ?_;exact cg
def pn(op a b:Int):Int×Int:=match o.fX op with | some au=>o.Lo au [a,b] | none=>(0,0)
theorem aez(op a b:Int)(w:World)(j7:11≤op∧op≤19) :
  bu Tryz.prog F.Cf #[.int .i64 op,.int .i64 a,.int .i64 b] w fun v w'=>v = .tuple #[.int .i64 (pn op a b).1,.int .i64 (pn op a b).2]∧Ext w w':=by
 have num:∀f:Int→Int→Int×Bool,(if (f a b).2=true then ((f a b).1,(0:Int)) else (0,10))=(let r:=f a b;if r.2=true then (r.1,0) else (0,10)):=fun _=>rfl;have ax:op=11∨op=12∨op=13∨op=14∨op=15∨op=16∨op=17∨op=18∨op=19:=by omega
 refine bM E.Cf ?_;refine bF ?_;rcases ax with e | e | e | e | e | e | e | e | e
 ·have key:pn op a b=if (o.tell (· + ·) a b).2=true then ((o.tell (· + ·) a b).1,0) else (0,10):=by subst e;rfl
  rw[key];refine aH ?_;refine K.call (aew a b w) ?_;rintro _ av ⟨rfl,aA⟩;refine aH ?_;refine K.c4 (fun h=>?_) (fun h=>?_)
  all_goals
   refine aH ?_;rw[h];exact cg
 ·have key:pn op a b=if (o.tell (· - ·) a b).2=true then ((o.tell (· - ·) a b).1,0) else (0,10):=by subst e;rfl
  rw[key];refine aH ?_;refine K.call (T7 a b w) ?_;rintro _ av ⟨rfl,aA⟩;refine aH ?_;refine K.c4 (fun h=>?_) (fun h=>?_)
  all_goals
   refine aH ?_;rw[h];exact cg
 ·have key:pn op a b=if (o.tell (· * ·) a b).2=true then ((o.tell (· * ·) a b).1,0) else (0,10):=by subst e;rfl
  rw[key];refine aH ?_;refine K.call (ae1 a b w) ?_;rintro _ av ⟨rfl,aA⟩;refine aH ?_;refine K.c4 (fun h=>?_) (fun h=>?_)
  all_goals
   refine aH ?_;rw[h];exact cg
 ·have key:pn op a b=(o.bit (decide (a=b)),0):=by subst e;rfl
  rw[key];refine aH ?_;refine K.call (xA _ w) ?_;rintro _ _ ⟨rfl,rfl⟩;refine aH ?_;exact cg
 ·have key:pn op a b=(o.bit (!decide (a=b)),0):=by subst e;rfl
  rw[key];refine aH ?_;refine K.call (xA _ w) ?_;rintro _ _ ⟨rfl,rfl⟩;refine aH ?_;exact cg
 ·have key:pn op a b=(o.bit (decide (a<b)),0):=by subst e;rfl
  rw[key];refine aH ?_;refine K.call (xA _ w) ?_;rintro _ _ ⟨rfl,rfl⟩;refine aH ?_;exact cg
 ·have key:pn op a b=(o.bit (decide (a≤b)),0):=by subst e;rfl
  rw[key];refine aH ?_;refine K.call (xA _ w) ?_;rintro _ _ ⟨rfl,rfl⟩;refine aH ?_;exact cg
 ·have key:pn op a b=(o.bit (!decide (a=0) && !decide (b=0)),0):=by subst e;rfl
  rw[key];refine aH ?_;refine K.cond (fun h1=>?_) (fun h1=>?_)
  all_goals
   refine aH ?_;refine K.call (xA _ w) ?_;rintro _ _ ⟨rfl,rfl⟩;refine aH ?_;refine⟨?_,fj⟩;simp[h1]
 ·have key:pn op a b=(o.bit (!decide (a=0) || !decide (b=0)),0):=by subst e;rfl
  rw[key];refine aH ?_;refine K.cond (fun h1=>?_) (fun h1=>?_)
  all_goals
   refine aH ?_;refine K.call (xA _ w) ?_;rintro _ _ ⟨rfl,rfl⟩;refine aH ?_;refine⟨?_,fj⟩;simp[h1]
end Go.Proofs.R
end
section
set_option linter.unusedSimpArgs false
namespace Go.Proofs.R
open Go Go.RowKit bt
theorem GD(l:List Int)(n:Int):(decide ((o.iH l n).2=0)=true→o.iH l n=((o.iH l n).1,0))∧(decide ((o.iH l n).2=0)=false→o.iH l n=(0,8)):=by
 rcases agx l n with h | h
 ·exact⟨fun _=>Prod.ext rfl h,fun bA=>by simp[h] at bA⟩
 ·exact⟨fun bA=>by simp[h] at bA,fun _=>h⟩
theorem afj(x:o.Node)(cs:List Value)(v:o.Env)(w:World)(ar:x.ok)(h:o.r8 w cs v)(ag:x.op≠3)(t:Int) :
  bu Tryz.prog F.Ck #[.agg x.enc.toArray,.agg cs.toArray] w fun u w'=>u = .tuple #[.int .i64 (o.h2 x v t).1,.int .i64 (o.h2 x v t).2]∧Ext w w':=by
 obtain⟨a0,bO,dy,c1,a2,c2,a3,bN,rfl,qU,dO,dP,eg,gR,eG,du,dF,dV⟩:=h.form;refine bM E.Ck ?_;refine bF ?_;refine aH ?_;refine K.new fun av bC cL aA aq=>?_;refine aH ?_;refine K.new fun aT ca dB aC aM=>?_;have he:=aA.trans aC;have ez:aT.heap[bC]? = some (.cells #[.int .i64 x.op,.int .i64 x.n] T.k):=aC.obj aq;clear aq;refine aH ?_;apply K.cond<;>intro g1
 ·have hk:o.h2 x v t=if o.within x.n then (x.n,0) else (0,10):=by rw[o.h2,if_pos g1]
  (repeat' (refine aH ?_;first | (refine K.cond (fun _=>?_) (fun _=>?_)<;>try (exfalso;omega)) | refine K.c4 (fun _=>?_) (fun _=>?_)))<;>try refine aH ?_
  all_goals
   refine⟨?_,fj⟩;rw[hk];unfold o.within;split<;>first | rfl | (rename_i c7;simp at c7;exfalso;omega)
 refine aH ?_;apply K.cond<;>intro g2
 ·by_cases Il:x.n<0∨(v.vars.length:Int)≤x.n
  ·have hk:o.h2 x v t=(0,8):=by rw[o.h2,if_neg g1,if_pos g2,o.gQ Il]
   rw[hk]
   (repeat' (refine aH ?_;first | (refine K.cond (fun _=>?_) (fun _=>?_)<;>try (exfalso;omega)) | refine K.c4 (fun _=>?_) (fun _=>?_)))<;>try refine aH ?_
   all_goals exact cg
  obtain⟨i,ad⟩:=Int.eq_ofNat_of_zero_le (show 0≤x.n by omega);have pJ:i<v.vars.length:=by omega
  obtain⟨a,rfl⟩:=qU.addr (by omega);obtain⟨cr,lr,o8⟩:=qU.at i pJ;have aI:o.nth v.vars x.n=some v.vars[i]:=by rw[ad,o.hX (by omega) (by omega)];simp only[Int.toNat_natCast]
  have hk:o.h2 x v t=o.iH v.vars[i] 0:=by rw[o.h2,if_neg g1,if_pos g2,aI]
  rw[hk];rw[ad] at ez;refine aH ?_;refine K.ld (he.cell lr) ?_;refine aH ?_;refine K.call (Ga _ v.vars[i] 0 aT (o8.ext he)) ?_;rintro _ bf ⟨rfl,aw⟩;obtain⟨nB,mP⟩:=GD v.vars[i] 0;refine aH ?_;refine K.c4 (fun g=>?_) (fun g=>?_)
  ·refine aH ?_;rw[nB g];exact cg
  ·refine aH ?_;rw[mP g];exact cg
 refine aH ?_;apply K.cond<;>intro g4
 ·have hk:o.h2 x v t=o.iH v.locals x.n:=by rw[o.h2,if_neg g1,if_neg g2,if_neg ag,if_pos g4]
  rw[hk];refine aH ?_;refine K.call (Ga _ v.locals x.n aT (dP.ext he)) ?_;rintro _ bf ⟨rfl,aw⟩;obtain⟨nB,mP⟩:=GD v.locals x.n;refine aH ?_;refine K.c4 (fun g=>?_) (fun g=>?_)
  ·refine aH ?_;rw[nB g];exact cg
  ·refine aH ?_;rw[mP g];exact cg
 refine aH ?_;apply K.cond<;>intro g5
 ·have hk:o.h2 x v t=(v.self,0):=by rw[o.h2,if_neg g1,if_neg g2,if_neg ag,if_neg g4,if_neg (by omega),if_pos g5]
  rw[hk];refine aH ?_;exact cg
 refine aH ?_;apply K.cond<;>intro g6
 ·have hk:o.h2 x v t=o.iH v.lens x.n:=by rw[o.h2,if_neg g1,if_neg g2,if_neg ag,if_neg g4,if_pos g6]
  rw[hk];refine aH ?_;refine K.call (Ga _ v.lens x.n aT (dO.ext he)) ?_;rintro _ bf ⟨rfl,aw⟩;obtain⟨nB,mP⟩:=GD v.lens x.n;refine aH ?_;refine K.c4 (fun g=>?_) (fun g=>?_)
  ·refine aH ?_;rw[nB g];exact cg
  ·refine aH ?_;rw[mP g];exact cg
 refine aH ?_;apply K.cond<;>intro g7;rotate_left
 ·have hk:o.h2 x v t=(0,0):=by rw[o.h2,if_neg g1,if_neg g2,if_neg ag,if_neg g4,if_neg g6,if_neg g5,if_neg g7]
  rw[hk];refine aH ?_;exact cg
 have hk:o.h2 x v t=if 0≤x.n then (match o.nth v.at_ (x.n.tdiv 16) with | some l=>o.iH l (x.n.tmod 16) | none=>(0,8)) else (0,8):=by
  rw[o.h2,if_neg g1,if_neg g2,if_neg ag,if_neg g4,if_neg g6,if_neg g5,if_pos g7];split
  ·cases o.nth v.at_ (x.n.tdiv 16)<;>rfl
  ·rfl
 refine aH ?_;apply K.cond<;>intro g8
 ·rw[hk,if_neg (by omega)];refine aH ?_;exact cg
 rw[if_pos (by omega)] at hk;obtain⟨i,ad⟩:=Int.eq_ofNat_of_zero_le (show 0≤x.n by omega);obtain⟨_,hV⟩:=ar.n;rw[ad] at hV;have aB:x.n.tdiv 16=((i / 16:Nat):Int):=by rw[ad];rfl
 have aic:x.n.tmod 16=((i % 16:Nat):Int):=by rw[ad];rfl
 refine aH ?_;refine K.quo (by omega) ?_;rw[aB];refine aH ?_;apply K.cond<;>intro g9
 ·rw[hk,o.gQ (.inr (by omega))];refine aH ?_;exact cg
 have aU:i / 16<v.at_.length:=by omega
 obtain⟨a,rfl⟩:=eg.addr (by omega);obtain⟨cr,lr,o8⟩:=eg.at (i / 16) aU;rw[aB,o.hX (by omega) (by omega)] at hk;simp only[Int.toNat_natCast] at hk;rw[hk];refine aH ?_;refine K.quo (by omega) ?_;rw[aB];refine aH ?_;refine K.ld (he.cell lr) ?_;refine aH ?_;refine K.rem (by omega) ?_;refine aH ?_;refine K.gn _ (fun w' e=>Ga _ v.at_[i / 16] _ w' (o8.ext (he.trans e))) ?_;obtain⟨nB,mP⟩:=GD v.at_[i / 16] (x.n.tmod 16);refine aH ?_;intro bf aw;refine aH ?_;refine K.c4 (fun g=>?_) (fun g=>?_)
 ·refine aH ?_;rw[nB g];exact cg
 ·refine aH ?_;rw[mP g];exact cg
def qT(x:o.Node)(k:Int)(v:o.Env):Int×Int:=match o.fX x.op with | some au=>o.Lo au [k] | none=>o.h2 x v k
theorem aeZ(x:o.Node)(k:Int)(cs:List Value)(v:o.Env)(w:World)(h:o.r8 w cs v)(j7:x.op=3∨x.op=9∨x.op=10) :
  bu Tryz.prog F.Cg #[.agg x.enc.toArray,.int .i64 k,.agg cs.toArray] w fun u w'=>u = .tuple #[.int .i64 (qT x k v).1,.int .i64 (qT x k v).2]∧Ext w w':=by
 obtain⟨a0,bO,dy,c1,a2,c2,a3,bN,rfl,qU,dO,dP,eg,gR,eG,du,dF,dV⟩:=h.form;refine bM E.Cg ?_;refine bF ?_;refine aH ?_;refine K.new fun av bC cL aA aq=>?_;refine aH ?_;refine K.new fun aT ca dB aC aM=>?_;have he:=aA.trans aC;have ez:aT.heap[bC]? = some (.cells #[.int .i64 x.op,.int .i64 x.n] T.k):=aC.obj aq;clear aq;refine aH ?_;apply K.cond<;>intro g9
 ·have hk:qT x k v=(o.bit (decide (k=0)),0):=by rw[qT,g9];rfl
  rw[hk];refine aH ?_;refine K.call (xA _ aT) ?_;rintro _ _ ⟨rfl,rfl⟩;refine aH ?_;exact cg
 refine aH ?_;apply K.cond<;>intro g10
 ·have hk:qT x k v=if (o.tell (· - ·) 0 k).2=true then ((o.tell (· - ·) 0 k).1,0) else (0,10):=by rw[qT,g10];rfl
  rw[hk];refine aH ?_;refine K.call (T7 0 k aT) ?_;rintro _ bf ⟨rfl,aw⟩;refine aH ?_;refine K.c4 (fun g=>?_) (fun g=>?_)
  all_goals
   refine aH ?_;rw[g];exact cg
 have g3:x.op=3:=by omega
 have Fu:qT x k v=o.h2 x v k:=by rw[qT,show o.fX x.op=none from by rw[g3];rfl]
 have hk:qT x k v=(match o.nth v.vars x.n with | some l=>(match o.nth l (k - 1) with | some y=>(y,0) | none=>(0,10)) | none=>(0,8)):=by
  rw[Fu,o.h2,if_neg (by omega),if_neg (by omega),if_pos g3];cases o.nth v.vars x.n with
  | none=>rfl
  | some l=>simp only;cases o.nth l (k - 1)<;>rfl
 clear Fu;by_cases Il:x.n<0∨(v.vars.length:Int)≤x.n
 ·rw[o.gQ Il] at hk;rw[hk]
  (repeat' (refine aH ?_;first | (refine K.cond (fun _=>?_) (fun _=>?_)<;>try (exfalso;omega)) | refine K.c4 (fun _=>?_) (fun _=>?_)))<;>try refine aH ?_
  all_goals exact cg
 obtain⟨i,ad⟩:=Int.eq_ofNat_of_zero_le (show 0≤x.n by omega);have pJ:i<v.vars.length:=by omega
 obtain⟨a,rfl⟩:=qU.addr (by omega);obtain⟨cr,lr,o8⟩:=qU.at i pJ;obtain⟨eu,ci,rfl,li⟩:=o8.form;rw[ad,o.hX (by omega) (by omega)] at hk;simp only[Int.toNat_natCast] at hk;rw[ad] at ez;have jP:=o8.ext he;generalize v.vars[i]=l at *;by_cases ahs:k<1∨(l.length:Int)<k
 ·rw[o.gQ (by omega)] at hk;simp only at hk;rw[hk];by_cases aht:k<1
  ·refine aH ?_;exact cg
  ·refine aH ?_;refine K.ld (he.cell lr) ?_;refine aH ?_;exact cg
 obtain⟨j,aU⟩:=Int.eq_ofNat_of_zero_le (show 0≤k - 1 by omega);have BB:j<l.length:=by omega
 rw[o.hX (by omega) (by omega)] at hk;simp only[aU,Int.toNat_natCast] at hk;rw[hk];obtain⟨dt,rfl⟩:=o8.addr (by omega);refine aH ?_;refine K.ld (he.cell lr) ?_;refine aH ?_;refine K.ld (he.cell lr) ?_;refine aH ?_;refine K.dk j (by omega) (by omega) ?_;refine aH ?_;exact cg
end Go.Proofs.R
end