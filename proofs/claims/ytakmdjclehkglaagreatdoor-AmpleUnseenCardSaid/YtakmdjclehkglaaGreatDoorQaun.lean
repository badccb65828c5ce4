/- Parts. -/
import Derived.Test.YtakmdjclehkglaaGreatDoorQaum
import Derived.Laws.Bits64b
import Derived.Lib.AppendZerosOnto
set_option linter.all false
set_option maxRecDepth 4000
set_option maxHeartbeats 16000000
section
namespace o
open Go
theorem aa6{f g:Node->C_ Int->Int×Int}{e:C_ Node}(h:∀k (hk:k<e.length) st,eZ f (e.take k) []=(0,st)->fc e[k].op<=st.length->f e[k] st=g e[k] st):∀n,n<=e.length->eZ f (e.take n) []=eZ g (e.take n) []
 | 0,_=>by simp[eZ]
 | n+1,ay=>by
  have eS:=aa6 h n (by omega);by_cases af:(eZ f (e.take n) []).1=0
  .have bt:eZ f (e.take n) []=(0,(eZ f (e.take n) []).2):=Prod.ext af rfl;have aI:eZ g (e.take n) []=(0,(eZ f (e.take n) []).2):=by rw[<-eS];exact bt
   rw[yk (by omega) bt,yk (by omega) aI];exact ap0 fun _ aF=>by rw[h n (by omega) _ bt aF];exact⟨rfl,fun _=>rfl⟩
  .rw[List.take_succ_eq_append_getElem (by omega),Fy,Fy,<-eS,if_pos af,if_pos af]
theorem ao0{f g:Node->C_ Int->Int×Int}{e:C_ Node}(h:∀k (hk:k<e.length) st,eZ f (e.take k) []=(0,st)->fc e[k].op<=st.length->f e[k] st=g e[k] st):kV f e=kV g e:=by
 have:=aa6 h e.length (Nat.le_refl _)
 rw[List.take_length] at this;unfold kV;rw[this]
def ri(s t:C_ Int)(l:C_ Int):Prop := ∀x∈l,s[x.toNat]? = t[x.toNat]?
theorem ri.row{s t:C_ Int}{a n:Nat}(h:ri s t (gr a n)){k:Nat}(hk:k<n):s[a+k]? = t[a+k]? := by
 have:=h ((a+k:Nat):Int) (oN.2 (by omega))
 rw[Int.toNat_natCast] at this;exact this
theorem ri.one{s t:C_ Int}{a:Nat}(h:ri s t (gr a 1)):s[a]? = t[a]? := h.row (k:=0) (by omega)
theorem ri.sub{s t:C_ Int}{l r:C_ Int}(h:ri s t l)(an:∀x∈r,x∈l):ri s t r:=fun x ag=>h x (an x ag)
theorem QM{s t:C_ Int}{a n:Nat}(h:∀k,k<n->s[a+k]? = t[a+k]?):(s.drop a).take n=(t.drop a).take n:=by
 apply List.ext_getElem?;intro i;rw[List.getElem?_take,List.getElem?_take];split
 .rw[List.getElem?_drop,List.getElem?_drop];exact h i ‹_›
 .rfl
theorem ab5{l r:C_ Int}{n:Int}(h:0<=n->l[n.toNat]? = r[n.toNat]?):gH l n=gH r n:=by
 unfold gH nth;by_cases af:0<=n
 .rw[if_pos af,if_pos af,h af]
 .rw[if_neg af,if_neg af]
theorem ab6{s t:C_ Int}{a n:Nat}{k:Int}(h:0<=k->s[a+k.toNat]? = t[a+k.toNat]?):gH ((s.drop a).take n) k=gH ((t.drop a).take n) k:=by
 refine ab5 fun af=>?_;rw[List.getElem?_take,List.getElem?_take,List.getElem?_drop,List.getElem?_drop];split
 .exact h af
 .rfl
theorem adu{m:Model}{p:Int}{n j:Nat}(aE:j<n)(h:(insts m)[j]?.map (·.proc)=some p):((dj m j:Nat):Int)∈oy m p n:=by
 unfold oy;refine List.mem_flatMap.2 ⟨j,List.mem_range.2 aE,?_⟩;rw[if_pos h,Cj];exact List.mem_singleton.2 rfl
theorem adv{m:Model}{s t:C_ Int}{p l:Int}{k:Nat}(h:ri s t (oy m p k)):rv m s p l k=rv m t p l k:=by
 unfold rv;congr 1;refine List.filter_congr fun i U=>?_;have U:=List.mem_range.1 U;by_cases ar:(insts m)[i]?.map (·.proc)=some p
 .have:=h _ (adu U ar)
  rw[Int.toNat_natCast] at this;rw[this]
 .simp[ar]
theorem adw{m:Model}{s t:C_ Int}{p:Nat}{n:Int}{k:Nat}(h:ri s t (oy m p k)):iQ m s p n k=iQ m t p n k:=by
 unfold iQ;exact List.map_congr_left fun l _=>by rw[adv h]
theorem apT{m:Model}{s t:C_ Int}{inst:Int}{n:Nat}(h:s[cq m n]? = t[cq m n]?):(cr m s inst).lens[n]? = (cr m t inst).lens[n]? := by
 simp only[cr,List.getElem?_map];cases aL:(List.range m.aw.length)[n]? with
 | none=>rfl
 | some i =>
  have:i=n:=by
   obtain⟨h1,I⟩:=List.getElem?_eq_some_iff.1 aL;rw[List.getElem_range] at I;exact I.symm
  subst this;simp only[Option.map_some,Option.some.injEq];rw[List.getElem!_eq_getElem?_getD,List.getElem!_eq_getElem?_getD,h]
theorem alH{m:Model}{s t:C_ Int}{sc:Scope}{x:Node}{q:Nat}{inst top:Int}{own:Bool}(aG:sc.vars=m.vars)(ag:AD sc x)(U:inst=q\/(inst<0/\own=false))
  (aM:own=true->q<(insts m).length/\1<=(cr m s inst).self/\top=(cr m s inst).self)(h:ri s t (gi m q own x)):gv x (cr m s inst) top=gv x (cr m t inst) top:=by
 have I0:(cr m s inst).self=(cr m t inst).self:=by
  simp only[cr,yq];split<;>rfl
 unfold gv;by_cases h1:x.op=1
 .rw[if_pos h1,if_pos h1]
 rw[if_neg h1,if_neg h1];by_cases I:x.op=2
 .rw[if_pos I,if_pos I];obtain⟨gF,v,cC,cS⟩:=ag.var I;rw[aG] at cC;obtain⟨eT,hI⟩:=List.getElem?_eq_some_iff.1 cC;unfold gi at h;rw[if_pos I] at h;have ay:∀s:C_ Int,nth (cr m s inst).vars x.n=some ((s.drop (gG m x.n.toNat)).take (cells m.vars[x.n.toNat] m.scalars).toNat):=fun s=>by
   unfold nth;rw[if_pos gF,KM eT]
  rw[ay s,ay t];exact ab6 fun _=>h.one
 rw[if_neg I,if_neg I];by_cases ab:x.op=3
 .rw[if_pos ab,if_pos ab];obtain⟨gF,eT⟩:=ag.item ab;rw[aG] at eT;unfold gi pq at h;rw[if_neg I,if_pos ab] at h;have ay:∀s:C_ Int,nth (cr m s inst).vars x.n=some ((s.drop (gG m x.n.toNat)).take (cells m.vars[x.n.toNat] m.scalars).toNat):=fun s=>by
   unfold nth;rw[if_pos gF,KM eT]
  rw[ay s,ay t];cases own with
  | false =>
   simp only[Bool.false_eq_true,if_false] at h;rw[s7 eT] at h;rw[QM fun k hk=>h.row hk]
  | true =>
   simp only[if_true] at h;obtain⟨au,bO,bV⟩:=aM rfl;have OA:inst=q:=by
    rcases U with U | U
    .exact U
    .cases U.2
   subst OA;have vU:(cr m s q).self=(insts m)[q].elem:=(yr s au rfl).2;rw[vU] at bO bV;rw[Dz au] at h;have cU:=h.one;have e:∀s:C_ Int,nth ((s.drop (gG m x.n.toNat)).take (cells m.vars[x.n.toNat] m.scalars).toNat) (top - 1)=if (top - 1).toNat<(cells m.vars[x.n.toNat] m.scalars).toNat then s[gG m x.n.toNat+(insts m)[q].elem.toNat - 1]? else none:=fun s=>by
    unfold nth;rw[if_pos (by omega),List.getElem?_take,List.getElem?_drop];rw[show gG m x.n.toNat+(top - 1).toNat=gG m x.n.toNat+(insts m)[q].elem.toNat - 1 from by omega]
   simp only[e s,e t,cU]
 rw[if_neg ab,if_neg ab];by_cases aD:x.op=4
 .rw[if_pos aD,if_pos aD];unfold gi at h;rw[if_neg I,if_neg ab,if_pos aD] at h;rcases U with rfl | U
  .by_cases au:q<(insts m).length
   .rw[(yr s au rfl).1,(yr t au rfl).1];exact ab6 fun _=>h.one
   .have:nth (insts m) (q:Int)=none:=gX (.inr (by omega))
    simp only[cr,yq,this]
  .rw[(QS U.1).1,(QS U.1).1]
 rw[if_neg aD,if_neg aD];by_cases bx:x.op=6
 .rw[if_pos bx,if_pos bx];unfold gi at h;rw[if_neg I,if_neg ab,if_neg aD,if_pos bx] at h;exact ab5 fun _=>apT h.one
 rw[if_neg bx,if_neg bx];by_cases aY:x.op=5
 .rw[if_pos aY,if_pos aY,I0]
 rw[if_neg aY,if_neg aY];by_cases b1:x.op=7
 .rw[if_pos b1,if_pos b1];unfold gi at h;rw[if_neg I,if_neg ab,if_neg aD,if_neg bx,if_pos b1] at h;by_cases ay:0<=x.n
  .rw[if_pos ay,if_pos ay];have a6:x.n.tdiv 16=((x.n.tdiv 16).toNat:Nat):=(Int.toNat_of_nonneg (Int.tdiv_nonneg ay (by omega))).symm;rw[a6] at h ⊢;have e:nth (cr m s inst).at_ ((x.n.tdiv 16).toNat:Nat)=nth (cr m t inst).at_ ((x.n.tdiv 16).toNat:Nat):=by
    unfold nth;rw[if_pos (by omega),if_pos (by omega),Int.toNat_natCast];simp only[cr,List.getElem?_map];cases aL:(List.range m.procs.length)[(x.n.tdiv 16).toNat]? with
    | none=>rfl
    | some i =>
     have:i=(x.n.tdiv 16).toNat:=by
      obtain⟨h1,I⟩:=List.getElem?_eq_some_iff.1 aL;rw[List.getElem_range] at I;exact I.symm
     subst this;simp only[Option.map_some,Option.some.injEq];exact adw h
   rw[e]
  .rw[if_neg ay,if_neg ay]
 .rw[if_neg b1,if_neg b1]
def yf(m:Model)(e:C_ Node):C_ Int:=e.flatMap (gi m 0 false)
theorem afQ{m:Model}{s t:C_ Int}{sc:Scope}{e:C_ Node}(aG:sc.vars=m.vars)(he:sg sc e)(h:ri s t (yf m e)):eval e (cr m s (-1))=eval e (cr m t (-1)):=by
 refine ao0 fun k hk st h9 _=>?_;unfold iB;cases gQ e[k].op with
 | some ad=>rfl
 | none=>exact alH (q:=0) (own:=false) aG (he.node k hk).1 (.inr ⟨by omega,rfl⟩) (fun h=>by cases h) (h.sub fun x ag=>List.mem_flatMap.2 ⟨_,List.getElem_mem hk,ag⟩)
def lo(l:C_ Int):Bool:=match l with
 | []=>false
 | n :: r=>decide (0<=n/\n<=r.length)&&(r.drop n.toNat).all (fun x=>decide (x=0))
def kR(l:C_ Int):C_ Int:=if lo l then (l.drop 1).take (l.headD 0).toNat else []
def tn(k:Nat)(l:C_ Int):C_ Int:=(l.length:Int) :: (List.range (k - 1)).map fun i=>l.getD i 0
def q1(l:C_ Int)(v:Int):H_ (C_ Int):=if lo l=true/\l.headD 0≠(l.length:Int) - 1 then some (tn l.length (kR l++[v])) else none
def tx(l:C_ Int):H_ (C_ Int×Int):=match kR l with
 | []=>none
 | x :: r=>some (tn l.length r,x)
theorem P3{k:Nat}(h:1<=k)(l:C_ Int):(tn k l).length=k:=by simp[tn];omega
theorem Y4{l:C_ Int}(h:lo l=true):1<=l.length:=by
 cases l with
 | nil=>cases h
 | cons n r=>simp
theorem Qe{l r:C_ Int}{v:Int}(h:q1 l v=some r):r.length=l.length:=by
 unfold q1 at h;split at h
 .rename_i h1;injection h with h
  rw[<-h,P3 (Y4 h1.1)]
 .cases h
theorem Q1{l r:C_ Int}{v:Int}(h:tx l=some (r,v)):r.length=l.length:=by
 unfold tx at h;split at h
 .cases h
 .rename_i x q au;injection h with h
  injection h with h1 I
  have:lo l=true:=Classical.byContradiction fun ay=>by
   unfold kR at au;rw[if_neg ay] at au;cases au
  rw[<-h1,P3 (Y4 this)]
def chanOf(m:Model)(s:C_ Int)(c:Nat):C_ Int:=(s.drop (cq m c)).take (1+gN m c)
def jY(s:C_ Int)(a:Nat)(l:C_ Int):C_ Int:=s.take a++l++s.drop (a+l.length)
def Dh(m:Model)(c:Nat):Int×Int:=match (bX m)[c]? with
 | some x=>(x.aO,x.U)
 | none=>(0,-1)
def putAt(m:Model)(s:C_ Int)(c:Nat)(n:Int):H_ (C_ Int):=if n<(Dh m c).1\/(Dh m c).2<n then none else some (s.set c n)
def Du(m:Model)(c:Nat):dN:=match m.aw[c]? with
 | some x=>e7 x.scalar x.aO x.U m.scalars
 | none=>e7 0 0 0 m.scalars
def z6(m:Model)(s:C_ Int)(c:Nat)(n:Int):H_ (C_ Int) :=
 if n<(Du m c).aO\/(Du m c).U<n then none else (q1 (chanOf m s c) n).map (jY s (cq m c))
def Cd(m:Model)(s:C_ Int)(q:Nat)(a:Act):H_ (C_ Int):=match tx (chanOf m s a.to.toNat) with
 | none=>none
 | some (rest,n)=>putAt m (jY s (cq m a.to.toNat) rest) (dj m q+1+a.loc.toNat) n
def BZ(m:Model)(s:C_ Int)(a:Act)(k:Int×Int)(n:Int):H_ (C_ Int) :=
 if k.2≠0\/k.1<1\/(qc m a.to.toNat:Int)<k.1 then none else putAt m s (gG m a.to.toNat+k.1.toNat - 1) n
def jf(m:Model)(s:C_ Int)(q:Nat)(a:Act):H_ (C_ Int) :=
 if a.kind=5 then Cd m s q a
 else if (eval a.value (cr m s q)).2≠0 then none
 else if a.kind=1 then putAt m s (gG m a.to.toNat) (eval a.value (cr m s q)).1
 else if a.kind=2 then BZ m s a (eval a.index (cr m s q)) (eval a.value (cr m s q)).1
 else if a.kind=3 then putAt m s (dj m q+1+a.to.toNat) (eval a.value (cr m s q)).1
 else z6 m s a.to.toNat (eval a.value (cr m s q)).1
def kh(m:Model)(q:Nat):C_ Act->C_ Int->H_ (C_ Int)
 | [],s=>some s
 | a :: r,s=>match jf m s q a with
  | none=>none
  | some t=>kh m q r t
def hp(m:Model)(s:C_ Int)(q:Nat)(c:dI):H_ (C_ Int) :=
 if s[dj m q]? ≠ some c.from_ then none
 else if 0<c.guard.length/\((eval c.guard (cr m s q)).2≠0\/(eval c.guard (cr m s q)).1=0) then none
 else (kh m q c.bY s).map fun t=>t.set (dj m q) c.to
theorem Uo(m:Model)(q:Nat)(a:Act):∀(l:C_ Act) (s:C_ Int),kh m q (l++[a]) s=match kh m q l s with | none=>none | some t=>jf m t q a
 | [],s=>by
  simp only[List.nil_append,kh];cases jf m s q a<;>rfl
 | x :: l,s=>by
  simp only[List.cons_append,kh];cases jf m s q x with
  | none=>rfl
  | some t=>exact Uo m q a l t
theorem EO{s:C_ Int}{a:Nat}{l:C_ Int}(h:a+l.length<=s.length):(jY s a l).length=s.length:=by
 simp[jY];omega
theorem v8{s:C_ Int}{a:Nat}{l:C_ Int}(h:a+l.length<=s.length)(x:Nat):(jY s a l)[x]? = if a<=x/\x<a+l.length then l[x - a]? else s[x]? := by
 unfold jY;have aB:(s.take a).length=a:=by simp;omega
 by_cases h1:x<a
 .rw[if_neg (by omega),List.getElem?_append_left (by rw[List.length_append];omega),List.getElem?_append_left (by omega),List.getElem?_take,if_pos h1]
 .by_cases I:x<a+l.length
  .rw[if_pos ⟨by omega,I⟩,List.getElem?_append_left (by rw[List.length_append];omega),List.getElem?_append_right (by omega),aB]
  .rw[if_neg (by omega),List.getElem?_append_right (by rw[List.length_append];omega),List.getElem?_drop,List.length_append,aB];congr 1;omega
theorem tM{m:Model}{s:C_ Int}{c:Nat}(h:cq m c+(1+gN m c)<=s.length):(chanOf m s c).length=1+gN m c:=by
 simp[chanOf];omega
theorem Fq{m:Model}{s t:C_ Int}{c:Nat}{n:Int}(h:putAt m s c n=some t):t=s.set c n:=by
 unfold putAt at h;split at h
 .cases h
 .injection h with h
  exact h.symm
def eI(s t:C_ Int)(l:C_ Int):Prop:=t.length=s.length/\∀c:Nat,t[c]? ≠ s[c]? -> (c:Int)∈l
theorem eI.refl(s l:C_ Int):eI s s l:=⟨rfl,fun _ h=>absurd rfl h⟩
theorem eI.trans{s t u l:C_ Int}(h:eI s t l)(k:eI t u l):eI s u l:=⟨k.1.trans h.1,fun c ah=>by
 by_cases e:u[c]? = t[c]?
 .exact h.2 c (by rw[<-e];exact ah)
 .exact k.2 c e⟩
theorem eI.mono{s t l r:C_ Int}(h:eI s t l)(an:∀x∈l,x∈r):eI s t r:=⟨h.1,fun c ah=>an _ (h.2 c ah)⟩
theorem eI.set(s:C_ Int)(a:Nat)(n:Int):eI s (s.set a n) (gr a 1):=⟨List.length_set ..,fun c ah=>by
 rw[Cj,List.mem_singleton];apply Classical.byContradiction;intro ay;exact ah (List.getElem?_set_ne (by omega))⟩
theorem eI.YY{s l:C_ Int}{a:Nat}(h:a+l.length<=s.length):eI s (jY s a l) (gr a l.length):=⟨EO h,fun c ah=>by
 rw[v8 h] at ah;apply Classical.byContradiction;intro ay;rw[oN] at ay;exact ah (if_neg (by omega))⟩
theorem apt{m:Model}{s t:C_ Int}{c:Nat}{n:Int}(ah:cq m c+(1+gN m c)<=s.length)(h:z6 m s c n=some t):eI s t (xj m c):=by
 unfold z6 at h;split at h
 .cases h
 .cases ar:q1 (chanOf m s c) n with
  | none=>rw[ar] at h;cases h
  | some r =>
   rw[ar] at h;have aF:=Qe ar;rw[tM ah] at aF;have e:jY s (cq m c) r=t:=by injection h
   rw[<-e];unfold xj;rw[<-aF];exact eI.YY (by omega)
theorem aot{m:Model}{s t:C_ Int}{q:Nat}{a:Act}(ah:cq m a.to.toNat+(1+gN m a.to.toNat)<=s.length)(h:Cd m s q a=some t):eI s t (xj m a.to.toNat++gr (dj m q+1+a.loc.toNat) 1):=by
 unfold Cd at h;cases ar:tx (chanOf m s a.to.toNat) with
 | none=>rw[ar] at h;cases h
 | some Qz =>
  obtain⟨r,n⟩:=Qz;rw[ar] at h;have aF:=Q1 ar;rw[tM ah] at aF;have e:=Fq h;rw[e];refine eI.trans (t:=jY s (cq m a.to.toNat) r) ?_ ((eI.set _ _ _).mono fun x ag=>List.mem_append_right _ ag)
  have:=eI.YY (s:=s) (a:=cq m a.to.toNat) (l:=r) (by omega)
  rw[aF] at this;exact this.mono fun x ag=>List.mem_append_left _ ag
theorem aps{m:Model}{s:C_ Int}{q:Nat}{a:Act}(h:r8 a=true):eval a.index (cr m s q)=((cr m s q).self,0):=by
 unfold r8 at h;split at h
 .rename_i x ag;rw[ag];have aY:x.op=5:=by simpa using h
  have ay:fc x.op=0:=by rw[aY];decide
  have ax:iB (cr m s q) x []=((cr m s q).self,0):=by
   unfold iB;rw[aY];simp[gQ,gv,aY]
  unfold eval kV eZ;simp only[List.length_singleton,stepG,ay,ax];simp[eZ]
 .cases h
theorem ac6{m:Model}{s t:C_ Int}{q:Nat}{a:Act}(au:q<(insts m).length)(ah:(a.kind=4\/a.kind=5)->cq m a.to.toNat+(1+gN m a.to.toNat)<=s.length)(hk:1<=a.kind/\a.kind<=5)(h:jf m s q a=some t):eI s t (nP m q a):=by
 unfold jf at h;unfold nP;by_cases aY:a.kind=5
 .rw[if_pos aY] at h;rw[if_neg (by omega),if_neg (by omega),if_neg (by omega),if_neg (by omega),if_pos aY];exact aot (ah (.inr aY)) h
 rw[if_neg aY] at h;by_cases he:(eval a.value (cr m s q)).2≠0
 .rw[if_pos he] at h;cases h
 rw[if_neg he] at h;by_cases h1:a.kind=1
 .rw[if_pos h1] at h ⊢;rw[Fq h];exact eI.set _ _ _
 rw[if_neg h1] at h ⊢;by_cases I:a.kind=2
 .rw[if_pos I] at h ⊢;unfold BZ at h;split at h
  .cases h
  .rename_i ay;rw[Fq h];refine(eI.set _ _ _).mono fun x ag=>?_;rw[Cj,List.mem_singleton] at ag;subst ag;unfold pq;by_cases an:r8 a=true
   .rw[if_pos an,Cj,List.mem_singleton,Dz au];have vU:(cr m s q).self=(insts m)[q].elem:=(yr s au rfl).2
    have:=aps (m:=m) (s:=s) (q:=q) (a:=a) an
    rw[this];simp only[vU]
   .rw[if_neg an,oN];omega
 rw[if_neg I] at h ⊢;by_cases ab:a.kind=3
 .rw[if_pos ab] at h ⊢;rw[Fq h];exact eI.set _ _ _
 rw[if_neg ab] at h ⊢;rw[if_pos (by omega)];exact apt (ah (by omega)) h
theorem o5{m:Model}{c:Nat}(h:c<m.aw.length):cq m c+(1+gN m c)<=dW m:=by
 have:=tL h
 rw[o6 h]
 have:=nR m
 omega
theorem Uu{m:Model}{sc:Scope}{q:Nat}(au:q<(insts m).length)(vE:sc.aw=m.aw):∀(l:C_ Act) (s t:C_ Int),(∀a∈l,nD sc a)->s.length=dW m->kh m q l s=some t->eI s t (l.flatMap (nP m q))
 | [],s,t,_,_,h=>by
  injection h with h
  rw[<-h];exact eI.refl _ _
 | a :: l,s,t,aV,an,h=>by
  simp only[kh] at h;cases h1:jf m s q a with
  | none=>rw[h1] at h;cases h
  | some u =>
   rw[h1] at h;have I:=ac6 au (fun hk=>by rw[an];exact o5 (by have:=((aV a (List.mem_cons_self ..)).chan hk).2;rwa[vE] at this)) (aV a (List.mem_cons_self ..)).kind h1;have ab:=Uu au vE l u t (fun b ak=>aV b (List.mem_cons_of_mem _ ak)) (I.1.trans an) h;rw[List.flatMap_cons];exact(I.mono fun x ag=>List.mem_append_left _ ag).trans (ab.mono fun x ag=>List.mem_append_right _ ag)
theorem GI{sc:Scope}{c:dI}(h:wR sc c):∀a∈c.bY,nD sc a:=fun a aV=>by
 obtain⟨k,hk,rfl⟩:=List.mem_iff_getElem.1 aV;exact h.act k hk
theorem Vd{m:Model}{sc:Scope}{q:Nat}{c:dI}{s t:C_ Int}(au:q<(insts m).length)(vE:sc.aw=m.aw)(ah:wR sc c)(an:s.length=dW m)(h:hp m s q c=some t):eI s t (nB m q c c.bY.length):=by
 unfold hp at h;split at h
 .cases h
 split at h
 .cases h
 cases h1:kh m q c.bY s with
 | none=>rw[h1] at h;cases h
 | some u =>
  rw[h1] at h;have e:u.set (dj m q) c.to=t:=by injection h
  rw[<-e];unfold nB;rw[List.take_length];exact((Uu au vE _ s u (GI ah) an h1).mono fun x ag=>List.mem_append_right _ ag).trans ((eI.set _ _ _).mono fun x ag=>List.mem_append_left _ ag)
theorem Zw{s w:Int}:∀{l:C_ dN} {k:Nat} {x:Cell},x∈ft s w l k->∃b∈l,x.aO=b.aO/\x.U=b.U
 | [],_,_,h=>by cases h
 | b :: l,k,x,h=>by
  rcases List.mem_cons.1 h with rfl | h
  .exact⟨b,by simp,rfl,rfl⟩
  .obtain⟨gL,h1,I⟩:=Zw h;exact⟨gL,by simp[h1],I⟩
theorem GS{s:Int}:∀{ls:C_ (C_ dN)} {i:Nat} {x:Cell},x∈cellsOf s ls i->∃l∈ls,∃b∈l,x.aO=b.aO/\x.U=b.U
 | [],_,_,h=>by cases h
 | l :: r,i,x,h=>by
  rcases List.mem_append.1 h with h | h
  .obtain⟨b,h1,I⟩:=Zw h;exact⟨l,by simp,b,h1,I⟩
  .obtain⟨we,h1,I⟩:=GS h;exact⟨we,by simp[h1],I⟩
def uT(aO U:Int):Prop := -1048576<=aO/\aO<=U/\U<=1048576
theorem LX{sc aO U:Int}{s:C_ Scalar}(h:sc=0->uT aO U):uT (e7 sc aO U s).aO (e7 sc aO U s).U:=by
 unfold e7;by_cases af:sc=0
 .rw[if_pos af];exact h af
 .rw[if_neg af]
  have:=size_le sc s
  unfold uT;simp only;omega
theorem ZY{aO U:Int}(h:narrow aO U=true):uT aO U:=by have:=ZX h;unfold uT;omega
theorem aef{m:Model}(h:eL m):∀x∈bX m,uT x.aO x.U:=fun x ag=>by
 unfold bX at ag;rcases List.mem_append.1 ag with ag | ag
 .rcases List.mem_append.1 ag with ag | ag
  .obtain⟨l,aF,b,ak,bt,aI⟩:=GS ag;obtain⟨v,aG,rfl⟩:=List.mem_map.1 aF;rw[(List.mem_replicate.1 ak).2] at bt aI;rw[bt,aI];exact LX fun af=>ZY ((h.var v aG).Kg af)
  .obtain⟨l,aF,b,ak,bt,aI⟩:=GS ag;obtain⟨c,ah,rfl⟩:=List.mem_map.1 aF;rw[bt,aI];have di:=h.chan c ah;have h7:=di.cap;rcases List.mem_cons.1 ak with rfl | ak
   .unfold uT;simp only;omega
   .rw[(List.mem_replicate.1 ak).2];exact LX fun af=>by
     have:=ZX (di.Kg af)
     unfold uT;omega
 .obtain⟨l,aF,b,ak,bt,aI⟩:=GS ag;obtain⟨Am,uk,rfl⟩:=List.mem_map.1 aF;rw[bt,aI];unfold lN at ak;split at ak
  .rename_i p ar;have hm:p∈m.procs:=by
    unfold nth at ar;split at ar
    .exact List.mem_of_getElem? ar
    .cases ar
   have di:=h.proc p hm;rcases List.mem_cons.1 ak with rfl | ak
   .have:=di.b8;unfold uT;simp only;omega
   .obtain⟨v,aG,rfl⟩:=List.mem_map.1 ak;exact LX fun af=>ZY ((di.var v aG).Kg af)
  .cases ak
end o
end
section
namespace bb
open Go Go.RowKit
def tQ(d:Nat):C_ B_:=[.int .u8 d]
theorem afx(d:Nat):∀u∈tQ d,u.oneCell'=true:=by simp[tQ,Value.oneCell']
def L2(l:C_ Nat):C_ B_:=l.map fun(d:Nat)=>Value.int .u8 (d:Int)
theorem L3:∀l:C_ Nat,L2 l=l.flatMap tQ
 | []=>rfl
 | x :: r=>by
  have:=L3 r
  simp only[L2,List.map_cons,List.flatMap_cons] at this ⊢;rw[this];rfl
section
variable{P:Program}{aC:Value->Prop}{ty:TypeId}{cX c6:Operand}
theorem AD0{n:Int}{t}(x:Nat)(ay:n=x)(ag:x<18446744073709551616)(hk:aC (.int .u64 (x:Int))):ox .u64 n aC t:=by
 subst ay;exact _2 (IntWalk.u64_in _ (by omega)) hk
end
end bb
end
section
namespace bb
open Go Go.RowKit
theorem agG(l:C_ Nat)(k x:Nat):(l.flatMap tQ).set k (.int .u8 x)=(l.set k x).flatMap tQ:=by
 rw[<-L3,<-L3];simp[L2,List.map_set]
theorem AE6{e:F_}{base:Nat}{w:A_}{l:C_ Nat}{a:Addr}{n c k x:Nat}{KW:A_->Prop}{t}(h:aW tQ e 1 base w (.slice (some a) n c) l)(hk:k<l.length)
  (cU:∀w1,dn a.block w w1->aW tQ e 1 base w1 (.slice (some a) n c) (l.set k x)->KW w1):qu (.pointer (some (a.add (k*1)))) (.int .u8 (x:Nat)) w KW t:=by
 rcases h.2 with ⟨ay,af⟩ | ⟨g,cap,cur,h1,I,ab,aD,aY,bx,b1⟩
 .cases ay
 .injection h1 with bt aI ba
  injection bt with bt
  subst bt ba;have ch:k<cur.size:=by omega
  have iT:Addr.add ⟨g,0,none⟩ (k*1)=⟨g,k,none⟩:=by rw[add_eq,Nat.mul_one,Nat.zero_add]
  have ah:w.cell? (Addr.add ⟨g,0,none⟩ (k*1))=some cur[k]:=fQ ab (by rw[Nat.mul_one];exact Array.getElem?_eq_getElem ch);rw[iT] at ah ⊢;have bd:w.ownsRow base e 1 (.slice (some ⟨g,0,none⟩) l.length c) l.length (l.flatMap tQ):=by unfold aW at h;rw[aI] at h;exact h
  have an:=World.ownsRow.stored bd k (.int .u8 (x:Nat));rw[agG] at an;refine _x ah (by simp[World.frozen?,ab]) (by simp[Value.oneCell']) (cU _ (dn.setCell w ⟨g,k,none⟩ _) ?_);unfold aW;rw[List.length_set,aI];exact an.1
theorem MT:∀(l:C_ Int) (k:Nat) (x:Int),(l.flatMap cR).set k (.int .i64 x)=(l.set k x).flatMap cR
 | [],_,_=>rfl
 | y :: l,0,x=>rfl
 | y :: l,k+1,x=>by
  have:=MT l k x
  simp only[List.flatMap_cons,List.set_cons_succ];rw[<-this];rfl
theorem _1{e:F_}{base:Nat}{w:A_}{l:C_ Int}{a:Addr}{n c k:Nat}{x:Int}{KW:A_->Prop}{t}(h:aW cR e 1 base w (.slice (some a) n c) l)(hk:k<l.length)
  (cU:∀w1,dn a.block w w1->aW cR e 1 base w1 (.slice (some a) n c) (l.set k x)->KW w1):qu (.pointer (some (a.add (k*1)))) (.int .i64 x) w KW t:=by
 rcases h.2 with ⟨ay,af⟩ | ⟨g,cap,cur,h1,I,ab,aD,aY,bx,b1⟩
 .cases ay
 .injection h1 with bt aI ba
  injection bt with bt
  subst bt ba;have ch:k<cur.size:=by omega
  have iT:Addr.add ⟨g,0,none⟩ (k*1)=⟨g,k,none⟩:=by rw[add_eq,Nat.mul_one,Nat.zero_add]
  have ah:w.cell? (Addr.add ⟨g,0,none⟩ (k*1))=some cur[k]:=fQ ab (by rw[Nat.mul_one];exact Array.getElem?_eq_getElem ch);rw[iT] at ah ⊢;have bd:w.ownsRow base e 1 (.slice (some ⟨g,0,none⟩) l.length c) l.length (l.flatMap cR):=by unfold aW at h;rw[aI] at h;exact h
  have an:=World.ownsRow.stored bd k (.int .i64 x);rw[MT] at an;refine _x ah (by simp[World.frozen?,ab]) (by simp[Value.oneCell']) (cU _ (dn.setCell w ⟨g,k,none⟩ _) ?_);unfold aW;rw[List.length_set,aI];exact an.1
end bb
namespace o
open Go
theorem Jf{l:C_ Int}:lo l=true↔∃h:0<l.length,0<=l[0]/\l[0]<=(l.length:Int) - 1/\∀k (hk:k<l.length),l[0]+1<=k->l[k]=0:=by
 cases l with
 | nil=>simp[lo]
 | cons n r =>
  simp only[lo,Bool.and_eq_true,decide_eq_true_eq,List.all_eq_true];constructor
  .rintro⟨⟨af,h1⟩,I⟩;refine⟨by simp,af,by simp;omega,fun k hk aF=>?_⟩;cases k with
   | zero=>simp at aF;omega
   | succ k =>
    simp only[List.getElem_cons_zero,List.getElem_cons_succ] at aF ⊢;refine I _ (List.mem_iff_getElem.2 ⟨k - n.toNat,by simp at hk ⊢;omega,?_⟩);rw[List.getElem_drop];congr 1;omega
  .rintro⟨_,af,h1,I⟩;simp only[List.getElem_cons_zero,List.length_cons] at af h1 I;refine⟨⟨af,by omega⟩,fun x ag=>?_⟩;obtain⟨k,hk,rfl⟩:=List.mem_iff_getElem.1 ag;rw[List.getElem_drop]
   have:=I (n.toNat+k+1) (by simp at hk;omega) (by omega)
   simpa using this
theorem Y7{l:C_ Int}(h:lo l=true)(af:0<l.length):kR l=(l.drop 1).take l[0].toNat:=by
 unfold kR;rw[if_pos h];cases l with
 | nil=>simp at af
 | cons n r=>rfl
theorem ak4{l:C_ Int}(h:lo l=true)(af:0<l.length):(kR l).length=l[0].toNat:=by
 obtain⟨_,h1,I,_⟩:=Jf.1 h;rw[Y7 h af,List.length_take,List.length_drop];omega
theorem Y6(l:C_ Int):(kR l).length<=l.length:=by
 unfold kR;split
 .rw[List.length_take,List.length_drop];omega
 .simp
theorem ak5{l:C_ Int}(h:¬lo l=true):kR l=[]:=by unfold kR;rw[if_neg h]
end o
namespace Go.Proofs.R
open Go Go.RowKit bb
abbrev ou(base:Nat)(w:A_)(v:B_)(l:C_ Int):Prop:=aW cR T.a 1 base w v l
theorem oL{base:Nat}{w:A_}{v:B_}{l:C_ Int}(h:ou base w v l):ee w v l:=aW.iv (enc:=cR) (fun _=>rfl) h
end Go.Proofs.R
end
section
namespace bb
open Go Go.RowKit
section
variable{S:Fr}{w:World}{aC:Value->Prop}
theorem AA3{α:Type}{sz n cap:Nat}{R:A_->Addr->α->Prop}{aQ:H_ Addr}{x:G_}{k:IntKind}{xs:C_ α}{t}(l:Nat)(an:bh sz R w (.slice aQ n cap) xs)(ag:aS S x = .int k (l:Int))(aF:l<=xs.length)
  (hk:∀ad c,bh sz R w (.slice ad (xs.length - l) c) (xs.drop l)->aC (.slice ad (xs.length - l) c)):su S sz (.slice aQ n cap) (some x) none none aC t:=by
 obtain⟨bt,aI,ba⟩:=an.len;refine _C l n cap (by simp[eG,ag]) (by simp[eG]) (by simp[eG]) ⟨by omega,by omega,Nat.le_refl _⟩ (by simp) ?_;have h:=an.sub l n (by omega) (by omega);rw[List.take_of_length_le (by rw[List.length_drop];omega)] at h;rw[bt] at h ⊢;exact hk _ _ h
end
end bb
namespace Go.Proofs.R
open Go Go.RowKit bb
structure AN(w:World)(cs:List Value)(m:o.Model):Prop where
 ex:∃ms ys bM lS,cs=ms++ys++[bM,lS]/\o.dV w ms m/\o.jN w ys (o.layout m)/\ke w bM (o.insts m)/\sq w lS (o.refs m)
theorem AN.ext{w w':A_}{cs:C_ B_}{m:o.Model}(he:Ext w w')(h:AN w cs m):AN w' cs m :=
 let ⟨ms,ys,bM,lS,af,h1,I,ab,aD⟩:=h.ex; ⟨ms,ys,bM,lS,af,h1.ext he,I.ext he,ab.ext Flat.ext he,aD.ext Flat.ext he⟩
theorem AN.form{w:A_}{cs:C_ B_}{m:o.Model}(h:AN w cs m):∃ff d0 dZ d1 eK d2 e5 d3 fu d4 cd bw bO c1 bV c2 b2 br cj bF cx ci gR iz,
  cs=[.slice ff m.scalars.length d0,.slice dZ m.vars.length d1,.slice eK m.aw.length d2,.slice e5 m.procs.length d3,.slice fu m.props.length d4,
   .slice cd (o.layout m).vars.length bw,.slice bO (o.layout m).aw.length c1,.slice bV (o.layout m).insts.length c2,.int .i64 (o.layout m).cells,.slice b2 (o.layout m).aO.length br,.slice cj (o.layout m).U.length bF,.slice cx (o.insts m).length ci,.slice gR (o.refs m).length iz] /\
  o.dV w [.slice ff m.scalars.length d0,.slice dZ m.vars.length d1,.slice eK m.aw.length d2,.slice e5 m.procs.length d3,.slice fu m.props.length d4] m /\
  o.jN w [.slice cd (o.layout m).vars.length bw,.slice bO (o.layout m).aw.length c1,.slice bV (o.layout m).insts.length c2,.int .i64 (o.layout m).cells,.slice b2 (o.layout m).aO.length br,.slice cj (o.layout m).U.length bF] (o.layout m) /\
  bh 1 (Flat cR) w (.slice cd (o.layout m).vars.length bw) (o.layout m).vars/\bh 1 (Flat cR) w (.slice bO (o.layout m).aw.length c1) (o.layout m).aw/\bh 1 (Flat cR) w (.slice bV (o.layout m).insts.length c2) (o.layout m).insts /\
  bh 1 (Flat cR) w (.slice b2 (o.layout m).aO.length br) (o.layout m).aO/\bh 1 (Flat cR) w (.slice cj (o.layout m).U.length bF) (o.layout m).U /\
  o.h2 w (.slice ff m.scalars.length d0) m.scalars/\o.hP w (.slice dZ m.vars.length d1) m.vars/\o.mS w (.slice eK m.aw.length d2) m.aw/\o.qp w (.slice e5 m.procs.length d3) m.procs /\
  ke w (.slice cx (o.insts m).length ci) (o.insts m)/\sq w (.slice gR (o.refs m).length iz) (o.refs m):=by
 obtain⟨ms,ys,bM,lS,rfl,a1,cI,a8,bE⟩:=h.ex;have DU:=a1;have ahA:=cI;obtain⟨cd,bw,bO,c1,bV,c2,b2,br,cj,bF,rfl,eF,eb,dG,fg,gq⟩:=cI.form;obtain⟨ff,d0,dZ,d1,eK,d2,e5,d3,fu,d4,rfl,af,h1,I,ab,aD,_⟩:=a1.form;obtain⟨cx,ci,rfl,_⟩:=a8.form;obtain⟨gR,iz,rfl,_⟩:=bE.form;exact⟨ff,d0,dZ,d1,eK,d2,e5,d3,fu,d4,cd,bw,bO,c1,bV,c2,b2,br,cj,bF,cx,ci,gR,iz,rfl,DU,ahA,eF,eb,dG,fg,gq,af,h1,I,ab,a8,bE⟩
end Go.Proofs.R
end
section
namespace o
open Go
theorem adB{m:Model}{c:Nat}(h:c<dW m):∃bd:c<(bX m).length,Dh m c=((bX m)[c].aO,(bX m)[c].U):=by
 have bd:c<(bX m).length:=h;exact⟨bd,by unfold Dh;rw[List.getElem?_eq_getElem bd]⟩
theorem L4{m:Model}{i:Nat}(h:i<m.aw.length):cq m (i+1)=cq m i+(1+gN m i):=by rw[ad1 h,o6 h]
theorem GQ{m:Model}:∀(d i:Nat),i+d<=m.aw.length->cq m i<=cq m (i+d)
 | 0,_,_=>Nat.le_refl _
 | d+1,i,h=>by
  have:=GQ (m:=m) d i (by omega)
  have:=L4 (m:=m) (i:=i+d) (by omega)
  rw[<-Nat.add_assoc];omega
theorem UZ{m:Model}{i j:Nat}(BJ:i<j)(aE:j<m.aw.length):cq m i+(1+gN m i)<=cq m j:=by
 have h1:=L4 (m:=m) (i:=i) (by omega);have I:=GQ (m:=m) (j - (i+1)) (i+1) (by omega);rw[show i+1+(j - (i+1))=j from by omega] at I;omega
theorem ad0(m:Model)(i:Nat)(h:i<=m.aw.length):total (cO m)<=cq m i:=by
 have:=GQ (m:=m) i 0 (by omega)
 rw[Nat.zero_add,ad2] at this;exact this
theorem alz{m:Model}{i j:Nat}(U:i<m.aw.length)(aE:j<(na m.scalars m.aw[i]).length):∃h:cq m i+j<(bX m).length,(bX m)[cq m i+j].aO=(na m.scalars m.aw[i])[j].aO/\(bX m)[cq m i+j].U=(na m.scalars m.aw[i])[j].U:=by
 have hw:i<(dr m).length:=by simpa[dr] using U
 have e:(dr m)[i]=na m.scalars m.aw[i]:=by simp[dr]
 have hk:j<(dr m)[i].length:=by rw[e];exact aE
 have h1:=Mb 2 (dr m) 0 i j hw hk;have nn:=tL U;rw[vj] at aE;have I:=aly (m:=m) (c:=cq m i+j) (by unfold cq;omega) (by omega);rw[show cq m i+j - total (cO m)=total ((dr m).take i)+j from by unfold cq;omega,h1] at I;obtain⟨ab,aD⟩:=List.getElem?_eq_some_iff.1 I;refine⟨ab,?_,?_⟩
 .rw[aD];simp only[e]
 .rw[aD];simp only[e]
theorem Wj{m:Model}{s:C_ Int}{c:Nat}{n:Int}(ax:Fits m s)(aL:c<total (cO m)\/total (cO m)+total (dr m)<=c)(ak:∀h:c<(bX m).length,(bX m)[c].aO<=n/\n<=(bX m)[c].U):Fits m (s.set c n):=by
 refine⟨by rw[List.length_set];exact ax.len,fun i U=>?_,fun j aE et=>?_⟩
 .have h1:=tL U;have I:=ad0 m i (by omega)
  have:mv m i m.aw[i] (s.set c n)=mv m i m.aw[i] s:=QM fun k hk=>List.getElem?_set_ne (by omega)
  rw[this];exact ax.queue i U
 .rw[List.getElem_set];split
  .rename_i e;subst e;exact ak et
  .exact ax.cell j (by rw[List.length_set] at aE;exact aE) et
theorem an7{s:C_ Scalar}{c:dv}{l:C_ Int}(h7:1<=c.cap)(h:lA s c l){j:Nat}(aE:j<(na s c).length):∃x,l[j]? = some x/\(na s c)[j].aO<=x/\x<=(na s c)[j].U:=by
 obtain⟨n,af,h1,I,ab⟩:=h;cases j with
 | zero=>exact⟨n,af,h1,I⟩
 | succ k =>
  rw[vj] at aE;obtain⟨x,ag,aV,ak⟩:=ab k (by omega);refine⟨x,ag,?_⟩;have e:(na s c)[k+1]'(by rw[vj];omega)=kG s c:=by simp[na]
  rw[e];unfold kG;unfold e7 at aV ⊢;by_cases ay:(k:Int)<n
  .have:=aV ay
   split at this<;>rename_i an
   .rw[if_pos an];simp only at this ⊢;omega
   .rw[if_neg an];exact this
  .have:=ak (by omega)
   subst this;split
   .simp only;omega
   .simp only
    have:=size_le c.scalar s
    omega
theorem MS{m:Model}{s l:C_ Int}{i:Nat}(ax:Fits m s)(U:i<m.aw.length)(h7:1<=m.aw[i].cap)(aF:l.length=1+gN m i)(au:lA m.scalars m.aw[i] l):Fits m (jY s (cq m i) l):=by
 have rT:=o5 U;have nn:cq m i+l.length<=s.length:=by rw[ax.len];omega
 have eQ:=o6 U;refine⟨by rw[EO nn];exact ax.len,fun j aE=>?_,fun x ag uk=>?_⟩
 .by_cases e:j=i
  .subst e
   have:mv m j m.aw[j] (jY s (cq m j) l)=l:=by
    apply List.ext_getElem?;intro k;unfold mv;rw[List.getElem?_take,List.getElem?_drop];split
    .rw[v8 nn,if_pos ⟨by omega,by omega⟩,show cq m j+k - cq m j=k from by omega]
    .rw[List.getElem?_eq_none (by omega)]
   rw[this];exact au
  .have l7:=o6 aE
   have:mv m j m.aw[j] (jY s (cq m i) l)=mv m j m.aw[j] s:=QM fun k hk=>by
    rw[v8 nn,if_neg];rcases Nat.lt_or_gt_of_ne e with h | h
    .have:=UZ h U;omega
    .have:=UZ h aE;omega
   rw[this];exact ax.queue j aE
 .have gp:x<s.length:=by rw[EO nn] at ag;exact ag
  have aK:=v8 nn x;rw[List.getElem?_eq_getElem ag] at aK;by_cases e9:cq m i<=x/\x<cq m i+l.length
  .rw[if_pos e9] at aK;have XV:x - cq m i<(na m.scalars m.aw[i]).length:=by rw[vj];omega
   obtain⟨y,bS,bo,bR⟩:=an7 h7 au XV;obtain⟨ab,aD,aY⟩:=alz U XV;rw[bS] at aK;have e:x=cq m i+(x - cq m i):=by omega
   have ph:(bX m)[x]=(bX m)[cq m i+(x - cq m i)]:=by congr 1
   injection aK with aK
   rw[aK,ph,aD,aY];exact⟨bo,bR⟩
  .rw[if_neg e9,List.getElem?_eq_getElem gp] at aK;injection aK with aK
   rw[aK];exact ax.cell x gp uk
theorem aal{n:Nat}{l:C_ Int}{k:Nat}(hk:k+1<n):(tn n l)[k+1]? = some (l.getD k 0):=by
 unfold tn;rw[List.getElem?_cons_succ,List.getElem?_map,List.getElem?_range (by omega)];rfl
theorem aam{s:C_ Scalar}{c:dv}{l:C_ Int}(h7:1<=c.cap)(aF:(l.length:Int)<=c.cap)(ak:∀x∈l,(e7 c.scalar c.aO c.U s).aO<=x/\x<=(e7 c.scalar c.aO c.U s).U):lA s c (tn (1+c.cap.toNat) l):=by
 refine⟨l.length,rfl,by omega,aF,fun k hk=>⟨l.getD k 0,aal (by omega),fun kq=>?_,fun kq=>?_⟩⟩
 .have p2:k<l.length:=by omega
  have e:l.getD k 0=l[k]:=by simp[p2]
  rw[e];exact ak _ (List.getElem_mem p2)
 .simp[List.getD,List.getElem?_eq_none (show l.length<=k by omega)]
theorem aaF{s:C_ Scalar}{c:dv}{l:C_ Int}(aF:l.length=1+c.cap.toNat)(h7:1<=c.cap)(h:lA s c l):lo l=true/\((kR l).length:Int)<=c.cap/\l.headD 0=(kR l).length/\∀x∈kR l,(e7 c.scalar c.aO c.U s).aO<=x/\x<=(e7 c.scalar c.aO c.U s).U:=by
 obtain⟨n,af,h1,I,ab⟩:=h;obtain⟨a,r,rfl⟩:∃a r,l=a :: r:=by
  cases l with
  | nil=>simp at aF;omega
  | cons a r=>exact⟨a,r,rfl⟩
 simp only[List.getElem?_cons_zero,Option.some.injEq] at af;subst af;simp only[List.length_cons] at aF;have au:lo (a :: r)=true:=by
  simp only[lo,Bool.and_eq_true,decide_eq_true_eq,List.all_eq_true];refine⟨⟨h1,by omega⟩,fun x ag=>?_⟩;obtain⟨k,hk,rfl⟩:=List.mem_iff_getElem.1 ag;rw[List.length_drop] at hk;rw[List.getElem_drop];obtain⟨x,ag,_,bA⟩:=ab (a.toNat+k) (by omega);rw[List.getElem?_cons_succ,List.getElem?_eq_getElem (by omega)] at ag;injection ag with ag
  rw[ag];exact bA (by omega)
 have U:kR (a :: r)=r.take a.toNat:=by
  unfold kR;rw[if_pos au];rfl
 rw[U];refine⟨au,by rw[List.length_take];omega,by rw[List.length_take];simp;omega,fun x ag=>?_⟩;obtain⟨k,hk,rfl⟩:=List.mem_iff_getElem.1 ag;rw[List.length_take] at hk;rw[List.getElem_take];obtain⟨x,ag,ak,_⟩:=ab k (by omega);rw[List.getElem?_cons_succ,List.getElem?_eq_getElem (by omega)] at ag;injection ag with ag
 rw[ag];exact ak (by omega)
theorem anU{s:C_ Scalar}{c:dv}{l r:C_ Int}{v:Int}(aF:l.length=1+c.cap.toNat)(h7:1<=c.cap)(h:lA s c l)(aG:(e7 c.scalar c.aO c.U s).aO<=v/\v<=(e7 c.scalar c.aO c.U s).U)(ar:q1 l v=some r):lA s c r:=by
 obtain⟨h1,I,ab,aD⟩:=aaF aF h7 h;unfold q1 at ar;split at ar
 .rename_i cU;injection ar with ar
  subst ar;rw[aF];refine aam h7 ?_ fun x ag=>?_
  .have:=cU.2
   rw[ab,aF] at this;rw[List.length_append,List.length_singleton];omega
  .rcases List.mem_append.1 ag with ag | ag
   .exact aD x ag
   .rw[List.mem_singleton] at ag;subst ag;exact aG
 .cases ar
theorem aqa{s:C_ Scalar}{c:dv}{l r:C_ Int}{v:Int}(aF:l.length=1+c.cap.toNat)(h7:1<=c.cap)(h:lA s c l)(ar:tx l=some (r,v)):lA s c r:=by
 obtain⟨h1,I,ab,aD⟩:=aaF aF h7 h;unfold tx at ar;split at ar
 .cases ar
 .rename_i x q au;injection ar with ar
  injection ar with bt aI
  subst bt;rw[aF];rw[au] at I aD;exact aam h7 (by simp only[List.length_cons] at I;omega) fun y bS=>aD y (List.mem_cons_of_mem _ bS)
theorem Kt{m:Model}{s t:C_ Int}{c:Nat}{n:Int}(ax:Fits m s)(aL:c<total (cO m)\/total (cO m)+total (dr m)<=c)(h:putAt m s c n=some t):Fits m t:=by
 have e:=Fq h;subst e;refine Wj ax aL fun ah=>?_;unfold putAt Dh at h;rw[List.getElem?_eq_getElem ah] at h;simp only at h;split at h
 .cases h
 .omega
theorem Jn{m:Model}{q:Nat}(j:Nat):total (cO m)+total (dr m)<=dj m q+j:=by unfold dj;omega
theorem Um{m:Model}(a1:eL m){s t:C_ Int}{q p:Nat}{a:Act}(au:fI m q p)(aV:nD (inner (m.procs[p]'(au.ar)) (ey m)) a)(ax:Fits m s)(h:jf m s q a=some t):Fits m t:=by
 have BN:=aV.kind;unfold jf at h;by_cases aY:a.kind=5
 .rw[if_pos aY] at h;have ah:a.to.toNat<m.aw.length:=(aV.chan (.inr aY)).2;have h7:=(a1.chan _ (List.getElem_mem ah)).cap.1;have dR:(chanOf m s a.to.toNat).length=1+m.aw[a.to.toNat].cap.toNat:=by rw[tM (by rw[ax.len];exact o5 ah),o6 ah]
  unfold Cd at h;cases ar:tx (chanOf m s a.to.toNat) with
  | none=>rw[ar] at h;cases h
  | some Qz =>
   obtain⟨r,n⟩:=Qz;rw[ar] at h;have EB:=ax.queue _ ah;have e:chanOf m s a.to.toNat=mv m a.to.toNat m.aw[a.to.toNat] s:=by unfold chanOf mv;rw[o6 ah]
   rw[<-e] at EB;have Ev:=Q1 ar;have h1:=MS ax ah h7 (by rw[Ev,dR,o6 ah]) (aqa dR h7 EB ar);exact Kt h1 (.inr (by rw[Nat.add_assoc];exact Jn _)) h
 rw[if_neg aY] at h;by_cases he:(eval a.value (cr m s q)).2≠0
 .rw[if_pos he] at h;cases h
 rw[if_neg he] at h;by_cases h1:a.kind=1
 .rw[if_pos h1] at h;obtain⟨_,v,aG,jm⟩:=aV.set h1;obtain⟨ll,gP⟩:=List.getElem?_eq_some_iff.1 aG;have OV:a.to.toNat<m.vars.length:=ll;have nn:=tz OV
  have:cells m.vars[a.to.toNat] m.scalars=1:=by
   have OW:m.vars[a.to.toNat]=v:=gP;rw[OW];unfold cells;rw[if_pos jm]
  exact Kt ax (.inl (by rw[this] at nn;omega)) h
 rw[if_neg h1] at h;by_cases I:a.kind=2
 .rw[if_pos I] at h;have ll:a.to.toNat<m.vars.length:=(aV.item I).2.1;have nn:=tz ll;have Ev:=s7 ll;unfold BZ at h;split at h
  .cases h
  .rename_i ay;exact Kt ax (.inl (by omega)) h
 rw[if_neg I] at h;by_cases ab:a.kind=3
 .rw[if_pos ab] at h;exact Kt ax (.inr (by rw[Nat.add_assoc];exact Jn _)) h
 rw[if_neg ab] at h;have aD:a.kind=4:=by omega
 have ah:a.to.toNat<m.aw.length:=(aV.chan (.inl aD)).2;have h7:=(a1.chan _ (List.getElem_mem ah)).cap.1;have dR:(chanOf m s a.to.toNat).length=1+m.aw[a.to.toNat].cap.toNat:=by rw[tM (by rw[ax.len];exact o5 ah),o6 ah]
 have tZ:Du m a.to.toNat=e7 m.aw[a.to.toNat].scalar m.aw[a.to.toNat].aO m.aw[a.to.toNat].U m.scalars:=by unfold Du;rw[List.getElem?_eq_getElem ah]
 unfold z6 at h;rw[tZ] at h;split at h
 .cases h
 .rename_i ay;cases ar:q1 (chanOf m s a.to.toNat) (eval a.value (cr m s q)).1 with
  | none=>rw[ar] at h;cases h
  | some r =>
   rw[ar] at h;have e:jY s (cq m a.to.toNat) r=t:=by injection h
   rw[<-e];have EB:=ax.queue _ ah;have aI:chanOf m s a.to.toNat=mv m a.to.toNat m.aw[a.to.toNat] s:=by unfold chanOf mv;rw[o6 ah]
   rw[<-aI] at EB;have Ev:=Qe ar;exact MS ax ah h7 (by rw[Ev,dR,o6 ah]) (anU dR h7 EB (by omega) ar)
theorem Uv{m:Model}(a1:eL m){q p:Nat}(au:fI m q p):∀(l:C_ Act) (s t:C_ Int),(∀a∈l,nD (inner (m.procs[p]'(au.ar)) (ey m)) a)->Fits m s->kh m q l s=some t->Fits m t
 | [],s,t,_,ax,h=>by injection h with h;rw[<-h];exact ax
 | a :: l,s,t,aV,ax,h=>by
  simp only[kh] at h;cases h1:jf m s q a with
  | none=>rw[h1] at h;cases h
  | some u =>
   rw[h1] at h;exact Uv a1 au l u t (fun b ak=>aV b (List.mem_cons_of_mem _ ak)) (Um a1 au (aV a (List.mem_cons_self ..)) ax h1) h
end o
end
section
namespace Go.Proofs.R
open Go Go.RowKit bb
theorem Dd(v:B_)(l:C_ Int)(n:Int)(w:A_)(aF:oq w v l):a7 Tryz.prog F.H2 #[v,.int .i64 n] w fun v w'=>v = .tuple #[.int .i64 (o.gH l n).1,.int .i64 (o.gH l n).2]/\w'=w:=by
 obtain⟨aQ,cap,rfl,hlen⟩:=aF.form;refine bn E.H2 ?_;refine az ?_;apply I_<;>intro g1
 .refine az ?_;rw[o.gH,o.gX (.inl g1)];exact⟨rfl,trivial⟩
 refine az ?_;apply I_<;>intro g2
 .refine az ?_;rw[o.gH,o.gX (.inr (by omega))];exact⟨rfl,trivial⟩
 obtain⟨i,rfl⟩:=Int.eq_ofNat_of_zero_le (show 0<=n by omega);obtain⟨a,rfl⟩:=aF.addr;refine az ?_;rw[o.gH,o.ja (by omega) (by omega)];simp only[Int.toNat_natCast];exact⟨aU,trivial⟩
theorem aqO(l:C_ Int)(aF:l.length<=9223372036854775807)(n:Int)(h:o.dH n):o.nth l (IntKind.i64.wrap (n - 1))=o.nth l (n - 1):=by
 obtain⟨h1,I⟩:=h;by_cases ay:n = -9223372036854775808
 .subst ay
  have:IntKind.i64.wrap (-9223372036854775808 - 1)=9223372036854775807:=by decide
  rw[this,o.gX (.inr (by omega)),o.gX (.inl (by omega))]
 .rw[IntWalk.i64_in (n - 1) (by omega)]
theorem aqR(x:o.Node)(cs:C_ B_)(v:o.Env)(base b:Nat)(w:A_)(m:B_)(st:C_ Int)(ag:x.ok)(h:o.pF w cs v)(hm:qn base b w m st)(ab:x.op=3->0<st.length)(aK:∀z∈st,o.dH z) :
  a7 Tryz.prog F.HX #[.pointer (some ⟨b,0,none⟩),.agg x.enc.toArray,.agg cs.toArray] w fun u w'=>u = .tuple #[.int .i64 (o.gv x v (st.getLastD 0)).1,.int .i64 (o.gv x v (st.getLastD 0)).2]/\Ext w w':=by
 obtain⟨a0,bw,df,c1,a2,c2,a3,br,rfl,q2,cV,dq,dU,hy,eU,ek,ev,ef⟩:=h.form;refine bn E.HX ?_;refine az ?_;refine O_ fun w1 bo cT al ai=>?_;refine az ?_;refine O_ fun aH bR dt ao av=>?_;have he:=al.trans ao;have cC:aH.heap[bo]? = some (.cells #[.int .i64 x.op,.int .i64 x.n] T.f):=ao.obj ai;clear ai;refine az ?_;apply I_<;>intro g1
 .have hk:o.gv x v (st.getLastD 0)=if o.within x.n then (x.n,0) else (0,10):=by rw[o.gv,if_pos g1]
  have aB:(o.tell (· + ·) x.n 0).2=o.within x.n:=by
   unfold o.tell
   have:o.within 0=true:=rfl
   simp only[Int.add_zero,this,Bool.and_true,Bool.and_self];split<;>simp_all
  rw[hk];refine az ?_;refine J_ (LN x.n 0 aH) ?_;rintro _ aP ⟨rfl,aj⟩;rw[aB];refine az ?_;refine N_ (fun g2=>?_) (fun g2=>?_)
  all_goals
   refine az ?_;rw[g2];exact ca
 by_cases aG:x.op=2\/x.op=3
 .have hk:o.gv x v (st.getLastD 0)=(match o.nth v.vars x.n with | some l=>if x.op=2 then o.gH l 0 else (match o.nth l (st.getLastD 0 - 1) with | some y=>(y,0) | none=>(0,10)) | none=>(0,8)):=by
   rw[o.gv,if_neg g1];split
   .rename_i e;cases o.nth v.vars x.n<;>simp[e]
   .rename_i e;rw[if_pos (by omega)];cases o.nth v.vars x.n with
    | none=>rfl
    | some l=>simp only[e,if_false];cases o.nth l (st.getLastD 0 - 1)<;>rfl
  by_cases DL:x.n<0\/(v.vars.length:Int)<=x.n
  .rw[hk,o.gX DL]
   (repeat' (refine az ?_;first | (refine I_ (fun _=>?_) (fun _=>?_)<;>try (exfalso;omega)) | refine N_ (fun _=>?_) (fun _=>?_)))<;>try refine az ?_
   all_goals exact ca
  obtain⟨i,U⟩:=Int.eq_ofNat_of_zero_le (show 0<=x.n by omega);have lJ:i<v.vars.length:=by omega
  obtain⟨a,rfl⟩:=q2.addr;obtain⟨bM,kp,gD⟩:=q2.at i lJ;have ay:o.nth v.vars x.n=some v.vars[i]:=by rw[U,o.ja (by omega) (by omega)];simp only[Int.toNat_natCast]
  rw[U] at cC;by_cases g2:x.op=2
  .have cH:o.gv x v (st.getLastD 0)=o.gH v.vars[i] 0:=by rw[hk,ay];simp only[g2,if_true]
   rw[cH];refine az ?_;refine M_ (he.cell kp) ?_;refine az ?_;refine J_ (Dd _ v.vars[i] 0 aH (gD.ext he)) ?_;rintro _ _ ⟨rfl,rfl⟩;refine az ?_;exact ca
  .have g3:x.op=3:=by omega
   have h9:=ab g3;have nq:o.gv x v (st.getLastD 0)=(match o.nth v.vars[i] (st.getLastD 0 - 1) with | some y=>(y,0) | none=>(0,10)):=by rw[hk,ay];simp only[g2,if_false]
   rw[nq];clear nq hk;refine az ?_;refine M_ (he.cell kp) ?_;refine az ?_;refine P_ _ (fun w' e=>abQ base b w' m st (hm.ext (he.trans e)) h9) ?_;refine az ?_;refine _k ?_;refine az ?_;refine P_ _ (fun w' e=>(Dd _ v.vars[i] _ w' (gD.ext (he.trans e))).mono fun _ _ ⟨h1,I⟩=>⟨h1,I ▸ Ext.refl _⟩) ?_;refine az ?_;intro aP aj;have aiY:o.dH (st.getLastD 0):=by rw[DK _ h9];exact aK _ (List.getElem_mem _)
   obtain⟨cx,ci,rfl,li⟩:=gD.form;have hw:=aqO _ li _ aiY;cases au:o.nth v.vars[i] (IntKind.i64.wrap (st.getLastD 0 - 1)) with
   | none =>
    have bt:o.gH v.vars[i] (IntKind.i64.wrap (st.getLastD 0 - 1))=(0,8):=by rw[o.gH,au]
    rw[bt];refine az ?_;rw[<-hw,au];exact ca
   | some y =>
    have bt:o.gH v.vars[i] (IntKind.i64.wrap (st.getLastD 0 - 1))=(y,0):=by rw[o.gH,au]
    rw[bt];refine az ?_;rw[<-hw,au];exact ca
 rw[o.gv,if_neg g1,if_neg (by omega),if_neg (by omega)];refine az ?_;apply I_<;>intro g4
 .rw[if_pos g4];refine az ?_;refine J_ (Dd _ v.locals x.n aH (dq.ext he)) ?_;rintro _ _ ⟨rfl,rfl⟩;refine az ?_;exact ca
 rw[if_neg g4];refine az ?_;apply I_<;>intro g6
 .rw[if_pos g6];refine az ?_;refine J_ (Dd _ v.lens x.n aH (cV.ext he)) ?_;rintro _ _ ⟨rfl,rfl⟩;refine az ?_;exact ca
 rw[if_neg g6];refine az ?_;apply I_<;>intro g5
 .rw[if_pos g5];refine az ?_;exact ca
 rw[if_neg g5];refine az ?_;apply I_<;>intro g7;rotate_left
 .rw[if_neg g7];refine az ?_;exact ca
 rw[if_pos g7];refine az ?_;apply I_<;>intro g8
 .refine az ?_;rw[if_neg (by omega)];exact ca
 rw[if_pos (by omega)];obtain⟨i,U⟩:=Int.eq_ofNat_of_zero_le (show 0<=x.n by omega);obtain⟨_,gp⟩:=ag.n;rw[U] at gp;have au:x.n.tdiv 16=((i / 16:Nat):Int):=by rw[U];rfl
 have ajt:x.n.tmod 16=((i % 16:Nat):Int):=by rw[U];rfl
 refine az ?_;refine _J (by omega) ?_;rw[au];refine az ?_;apply I_<;>intro g9
 .refine az ?_;rw[o.gX (.inr (by omega))];exact ca
 have aE:i / 16<v.at_.length:=by omega
 obtain⟨a,rfl⟩:=dU.addr;obtain⟨bM,kp,gD⟩:=dU.at (i / 16) aE;rw[o.ja (by omega) (by omega)];simp only[Int.toNat_natCast];refine az ?_;refine _J (by omega) ?_;rw[au];refine az ?_;refine M_ (he.cell kp) ?_;refine az ?_;refine _p (by omega) ?_;refine az ?_;refine P_ _ (fun w' e=>(Dd _ v.at_[i / 16] _ w' (gD.ext (he.trans e))).mono fun _ _ ⟨h1,I⟩=>⟨h1,I ▸ Ext.refl _⟩) ?_;refine az ?_;intro aP aj;refine az ?_;exact ca
end Go.Proofs.R
end
section
namespace o
open Go Go.RowKit bb
structure Env.ok(v:Env):Prop where
 vars:∀l∈v.vars,∀z∈l,dH z
 lens:∀z∈v.lens,dH z
 locals:∀z∈v.locals,dH z
 at_:∀l∈v.at_,∀z∈l,dH z
 self:dH v.self
theorem aa4{w:A_}{v:B_}{l:C_ (C_ Int)}(h:u6 w v l):∀r∈l,∀z∈r,dH z:=by
 intro r aL;obtain⟨i,U,rfl⟩:=List.mem_iff_getElem.1 aL;obtain⟨aQ,cap,rfl,_⟩:=h.form;obtain⟨a,rfl⟩:=h.addr;obtain⟨bM,_,I⟩:=h.at i U;exact I.ok
theorem pF.ok{w:A_}{cs:C_ B_}{v:Env}(h:pF w cs v):v.ok:=by
 obtain⟨v0,v1,v2,v3,_,af,h1,I,ab,aD⟩:=h.ex;exact⟨aa4 af,h1.ok,I.ok,aa4 ab,aD⟩
theorem zT{α:Type}{l:C_ α}{n:Int}{x:α}(h:nth l n=some x):x∈l:=by
 unfold nth at h;split at h
 .exact List.mem_of_getElem? h
 .cases h
theorem Jd:dH 0:=⟨by decide,by decide⟩
theorem aq1{n:Int}(h:within n=true):dH n:=by simp[within] at h;exact⟨by omega,by omega⟩
theorem aqc(f:Int->Int->Int)(a b:Int):dH (tell f a b).1:=by
 unfold tell;split
 .rename_i h;simp only[Bool.and_eq_true] at h;exact aq1 h.2
 .exact Jd
theorem adS(b:Bool):dH (bit b):=by cases b<;>exact⟨by decide,by decide⟩
theorem afg{x:Int}{ad:oU}(h:gQ x=some ad)(a b:Int):dH (ad.y4 a b).1:=by
 unfold gQ at h
 repeat' split at h
 all_goals first | (cases h;first | exact aqc _ _ _ | exact adS _) | cases h
theorem K1{l:C_ Int}{n:Int}(h:∀z∈l,dH z):dH (gH l n).1:=by
 unfold gH;split
 .rename_i x ag;exact h x (zT ag)
 .exact Jd
theorem agl{v:Env}(aG:v.ok){x:Node}{st:C_ Int}(ag:x.ok):dH (iB v x st).1:=by
 unfold iB;split
 .rename_i ad aM;unfold wL;simp only;split
  .exact afg aM _ _
  .exact Jd
 .unfold gv
  (repeat' split)
  all_goals first
   | exact ag.n
   | exact Jd
   | exact aG.self
   | exact K1 aG.locals
   | exact K1 aG.lens
   | (rename_i cU;exact K1 (aG.vars _ (zT cU)))
   | (rename_i cU;exact K1 (aG.at_ _ (zT cU)))
   | (rename_i h1 _ _ I;exact aG.vars _ (zT h1) _ (zT I))
   | (rename_i I;rename_i h1;exact aG.vars _ (zT h1) _ (zT I))
end o
namespace Go.Proofs.R
open Go Go.RowKit bb
theorem aqU(ad:o.oU)(u fH:B_)(l:C_ Int)(w:A_)(aF:Ints w fH l)(af:0<l.length)(a6:wS w u ad.y4) :
  a7 Tryz.prog F.HY #[.agg #[.int .i64 ad.parts,.int .i64 ad.jq,.int .i64 ad.makes,u],fH] w fun v w'=>v = .tuple #[.int .i64 (o.wL ad l).1,.int .i64 (o.wL ad l).2]/\Ext w w':=by
 obtain⟨aQ,cap,rfl,hlen⟩:=aF.form;refine bn E.HY ?_;refine az ?_;refine O_ fun w1 b ak al ai=>?_;obtain⟨a,rfl⟩:=aF.addr af;have ph:Ints w1 (.slice (some a) l.length cap) l:=aF.ext al;refine az ?_;refine K_ (l.length - 1) (by omega) (by omega) ?_;refine az ?_;refine _u _ (fun w' e=>AB5 (a6.ext (al.trans e)) fun bK aI=>⟨rfl,aI⟩) ?_;have ej:l[0]=l.headD 0:=by
  cases l with
  | nil=>simp at af
  | cons z l=>rfl
 rw[ej,<-DK l af];rw[o.wL];generalize ad.y4 (l.headD 0) (l.getLastD 0)=q;refine az ?_;intro aH ao;refine az ?_;refine N_ (fun g=>?_) (fun g=>?_)
 all_goals
  refine az ?_;simp only[g,if_true,Bool.false_eq_true,if_false];exact ca
theorem afP(x:o.Node)(cs:C_ B_)(v:o.Env)(base b pm da:Nat)(w:A_)(m:B_)(st:C_ Int)(Q7:F_)(ag:x.ok)(h:o.pF w cs v)(hm:qn base b w m st)(ab:x.op=3->0<st.length)(aK:∀z∈st,o.dH z)
  (vS:w.heap[pm]? = some (.cells #[.pointer (some ⟨b,0,none⟩)] Q7))(sY:w.heap[da]? = some (.cells cs.toArray T.v)) :
  a7 Tryz.prog F.HW #[.agg x.enc.toArray,.pointer (some ⟨pm,0,none⟩),.pointer (some ⟨da,0,none⟩)] w fun u w' =>
   u = .tuple #[.int .i64 (o.gv x v (st.getLastD 0)).1,.int .i64 (o.gv x v (st.getLastD 0)).2]/\Ext w w':=by
 obtain⟨v0,v1,v2,v3,rfl,_⟩:=h.ex;refine bn E.HW ?_;refine az ?_;refine O_ fun w1 bo cT al ai=>?_;have cC:w1.heap[bo]? = some (.cells x.enc.toArray T.f):=ai;refine az ?_;refine R_ (c:=x.enc) cC (Ext.refl _) rfl ?_;refine az ?_;refine R_ sY al rfl ?_;refine az ?_;refine J_ (aqR x _ v base b w1 m st ag (h.ext al) (hm.ext al) ab aK) ?_;rintro _ aH ⟨rfl,ao⟩;refine az ?_;exact ca
theorem agm(v:o.Env):KS (o.iB v) o.wL fun x st=>o.gv x v (st.getLastD 0):=fun _ _=>rfl
theorem afR(gI:B_)(e:C_ o.Node)(cs:C_ B_)(v:o.Env)(w:A_)(he:o.eV w gI e)(h:o.pF w cs v) :
  a7 Tryz.prog F.HJ #[gI,.agg cs.toArray] w fun u w'=>u = .tuple #[.int .i64 (o.eval e v).1,.int .i64 (o.eval e v).2]/\Ext w w':=by
 have di:=h.ok;obtain⟨v0,v1,v2,v3,rfl,_⟩:=h.ex;refine bn E.HJ ?_;refine az ?_;refine O_ fun w1 da sY al ai=>?_;refine az ?_;refine W_ (cs:=[.slice none 0 0,.map none]) (by simp[eW]) ?_;refine az ?_;refine O_ fun aH b ak ao av=>?_;refine az ?_;refine O_ fun aP pm vS aj bu=>?_;refine az ?_;refine _V bu (by decide) rfl fun aR du bH=>?_;have Nu:aR.heap[pm]? = some (.cells #[.pointer (some ⟨b,0,none⟩)] T.a2):=bH;have aA:Ext aH aR:=du.ext aj vS;have OA:=cy av;have Yq:=cy ai;have zr:Ext w aR:=(al.trans ao).trans aA;clear bH du aj bu;have fy:=aA.obj av;have lL:=aA.obj (ao.obj ai);have gj:=al.size;refine az ?_;refine J_ (abe (o.iB v) o.wL (fun x st=>o.gv x v (st.getLastD 0)) (agm v) o.dH b w aR zr (by omega) gI _ _ e he fy (fun x st ag _ _ _ _=>o.agl di ag) ?_ ?_) ?_
 .intro x st base m w' ag hm zy aK cV dq dU Rl cW t ht hk;refine U_ (first:=[]) (cap:=[.pointer (some ⟨pm,0,none⟩),.pointer (some ⟨da,0,none⟩)]) (by kernel_rfl)
   (afP x _ v base b pm da Rl m st _ ag (h.ext ((hm.ext zr (by intro k hk e;omega)).trans ht)) (zy.ext ht) ?_ aK (ht.obj (hm.obj (by omega) Nu)) (ht.obj (hm.obj (by omega) lL))) fun v bK ⟨h1,I⟩=>by subst h1;exact hk bK I
  intro ab
  have:o.fc x.op=1:=by rw[ab];rfl
  omega
 .rintro ad e4 fH l w' cW t hm ⟨u,rfl,a6⟩ ⟨x,ag⟩ aF U hk;exact _e (first:=[]) (cap:=[]) (by kernel_rfl) (aqU ad u fH l w' U (by have:=PV ag;omega) a6) fun v bK ⟨h1,I⟩=>by subst h1;exact hk bK I
 rintro _ bq ⟨rfl,lh⟩;have aJ:Ext w bq:=lh.ext zr (by intro k hk e;omega);refine az ?_;exact ca
end Go.Proofs.R
end
section
namespace Go.Proofs.R
open Go Go.RowKit bb
theorem KA(v:B_)(l:C_ Int)(n:Int)(w:A_)(aF:oq w v l):a7 Tryz.prog F.JC #[v,.int .i64 n] w fun v w'=>v = .tuple #[.int .i64 (o.gH l n).1,.bool (decide ((o.gH l n).2=0))]/\Ext w w':=by
 obtain⟨aQ,cap,rfl,hlen⟩:=aF.form;refine bn E.JC ?_;refine az ?_;apply I_<;>intro g1
 .refine az ?_;rw[o.gH,o.gX (.inl g1)];exact ca
 refine az ?_;apply I_<;>intro g2
 .refine az ?_;rw[o.gH,o.gX (.inr (by omega))];exact ca
 obtain⟨i,rfl⟩:=Int.eq_ofNat_of_zero_le (show 0<=n by omega);obtain⟨a,rfl⟩:=aF.addr;refine az ?_;rw[o.gH,o.ja (by omega) (by omega)];simp only[Int.toNat_natCast];exact ca
theorem aqN(l:C_ Int)(n:Int):(o.gH l n).2=0\/o.gH l n=(0,8):=by
 unfold o.gH;split
 .exact .inl rfl
 .exact .inr rfl
theorem Ah(b:Bool)(w:A_):a7 Tryz.prog F.JA #[.bool b] w fun v w'=>v = .int .i64 (o.bit b)/\w'=w:=by
 refine bn E.JA ?_;refine az ?_;refine N_ (fun h=>?_) (fun h=>?_)
 all_goals
  subst h;refine az ?_;exact⟨rfl,trivial⟩
theorem QF(n:Int)(w:A_):a7 Tryz.prog F.Js #[.int .i64 n] w fun v w'=>v = .bool (o.within n)/\w'=w:=by
 refine bn E.Js ?_
 (repeat' (refine az ?_;first | (refine I_ (fun _=>?_) (fun _=>?_)<;>try (exfalso;omega)) | refine N_ (fun _=>?_) (fun _=>?_)))<;>try refine az ?_
 all_goals
  refine⟨?_,aU⟩;congr 1
  first | (rw[Bool.eq_iff_iff];simp[o.within];omega) | (simp[o.within];omega)
theorem Q8(a b n:Int)(w:A_):a7 Tryz.prog F.Jr #[.int .i64 a,.int .i64 b,.int .i64 n] w
  fun v w'=>v = .tuple #[.int .i64 (if o.within a&&o.within b&&o.within n then n else 0),.bool (o.within a&&o.within b&&o.within n)]/\w'=w:=by
 refine bn E.Jr ?_;refine az ?_;refine J_ (QF a w) ?_;rintro _ _ ⟨rfl,rfl⟩;refine az ?_;cases h1:o.within a with
 | false =>
  refine az ?_;exact⟨by simp,trivial⟩
 | true =>
  refine az ?_;refine J_ (QF b _) ?_;rintro _ _ ⟨rfl,rfl⟩;refine az ?_;cases I:o.within b with
  | false =>
   refine az ?_;exact⟨by simp,trivial⟩
  | true =>
   refine az ?_;refine J_ (QF n _) ?_;rintro _ _ ⟨rfl,rfl⟩;refine az ?_;cases ab:o.within n with
   | false =>
    refine az ?_;exact⟨by simp,trivial⟩
   | true =>
    refine az ?_;exact⟨by simp,trivial⟩
theorem Q9(f:Int->Int->Int)(a b n:Int)(h:o.within a=true->o.within b=true->n=f a b) :
  (if (o.within a&&o.within b&&o.within n)=true then n else 0)=(o.tell f a b).1/\(o.within a&&o.within b&&o.within n)=(o.tell f a b).2:=by
 unfold o.tell;cases h1:o.within a with
 | false=>simp
 | true =>
  cases I:o.within b with
  | false=>simp
  | true =>
   rw[h h1 I];cases ab:o.within (f a b)<;>simp
theorem aoi:tC F.Jo (o.tell (· + ·)):=by
 intro a b w;refine bn E.Jo ?_;refine az ?_;refine _k ?_;refine az ?_;refine J_ (Q8 a b _ w) ?_;rintro _ _ ⟨rfl,rfl⟩;obtain⟨h1,I⟩:=Q9 (· + ·) a b (IntKind.i64.wrap (a+b)) (fun h1 I=>by simp[o.within] at h1 I;exact IntWalk.i64_in _ (by omega));rw[h1,I];refine az ?_;exact ca
theorem aa5:tC F.Jq (o.tell (· - ·)):=by
 intro a b w;refine bn E.Jq ?_;refine az ?_;refine _k ?_;refine az ?_;refine J_ (Q8 a b _ w) ?_;rintro _ _ ⟨rfl,rfl⟩;obtain⟨h1,I⟩:=Q9 (· - ·) a b (IntKind.i64.wrap (a - b)) (fun h1 I=>by simp[o.within] at h1 I;exact IntWalk.i64_in _ (by omega));rw[h1,I];refine az ?_;exact ca
theorem aoO:tC F.Jp (o.tell (· * ·)):=by
 intro a b w;refine bn E.Jp ?_;refine az ?_;refine _k ?_;refine az ?_;refine J_ (Q8 a b _ w) ?_;rintro _ _ ⟨rfl,rfl⟩;obtain⟨h1,I⟩:=Q9 (· * ·) a b (IntKind.i64.wrap (a*b)) (fun h1 I=>by simp[o.within] at h1 I;have:=ZW h1 I;exact IntWalk.i64_in _ (by omega));rw[h1,I];refine az ?_;exact ca
def rb(op a b:Int):Int×Int:=match o.gQ op with | some ad=>o.wL ad [a,b] | none=>(0,0)
theorem aol(op a b:Int)(w:A_)(l9:11<=op/\op<=19) :
  a7 Tryz.prog F.JD #[.int .i64 op,.int .i64 a,.int .i64 b] w fun v w'=>v = .tuple #[.int .i64 (rb op a b).1,.int .i64 (rb op a b).2]/\Ext w w':=by
 have num:∀f:Int->Int->Int×Bool,(if (f a b).2=true then ((f a b).1,(0:Int)) else (0,10))=(let r:=f a b;if r.2=true then (r.1,0) else (0,10)):=fun _=>rfl;have ah:op=11\/op=12\/op=13\/op=14\/op=15\/op=16\/op=17\/op=18\/op=19:=by omega
 refine bn E.JD ?_;rcases ah with e | e | e | e | e | e | e | e | e
 .have key:rb op a b=if (o.tell (· + ·) a b).2=true then ((o.tell (· + ·) a b).1,0) else (0,10):=by subst e;rfl
  rw[key];refine az ?_;refine J_ (aoi a b w) ?_;rintro _ w1 ⟨rfl,al⟩;refine az ?_;refine N_ (fun h=>?_) (fun h=>?_)
  all_goals
   refine az ?_;rw[h];exact ca
 .have key:rb op a b=if (o.tell (· - ·) a b).2=true then ((o.tell (· - ·) a b).1,0) else (0,10):=by subst e;rfl
  rw[key];refine az ?_;refine J_ (aa5 a b w) ?_;rintro _ w1 ⟨rfl,al⟩;refine az ?_;refine N_ (fun h=>?_) (fun h=>?_)
  all_goals
   refine az ?_;rw[h];exact ca
 .have key:rb op a b=if (o.tell (· * ·) a b).2=true then ((o.tell (· * ·) a b).1,0) else (0,10):=by subst e;rfl
  rw[key];refine az ?_;refine J_ (aoO a b w) ?_;rintro _ w1 ⟨rfl,al⟩;refine az ?_;refine N_ (fun h=>?_) (fun h=>?_)
  all_goals
   refine az ?_;rw[h];exact ca
 .have key:rb op a b=(o.bit (decide (a=b)),0):=by subst e;rfl
  rw[key];refine az ?_;refine J_ (Ah _ w) ?_;rintro _ _ ⟨rfl,rfl⟩;refine az ?_;exact ca
 .have key:rb op a b=(o.bit (!decide (a=b)),0):=by subst e;rfl
  rw[key];refine az ?_;refine J_ (Ah _ w) ?_;rintro _ _ ⟨rfl,rfl⟩;refine az ?_;exact ca
 .have key:rb op a b=(o.bit (decide (a<b)),0):=by subst e;rfl
  rw[key];refine az ?_;refine J_ (Ah _ w) ?_;rintro _ _ ⟨rfl,rfl⟩;refine az ?_;exact ca
 .have key:rb op a b=(o.bit (decide (a<=b)),0):=by subst e;rfl
  rw[key];refine az ?_;refine J_ (Ah _ w) ?_;rintro _ _ ⟨rfl,rfl⟩;refine az ?_;exact ca
 .have key:rb op a b=(o.bit (!decide (a=0) && !decide (b=0)),0):=by subst e;rfl
  rw[key];refine az ?_;refine I_ (fun h1=>?_) (fun h1=>?_)
  all_goals
   refine az ?_;refine J_ (Ah _ w) ?_;rintro _ _ ⟨rfl,rfl⟩;refine az ?_;refine⟨?_,fw⟩;simp[h1]
 .have key:rb op a b=(o.bit (!decide (a=0) || !decide (b=0)),0):=by subst e;rfl
  rw[key];refine az ?_;refine I_ (fun h1=>?_) (fun h1=>?_)
  all_goals
   refine az ?_;refine J_ (Ah _ w) ?_;rintro _ _ ⟨rfl,rfl⟩;refine az ?_;refine⟨?_,fw⟩;simp[h1]
end Go.Proofs.R
end
section
namespace Go.Proofs.R
open Go Go.RowKit bb
theorem K2(l:C_ Int)(n:Int):(decide ((o.gH l n).2=0)=true->o.gH l n=((o.gH l n).1,0))/\(decide ((o.gH l n).2=0)=false->o.gH l n=(0,8)):=by
 rcases aqN l n with h | h
 .exact⟨fun _=>Prod.ext rfl h,fun bd=>by simp[h] at bd⟩
 .exact⟨fun bd=>by simp[h] at bd,fun _=>h⟩
theorem ao4(x:o.Node)(cs:C_ B_)(v:o.Env)(w:A_)(ag:x.ok)(h:o.pF w cs v)(ab:x.op≠3)(t:Int) :
  a7 Tryz.prog F.JJ #[.agg x.enc.toArray,.agg cs.toArray] w fun u w'=>u = .tuple #[.int .i64 (o.gv x v t).1,.int .i64 (o.gv x v t).2]/\Ext w w':=by
 obtain⟨a0,bw,df,c1,a2,c2,a3,br,rfl,q2,cV,dq,dU,hy,eU,ek,ev,ef⟩:=h.form;refine bn E.JJ ?_;refine az ?_;refine O_ fun w1 bo cT al ai=>?_;refine az ?_;refine O_ fun aH bR dt ao av=>?_;have he:=al.trans ao;have cC:aH.heap[bo]? = some (.cells #[.int .i64 x.op,.int .i64 x.n] T.f):=ao.obj ai;clear ai;refine az ?_;apply I_<;>intro g1
 .have hk:o.gv x v t=if o.within x.n then (x.n,0) else (0,10):=by rw[o.gv,if_pos g1]
  (repeat' (refine az ?_;first | (refine I_ (fun _=>?_) (fun _=>?_)<;>try (exfalso;omega)) | refine N_ (fun _=>?_) (fun _=>?_)))<;>try refine az ?_
  all_goals
   refine⟨?_,fw⟩;rw[hk];unfold o.within;split<;>first | rfl | (rename_i cU;simp at cU;exfalso;omega)
 refine az ?_;apply I_<;>intro g2
 .by_cases DL:x.n<0\/(v.vars.length:Int)<=x.n
  .have hk:o.gv x v t=(0,8):=by rw[o.gv,if_neg g1,if_pos g2,o.gX DL]
   rw[hk]
   (repeat' (refine az ?_;first | (refine I_ (fun _=>?_) (fun _=>?_)<;>try (exfalso;omega)) | refine N_ (fun _=>?_) (fun _=>?_)))<;>try refine az ?_
   all_goals exact ca
  obtain⟨i,U⟩:=Int.eq_ofNat_of_zero_le (show 0<=x.n by omega);have lJ:i<v.vars.length:=by omega
  obtain⟨a,rfl⟩:=q2.addr;obtain⟨bM,kp,gD⟩:=q2.at i lJ;have ay:o.nth v.vars x.n=some v.vars[i]:=by rw[U,o.ja (by omega) (by omega)];simp only[Int.toNat_natCast]
  have hk:o.gv x v t=o.gH v.vars[i] 0:=by rw[o.gv,if_neg g1,if_pos g2,ay]
  rw[hk];rw[U] at cC;refine az ?_;refine M_ (he.cell kp) ?_;refine az ?_;refine J_ (KA _ v.vars[i] 0 aH (gD.ext he)) ?_;rintro _ aP ⟨rfl,aj⟩;obtain⟨j1,jK⟩:=K2 v.vars[i] 0;refine az ?_;refine N_ (fun g=>?_) (fun g=>?_)
  .refine az ?_;rw[j1 g];exact ca
  .refine az ?_;rw[jK g];exact ca
 refine az ?_;apply I_<;>intro g4
 .have hk:o.gv x v t=o.gH v.locals x.n:=by rw[o.gv,if_neg g1,if_neg g2,if_neg ab,if_pos g4]
  rw[hk];refine az ?_;refine J_ (KA _ v.locals x.n aH (dq.ext he)) ?_;rintro _ aP ⟨rfl,aj⟩;obtain⟨j1,jK⟩:=K2 v.locals x.n;refine az ?_;refine N_ (fun g=>?_) (fun g=>?_)
  .refine az ?_;rw[j1 g];exact ca
  .refine az ?_;rw[jK g];exact ca
 refine az ?_;apply I_<;>intro g5
 .have hk:o.gv x v t=(v.self,0):=by rw[o.gv,if_neg g1,if_neg g2,if_neg ab,if_neg g4,if_neg (by omega),if_pos g5]
  rw[hk];refine az ?_;exact ca
 refine az ?_;apply I_<;>intro g6
 .have hk:o.gv x v t=o.gH v.lens x.n:=by rw[o.gv,if_neg g1,if_neg g2,if_neg ab,if_neg g4,if_pos g6]
  rw[hk];refine az ?_;refine J_ (KA _ v.lens x.n aH (cV.ext he)) ?_;rintro _ aP ⟨rfl,aj⟩;obtain⟨j1,jK⟩:=K2 v.lens x.n;refine az ?_;refine N_ (fun g=>?_) (fun g=>?_)
  .refine az ?_;rw[j1 g];exact ca
  .refine az ?_;rw[jK g];exact ca
 refine az ?_;apply I_<;>intro g7;rotate_left
 .have hk:o.gv x v t=(0,0):=by rw[o.gv,if_neg g1,if_neg g2,if_neg ab,if_neg g4,if_neg g6,if_neg g5,if_neg g7]
  rw[hk];refine az ?_;exact ca
 have hk:o.gv x v t=if 0<=x.n then (match o.nth v.at_ (x.n.tdiv 16) with | some l=>o.gH l (x.n.tmod 16) | none=>(0,8)) else (0,8):=by
  rw[o.gv,if_neg g1,if_neg g2,if_neg ab,if_neg g4,if_neg g6,if_neg g5,if_pos g7];split
  .cases o.nth v.at_ (x.n.tdiv 16)<;>rfl
  .rfl
 refine az ?_;apply I_<;>intro g8
 .rw[hk,if_neg (by omega)];refine az ?_;exact ca
 rw[if_pos (by omega)] at hk;obtain⟨i,U⟩:=Int.eq_ofNat_of_zero_le (show 0<=x.n by omega);obtain⟨_,gp⟩:=ag.n;rw[U] at gp;have au:x.n.tdiv 16=((i / 16:Nat):Int):=by rw[U];rfl
 have ajt:x.n.tmod 16=((i % 16:Nat):Int):=by rw[U];rfl
 refine az ?_;refine _J (by omega) ?_;rw[au];refine az ?_;apply I_<;>intro g9
 .rw[hk,o.gX (.inr (by omega))];refine az ?_;exact ca
 have aE:i / 16<v.at_.length:=by omega
 obtain⟨a,rfl⟩:=dU.addr;obtain⟨bM,kp,gD⟩:=dU.at (i / 16) aE;rw[au,o.ja (by omega) (by omega)] at hk;simp only[Int.toNat_natCast] at hk;rw[hk];refine az ?_;refine _J (by omega) ?_;rw[au];refine az ?_;refine M_ (he.cell kp) ?_;refine az ?_;refine _p (by omega) ?_;refine az ?_;refine P_ _ (fun w' e=>KA _ v.at_[i / 16] _ w' (gD.ext (he.trans e))) ?_;obtain⟨j1,jK⟩:=K2 v.at_[i / 16] (x.n.tmod 16);refine az ?_;intro aP aj;refine az ?_;refine N_ (fun g=>?_) (fun g=>?_)
 .refine az ?_;rw[j1 g];exact ca
 .refine az ?_;rw[jK g];exact ca
def tk(x:o.Node)(k:Int)(v:o.Env):Int×Int:=match o.gQ x.op with | some ad=>o.wL ad [k] | none=>o.gv x v k
theorem aoM(x:o.Node)(k:Int)(cs:C_ B_)(v:o.Env)(w:A_)(h:o.pF w cs v)(l9:x.op=3\/x.op=9\/x.op=10) :
  a7 Tryz.prog F.JE #[.agg x.enc.toArray,.int .i64 k,.agg cs.toArray] w fun u w'=>u = .tuple #[.int .i64 (tk x k v).1,.int .i64 (tk x k v).2]/\Ext w w':=by
 obtain⟨a0,bw,df,c1,a2,c2,a3,br,rfl,q2,cV,dq,dU,hy,eU,ek,ev,ef⟩:=h.form;refine bn E.JE ?_;refine az ?_;refine O_ fun w1 bo cT al ai=>?_;refine az ?_;refine O_ fun aH bR dt ao av=>?_;have he:=al.trans ao;have cC:aH.heap[bo]? = some (.cells #[.int .i64 x.op,.int .i64 x.n] T.f):=ao.obj ai;clear ai;refine az ?_;apply I_<;>intro g9
 .have hk:tk x k v=(o.bit (decide (k=0)),0):=by rw[tk,g9];rfl
  rw[hk];refine az ?_;refine J_ (Ah _ aH) ?_;rintro _ _ ⟨rfl,rfl⟩;refine az ?_;exact ca
 refine az ?_;apply I_<;>intro g10
 .have hk:tk x k v=if (o.tell (· - ·) 0 k).2=true then ((o.tell (· - ·) 0 k).1,0) else (0,10):=by rw[tk,g10];rfl
  rw[hk];refine az ?_;refine J_ (aa5 0 k aH) ?_;rintro _ aP ⟨rfl,aj⟩;refine az ?_;refine N_ (fun g=>?_) (fun g=>?_)
  all_goals
   refine az ?_;rw[g];exact ca
 have g3:x.op=3:=by omega
 have gb:tk x k v=o.gv x v k:=by rw[tk,show o.gQ x.op=none from by rw[g3];rfl]
 have hk:tk x k v=(match o.nth v.vars x.n with | some l=>(match o.nth l (k - 1) with | some y=>(y,0) | none=>(0,10)) | none=>(0,8)):=by
  rw[gb,o.gv,if_neg (by omega),if_neg (by omega),if_pos g3];cases o.nth v.vars x.n with
  | none=>rfl
  | some l=>simp only;cases o.nth l (k - 1)<;>rfl
 clear gb;by_cases DL:x.n<0\/(v.vars.length:Int)<=x.n
 .rw[o.gX DL] at hk;rw[hk]
  (repeat' (refine az ?_;first | (refine I_ (fun _=>?_) (fun _=>?_)<;>try (exfalso;omega)) | refine N_ (fun _=>?_) (fun _=>?_)))<;>try refine az ?_
  all_goals exact ca
 obtain⟨i,U⟩:=Int.eq_ofNat_of_zero_le (show 0<=x.n by omega);have lJ:i<v.vars.length:=by omega
 obtain⟨a,rfl⟩:=q2.addr;obtain⟨bM,kp,gD⟩:=q2.at i lJ;obtain⟨cx,ci,rfl,li⟩:=gD.form;rw[U,o.ja (by omega) (by omega)] at hk;simp only[Int.toNat_natCast] at hk;rw[U] at cC;have jV:=gD.ext he;generalize v.vars[i]=l at *;by_cases arY:k<1\/(l.length:Int)<k
 .rw[o.gX (by omega)] at hk;simp only at hk;rw[hk];by_cases arZ:k<1
  .refine az ?_;exact ca
  .refine az ?_;refine M_ (he.cell kp) ?_;refine az ?_;exact ca
 obtain⟨j,aE⟩:=Int.eq_ofNat_of_zero_le (show 0<=k - 1 by omega);have np:j<l.length:=by omega
 rw[o.ja (by omega) (by omega)] at hk;simp only[aE,Int.toNat_natCast] at hk;rw[hk];obtain⟨cD,rfl⟩:=gD.addr;refine az ?_;refine M_ (he.cell kp) ?_;refine az ?_;refine M_ (he.cell kp) ?_;refine az ?_;refine K_ j (by omega) (by omega) ?_;refine az ?_;exact ca
end Go.Proofs.R
end
section
namespace Go.Proofs.R
open Go Go.RowKit bb
theorem agi{v:o.Env}{x:o.Node}{st:C_ Int}(h:o.fc x.op=0):o.iB v x st=o.gv x v (st.getLastD 0):=by
 unfold o.iB;rw[(Kj h).2.2.2]
theorem agj{v:o.Env}{x:o.Node}{st:C_ Int}(h:o.fc x.op=1)(aF:1<=st.length):o.iB v x st=tk x st[st.length - 1] v:=by
 unfold o.iB tk;cases aM:o.gQ x.op with
 | none=>simp only;rw[DK st (by omega)]
 | some ad =>
  have:=(o.Fk aM).1
  simp only;rw[show ad.parts.toNat=1 from by omega,Mw aF]
theorem agk{v:o.Env}{x:o.Node}{st:C_ Int}(h:o.fc x.op=2)(aF:2<=st.length):o.iB v x st=rb x.op st[st.length - 2] st[st.length - 1]:=by
 unfold o.iB rb;obtain⟨ad,aM,ar⟩:=aae (show 9<=x.op/\x.op<=19 by have:=Kk h;omega);rw[aM];simp only;rw[show ad.parts.toNat=2 from by omega,Vz aF]
theorem aox(gI:B_)(e:C_ o.Node)(cs:C_ B_)(v:o.Env)(w:A_)(he:o.eV w gI e)(h:o.pF w cs v) :
  a7 Tryz.prog F.Jx #[gI,.agg cs.toArray] w fun u w'=>u = .tuple #[.int .i64 (o.eval e v).1,.int .i64 (o.eval e v).2]/\Ext w w':=by
 obtain⟨v0,v1,v2,v3,rfl,_⟩:=h.ex;obtain⟨aQ,cap,rfl,hlen⟩:=he.form;refine bn E.Jx ?_;refine az ?_;refine O_ fun w1 da sY al ai=>?_;refine az ?_;apply I_<;>intro g1
 .refine az ?_;rw[o.eval,o.kV,if_pos (by omega)];exact ca
 refine az ?_;apply I_<;>intro g2
 .refine az ?_;rw[o.eval,o.kV,if_neg (by omega),if_pos (by omega)];exact ca
 refine az ?_;refine _i 7 e.length (fun k S w' => ∃u st,S 6=u/\mU w1.heap.size w' u st/\o.eZ (o.iB v) (e.take k) []=(0,st)/\(0<k->1<=st.length)/\st.length<=12/\Ext w1 w')
  (by simp -dsimp only[c0,cB,Nat.reduceAdd,Nat.reduceEqDiff,reduceIte,reduceCtorEq,dd]) ⟨.slice none 0 0,[],by simp -dsimp only[c0,cB,Nat.reduceAdd,Nat.reduceEqDiff,reduceIte,reduceCtorEq,dd],aW.nil _ _ _ _ _,by simp[o.eZ],by simp,by simp,Ext.refl _⟩ ?_
 rintro k S aH bZ hk b1 ⟨v6,st,bx,fB,hS,DO,rF,ao⟩;have af:=bZ 0 rfl;have ab:=bZ 3 rfl;simp only[bL,Nat.reduceAdd,Nat.reduceEqDiff,reduceIte,jT,nf] at af ab;clear bZ;obtain⟨tj,sG,rfl,b4,jC⟩:=fB.form;have U:Ints aH _ st:=aW.jH (enc:=encI) (sz:=1) (fun _=>rfl) fB;unfold maxLen at jC;refine dm (i_ af (i_ ab (i_ bx b1))) ?_;apply I_<;>intro g3;rotate_left
 .have aZ:k=e.length:=by omega
  subst aZ;rw[List.take_length] at hS;have h1:=DO (by omega);obtain⟨a,rfl⟩:=U.addr h1;have dK:o.eval e v=if st.length > 1 then (0,5) else (st.headD 0,0):=by
   rw[o.eval,o.kV,if_neg (by omega),if_neg (by omega),hS,if_neg (by simp)]
  rw[dK];clear dK;refine dm (i_ af (i_ ab (i_ bx b1))) ?_;apply I_<;>intro g4
  .refine az ?_;rw[if_pos (by omega)];exact ca
  .refine dm (i_ af (i_ ab (i_ bx b1))) ?_;refine K_ 0 rfl (by omega) ?_;refine az ?_;rw[if_neg (by omega)]
   have:st.headD 0=st[0]:=by
    cases st with
    | nil=>simp at h1
    | cons z st=>rfl
   rw[this];exact ca
 have aZ:k<e.length:=by omega
 obtain⟨a,rfl⟩:=he.addr;have um:=(he.at k aZ).ok;have ks:=fun af=>o.QD (f:=o.iB v) (e:=e) (by omega) aZ hS af;have ui:=o.yk aZ hS;have DM:=al.trans ao;have eE:=ao.obj ai;refine dm (i_ af (i_ ab (i_ bx b1))) ?_;refine J_ (abL e[k].op aH) ?_;rintro _ _ ⟨rfl,rfl⟩;generalize ay:o.fc e[k].op=n at *;have l8 : -1<=n/\n<=2:=by rw[<-ay];unfold o.fc; (repeat' split)<;>omega
 refine dm (i_ af (i_ ab (i_ bx b1))) ?_;apply I_<;>intro g4
 .have an:o.stepG (o.iB v) e[k] st=(3,st):=by unfold o.stepG;rw[ay,if_pos g4]
  rw[an] at ks;refine az ?_;rw[o.eval,ks (by simp)];exact ca
 refine dm (i_ af (i_ ab (i_ bx b1))) ?_;apply I_<;>intro g5
 .have an:o.stepG (o.iB v) e[k] st=(4,st):=by unfold o.stepG;rw[ay,if_neg g4,if_pos g5]
  rw[an] at ks;refine az ?_;rw[o.eval,ks (by simp)];exact ca
 obtain⟨p,rfl⟩:=Int.eq_ofNat_of_zero_le (show 0<=n by omega);have eH:o.stepG (o.iB v) e[k] st=if (o.iB v e[k] st).2≠0 then ((o.iB v e[k] st).2,st) else if (st.take (st.length - p)++[(o.iB v e[k] st).1]).length > 12 then (12,st) else (0,st.take (st.length - p)++[(o.iB v e[k] st).1]):=by
  unfold o.stepG;rw[ay,if_neg g4,if_neg g5];simp only[Int.toNat_natCast]
 have iq:(st.take (st.length - p)++[(o.iB v e[k] st).1]).length=st.length - p+1:=by simp[List.length_take]
 rw[iq] at eH;have fin:p=0\/p=1\/p=2:=by omega
 rcases fin with zz | zz | zz
 .have ax:=agi (v:=v) (st:=st) (x:=e[k]) (by omega);obtain⟨gj,z2,z3,z4⟩:=Kj (x:=e[k].op) (by omega);refine dm (i_ af (i_ ab (i_ bx b1))) ?_;refine R_ (c:=[_,_,_,_,_]) eE (Ext.refl _) rfl ?_;refine dm (i_ af (i_ ab (i_ bx b1))) ?_;refine P_ _ (fun w' e'=>ao4 e[k] _ v w' um (h.ext (DM.trans e')) z3 (st.getLastD 0)) ?_;rw[<-ax];refine dm (i_ af (i_ ab (i_ bx b1))) ?_;intro aP aj;refine dm (i_ af (i_ ab (i_ bx b1))) ?_;apply I_<;>intro g6;rotate_left
  .rw[if_pos g6] at eH;refine az ?_;rw[o.eval,ks (by rw[eH];exact g6),eH];exact ca
  rw[if_neg (by simpa using g6)] at eH;have eu:=fB.ext aj;refine dm (i_ af (i_ ab (i_ bx b1))) ?_;refine Y_ (cs:=[]) (by simp[List.range,List.range.loop,eW]) fun aR cF fy aA bH=>?_;have z12:=ao.size;have z23:=aj.size;have CF:=aA.size;have qI:mU w1.heap.size aR (.slice (some ⟨cF,0,none⟩) 0 0) []:=aW.empty (by omega) bH;have eR:=eu.ext aA;have dL:mU w1.heap.size aR (.slice _ (st.length - p) _) (st.take (st.length - p)):=aW.head (enc:=encI) (sz:=1) (xs:=st) (fun _=>rfl) eR (st.length - p) (Nat.sub_le _ _);have ch:(st.take (st.length - p)).length=st.length - p:=by simp[List.length_take]
  refine dm (i_ af (i_ ab (i_ bx b1))) ?_;refine _M (st.length - p) (by simp -dsimp only[c0,cB,Nat.reduceAdd,Nat.reduceEqDiff,reduceIte,reduceCtorEq,dd,bx];first | rfl | (congr 1;omega)) (by omega) ?_;refine az ?_;refine _j (xs:=[]) (ys:=st.take (st.length - p)) qI dL (fun _=>rfl) rB (by rw[ch];simp only[List.length_nil];omega) (by rw[ch];simp only[List.length_nil,maxLen];omega) (by omega) fun v5 bq mD iE=>?_;have nX:Ext aP bq:=aA.grown iE fun q au=>by simp[Value.ownBlock] at au;omega
  rw[List.nil_append] at mD;have z35:=nX.size;refine az ?_;refine Y_ (cs:=[(o.iB v e[k] st).1].flatMap encI) (by simp[List.range,List.range.loop,eW,lay,dp,bL,Value.cells,encI]) fun bB dP fX aT b4=>?_;have Ap:=aT.size;have dB:=mD.ext aT;refine az ?_;refine _U (xs:=st.take (st.length - p)) (ys:=[(o.iB v e[k] st).1]) dB (fun _=>rfl) (hA b4) rfl rB (by rw[ch];simp only[List.length_cons,List.length_nil];omega) (by rw[ch];simp only[List.length_cons,List.length_nil,maxLen];omega) (by omega) fun Cx bQ dS lb=>?_;have bz:Ext w1 bQ:=Ext.grown (((ao.trans aj).trans nX).trans aT) lb fun q au=>(dB.lt q au).1;obtain⟨Fh,mZ,rfl,_⟩:=dS.form;rw[iq] at dS ⊢;by_cases g7:12<st.length - p+1
  .rw[if_pos (by omega)] at eH
   first
    | (exfalso;omega)
    | (refine az ?_
       rw[o.eval,ks (by rw[eH];simp),eH];exact⟨aU,al.trans bz⟩)
  rw[if_neg (by omega)] at eH;refine dm b1 ?_;refine⟨aZ,aU,_,_,rfl,dS,by rw[ui,eH],fun _=>by rw[iq];omega,by rw[iq];omega,bz⟩
 .have ax:=agj (v:=v) (st:=st) (x:=e[k]) (by omega) (by omega);obtain⟨mW,rfl⟩:=U.addr;refine dm (i_ af (i_ ab (i_ bx b1))) ?_;refine K_ (st.length - 1) (by omega) (by omega) ?_;refine dm (i_ af (i_ ab (i_ bx b1))) ?_;refine R_ (c:=[_,_,_,_,_]) eE (Ext.refl _) rfl ?_;refine dm (i_ af (i_ ab (i_ bx b1))) ?_;refine P_ _ (fun w' e'=>aoM e[k] _ _ v w' (h.ext (DM.trans e')) (Z8 (by omega))) ?_;rw[<-ax];refine dm (i_ af (i_ ab (i_ bx b1))) ?_;intro aP aj;refine dm (i_ af (i_ ab (i_ bx b1))) ?_;apply I_<;>intro g6;rotate_left
  .rw[if_pos g6] at eH;refine az ?_;rw[o.eval,ks (by rw[eH];exact g6),eH];exact ca
  rw[if_neg (by simpa using g6)] at eH;have eu:=fB.ext aj;refine dm (i_ af (i_ ab (i_ bx b1))) ?_;refine Y_ (cs:=[]) (by simp[List.range,List.range.loop,eW]) fun aR cF fy aA bH=>?_;have z12:=ao.size;have z23:=aj.size;have CF:=aA.size;have qI:mU w1.heap.size aR (.slice (some ⟨cF,0,none⟩) 0 0) []:=aW.empty (by omega) bH;have eR:=eu.ext aA;have dL:mU w1.heap.size aR (.slice _ (st.length - p) _) (st.take (st.length - p)):=aW.head (enc:=encI) (sz:=1) (xs:=st) (fun _=>rfl) eR (st.length - p) (Nat.sub_le _ _);have ch:(st.take (st.length - p)).length=st.length - p:=by simp[List.length_take]
  refine dm (i_ af (i_ ab (i_ bx b1))) ?_;refine _M (st.length - p) (by simp -dsimp only[c0,cB,Nat.reduceAdd,Nat.reduceEqDiff,reduceIte,reduceCtorEq,dd,bx];first | rfl | (congr 1;omega)) (by omega) ?_;refine az ?_;refine _j (xs:=[]) (ys:=st.take (st.length - p)) qI dL (fun _=>rfl) rB (by rw[ch];simp only[List.length_nil];omega) (by rw[ch];simp only[List.length_nil,maxLen];omega) (by omega) fun v5 bq mD iE=>?_;have nX:Ext aP bq:=aA.grown iE fun q au=>by simp[Value.ownBlock] at au;omega
  rw[List.nil_append] at mD;have z35:=nX.size;refine az ?_;refine Y_ (cs:=[(o.iB v e[k] st).1].flatMap encI) (by simp[List.range,List.range.loop,eW,lay,dp,bL,Value.cells,encI]) fun bB dP fX aT b4=>?_;have Ap:=aT.size;have dB:=mD.ext aT;refine az ?_;refine _U (xs:=st.take (st.length - p)) (ys:=[(o.iB v e[k] st).1]) dB (fun _=>rfl) (hA b4) rfl rB (by rw[ch];simp only[List.length_cons,List.length_nil];omega) (by rw[ch];simp only[List.length_cons,List.length_nil,maxLen];omega) (by omega) fun Cx bQ dS lb=>?_;have bz:Ext w1 bQ:=Ext.grown (((ao.trans aj).trans nX).trans aT) lb fun q au=>(dB.lt q au).1;obtain⟨Fh,mZ,rfl,_⟩:=dS.form;rw[iq] at dS ⊢;by_cases g7:12<st.length - p+1
  .rw[if_pos (by omega)] at eH
   first
    | (exfalso;omega)
    | (refine az ?_
       rw[o.eval,ks (by rw[eH];simp),eH];exact⟨aU,al.trans bz⟩)
  rw[if_neg (by omega)] at eH;refine dm b1 ?_;refine⟨aZ,aU,_,_,rfl,dS,by rw[ui,eH],fun _=>by rw[iq];omega,by rw[iq];omega,bz⟩
 .have ax:=agk (v:=v) (st:=st) (x:=e[k]) (by omega) (by omega);obtain⟨mW,rfl⟩:=U.addr;refine dm (i_ af (i_ ab (i_ bx b1))) ?_;refine K_ (st.length - 2) (by omega) (by omega) ?_;refine dm (i_ af (i_ ab (i_ bx b1))) ?_;refine K_ (st.length - 1) (by omega) (by omega) ?_;refine dm (i_ af (i_ ab (i_ bx b1))) ?_;refine P_ _ (fun w' e'=>aol e[k].op _ _ w' (Kk (by omega))) ?_;rw[<-ax];refine dm (i_ af (i_ ab (i_ bx b1))) ?_;intro aP aj;refine dm (i_ af (i_ ab (i_ bx b1))) ?_;apply I_<;>intro g6;rotate_left
  .rw[if_pos g6] at eH;refine az ?_;rw[o.eval,ks (by rw[eH];exact g6),eH];exact ca
  rw[if_neg (by simpa using g6)] at eH;have eu:=fB.ext aj;refine dm (i_ af (i_ ab (i_ bx b1))) ?_;refine Y_ (cs:=[]) (by simp[List.range,List.range.loop,eW]) fun aR cF fy aA bH=>?_;have z12:=ao.size;have z23:=aj.size;have CF:=aA.size;have qI:mU w1.heap.size aR (.slice (some ⟨cF,0,none⟩) 0 0) []:=aW.empty (by omega) bH;have eR:=eu.ext aA;have dL:mU w1.heap.size aR (.slice _ (st.length - p) _) (st.take (st.length - p)):=aW.head (enc:=encI) (sz:=1) (xs:=st) (fun _=>rfl) eR (st.length - p) (Nat.sub_le _ _);have ch:(st.take (st.length - p)).length=st.length - p:=by simp[List.length_take]
  refine dm (i_ af (i_ ab (i_ bx b1))) ?_;refine _M (st.length - p) (by simp -dsimp only[c0,cB,Nat.reduceAdd,Nat.reduceEqDiff,reduceIte,reduceCtorEq,dd,bx];first | rfl | (congr 1;omega)) (by omega) ?_;refine az ?_;refine _j (xs:=[]) (ys:=st.take (st.length - p)) qI dL (fun _=>rfl) rB (by rw[ch];simp only[List.length_nil];omega) (by rw[ch];simp only[List.length_nil,maxLen];omega) (by omega) fun v5 bq mD iE=>?_;have nX:Ext aP bq:=aA.grown iE fun q au=>by simp[Value.ownBlock] at au;omega
  rw[List.nil_append] at mD;have z35:=nX.size;refine az ?_;refine Y_ (cs:=[(o.iB v e[k] st).1].flatMap encI) (by simp[List.range,List.range.loop,eW,lay,dp,bL,Value.cells,encI]) fun bB dP fX aT b4=>?_;have Ap:=aT.size;have dB:=mD.ext aT;refine az ?_;refine _U (xs:=st.take (st.length - p)) (ys:=[(o.iB v e[k] st).1]) dB (fun _=>rfl) (hA b4) rfl rB (by rw[ch];simp only[List.length_cons,List.length_nil];omega) (by rw[ch];simp only[List.length_cons,List.length_nil,maxLen];omega) (by omega) fun Cx bQ dS lb=>?_;have bz:Ext w1 bQ:=Ext.grown (((ao.trans aj).trans nX).trans aT) lb fun q au=>(dB.lt q au).1;obtain⟨Fh,mZ,rfl,_⟩:=dS.form;rw[iq] at dS ⊢;by_cases g7:12<st.length - p+1
  .rw[if_pos (by omega)] at eH
   first
    | (exfalso;omega)
    | (refine az ?_
       rw[o.eval,ks (by rw[eH];simp),eH];exact⟨aU,al.trans bz⟩)
  rw[if_neg (by omega)] at eH;refine dm b1 ?_;refine⟨aZ,aU,_,_,rfl,dS,by rw[ui,eH],fun _=>by rw[iq];omega,by rw[iq];omega,bz⟩
end Go.Proofs.R
end
section
namespace o
open Go
theorem Wi{m:Model}(a1:eL m){s:C_ Int}(ax:Fits m s):∀x∈s,-9223372036854775808<=x/\x<=9223372036854775807:=fun x ag=>by
 obtain⟨i,U,rfl⟩:=List.mem_iff_getElem.1 ag;have bd:i<(bX m).length:=by have:=ax.len;unfold dW at this;omega
 have h1:=ax.cell i U bd;have I:=aef a1 _ (List.getElem_mem bd);obtain⟨bo,bR,b0⟩:=I;omega
structure Lr(v:Env):Prop where
 vars:∀l∈v.vars,∀x∈l,dH x
 lens:∀x∈v.lens,dH x
 locals:∀x∈v.locals,dH x
 at_:∀l∈v.at_,∀x∈l,dH x
 self:dH v.self
theorem afI{m:Model}(a1:eL m){s:C_ Int}(ax:Fits m s){q:Nat}(au:q<(insts m).length):Lr (cr m s q):=by
 have e9:=Wi a1 ax;have ue:=(rW _ (List.getElem_mem au)).elem;have gU:=zG a1;refine⟨fun l aF x ag=>?_,fun x ag=>?_,fun x ag=>?_,fun l aF x ag=>?_,?_⟩
 .simp only[cr,List.mem_map] at aF;obtain⟨k,_,rfl⟩:=aF;exact e9 x (List.mem_of_mem_drop (List.mem_of_mem_take ag))
 .simp only[cr,List.mem_map] at ag;obtain⟨k,_,rfl⟩:=ag;rw[List.getElem!_eq_getElem?_getD];cases hk:s[cq m k]? with
  | none=>simp[dH]
  | some y=>exact e9 y (List.mem_of_getElem? hk)
 .rw[(yr s au rfl).1] at ag;exact e9 x (List.mem_of_mem_drop (List.mem_of_mem_take ag))
 .simp only[cr,List.mem_map] at aF;obtain⟨k,_,rfl⟩:=aF;unfold iQ at ag;obtain⟨d,_,rfl⟩:=List.mem_map.1 ag
  have:=GL m s k d (insts m).length
  unfold dH;omega
 .rw[(yr s au rfl).2];unfold dH;omega
end o
namespace Go.Proofs.R
open Go Go.RowKit bb
theorem Pk{w:A_}{v:B_}{l:C_ Int}(h:ee w v l)(e9:∀x∈l,o.dH x):oq w v l:=by
 obtain⟨aQ,cap,e,h1,I,ab,aD⟩:=h.ex;exact⟨aQ,cap,e,h1,I,ab,fun a aV i U=>⟨aD a aV i U,e9 _ (List.getElem_mem U)⟩⟩
theorem aa3{w:A_}{v:B_}{l:C_ (C_ Int)}(h:w4 w v l)(e9:∀r∈l,∀x∈r,o.dH x):u6 w v l:=by
 obtain⟨aQ,cap,e,h1,I,ab,aD⟩:=h.ex;refine⟨aQ,cap,e,h1,I,ab,fun a aV i U=>?_⟩;obtain⟨u,hu,ay⟩:=aD a aV i U;exact⟨u,hu,Pk ay (e9 _ (List.getElem_mem U))⟩
theorem VU{w:A_}{cs:C_ B_}{x:o.Env}(h:Lq w cs x)(aM:o.Lr x):o.pF w cs x:=by
 obtain⟨v0,v1,v2,v3,rfl,af,h1,I,ab⟩:=h.ex;exact⟨v0,v1,v2,v3,rfl,aa3 af aM.vars,Pk h1 aM.lens,Pk I aM.locals,aa3 ab aM.at_,aM.self⟩
end Go.Proofs.R
end
section
namespace o
open Go
theorem Up(m:Model)(q:Nat)(l:C_ Act)(s:C_ Int){k:Nat}(hk:k<l.length):kh m q (l.take (k+1)) s=match kh m q (l.take k) s with | none=>none | some t=>jf m t q l[k]:=by
 rw[List.take_succ_eq_append_getElem hk,Uo]<;>rfl
theorem Un(m:Model)(q:Nat):∀(l:C_ Act) (s:C_ Int) (k:Nat),kh m q (l.take k) s=none->kh m q l s=none
 | [],s,k,h=>by simp[kh] at h
 | a :: l,s,0,h=>by simp[kh] at h
 | a :: l,s,k+1,h=>by
  simp only[List.take_succ_cons,kh] at h ⊢;cases h1:jf m s q a with
  | none=>rfl
  | some t=>rw[h1] at h;exact Un m q l t k h
def lost(m:Model)(s t:C_ Int)(c:dI):C_ Int:=jY t (cq m (comm c.bY).2.toNat) (chanOf m s (comm c.bY).2.toNat)
structure uX(m:Model)(s:List Int)(ref gJ:Int)(t:List Int)(e:Int):Prop where
 f0:¬(hb m s/\Told m ref)->t=[]/\e=2
 f1:∀q p k,hb m s->eM m ref q p k->¬(0<=gJ/\gJ<ways (bI m p k) m.aw)->t=[]/\e=2
 f2:∀q p k,hb m s->eM m ref q p k->0<=gJ/\gJ<ways (bI m p k) m.aw->hp m s q (bI m p k)=none->t=[]/\e=15
 f3:∀q p k u,hb m s->eM m ref q p k->0<=gJ/\gJ<ways (bI m p k) m.aw->hp m s q (bI m p k)=some u->t=(if gJ=1 then lost m s u (bI m p k) else u)/\e=0
theorem uX.none{m:Model}{s:C_ Int}{ref gJ:Int}{q p k:Nat}(ah:eM m ref q p k)(aL:hb m s)(hw:0<=gJ/\gJ<ways (bI m p k) m.aw)(h:hp m s q (bI m p k)=Option.none):uX m s ref gJ [] 15 :=
 ⟨fun ay=>absurd ⟨aL,ah.told⟩ ay,fun eX gz k' _ pS ay=>(by obtain⟨rfl,rfl,rfl⟩:=ah.one pS;exact absurd hw ay),fun _ _ _ _ _ _ _=>⟨rfl,rfl⟩,fun eX gz k' u _ pS _ hu=>by obtain⟨rfl,rfl,rfl⟩:=ah.one pS;rw[h] at hu;cases hu⟩
theorem uX.some{m:Model}{s u:C_ Int}{ref gJ:Int}{q p k:Nat}(ah:eM m ref q p k)(aL:hb m s)(hw:0<=gJ/\gJ<ways (bI m p k) m.aw)(h:hp m s q (bI m p k)=Option.some u):uX m s ref gJ (if gJ=1 then lost m s u (bI m p k) else u) 0 :=
 ⟨fun ay=>absurd ⟨aL,ah.told⟩ ay,fun eX gz k' _ pS ay=>(by obtain⟨rfl,rfl,rfl⟩:=ah.one pS;exact absurd hw ay),fun eX gz k' _ pS _ hu=>(by obtain⟨rfl,rfl,rfl⟩:=ah.one pS;rw[h] at hu;cases hu),
  fun eX gz k' kb _ pS _ hu=>by obtain⟨rfl,rfl,rfl⟩:=ah.one pS;rw[h] at hu;injection hu with hu;subst hu;exact⟨rfl,rfl⟩⟩
theorem aqY{c:dI}{l:C_ dv}(h:1<ways c l):∃j:Nat,(comm c.bY).2=j/\j<l.length/\(comm c.bY).1=4:=by
 unfold ways at h;split at h
 .rename_i aD;cases ay:nth l (comm c.bY).2 with
  | none=>rw[ay] at h;simp at h
  | some x =>
   obtain⟨af,_,h1⟩:=wu ay;exact⟨(comm c.bY).2.toNat,by omega,h1,aD⟩
 .omega
theorem aeQ{m:Model}{s t:C_ Int}{ref:Int}{q p k:Nat}(bC:eM m ref q p k)(ax:Fits m s)(h:hp m s q (bI m p k)=some t):t.length=dW m :=
 (Vd bC.inst.au rfl bC.cin ax.len h).1.trans ax.len
end o
end