/- Texts joined: ReaP StaR StaS ReaQ ReaA ReaB ReaC ReaS ReaD KeyL ReaK ReaM ReaE ReaF ReaG. -/
import Derived.Test.YtfdohkdifdemeaaGreatDoorQdtj
import Derived.Test.YtfdohkdifdemeaaGreatDoorQdtm
import Derived.Shelf.SlGeneric
import Derived.Shelf.SlIterI.Nil
import Derived.Shelf.SortM.Plain
import Derived.Shelf.SortM.SortNone
import Derived.Test.YtfdohkdifdemeaaGreatDoorChecked
set_option linter.all false
set_option maxRecDepth 4000
set_option maxHeartbeats 16000000
section
namespace o
open Go
theorem vR{α:Type}{l:List α}{n:Int}{x:α}(h:nth l n=some x):0≤n∧l[n.toNat]? = some x∧n.toNat<l.length:=by
 unfold nth at h;by_cases ao:0≤n
 ·rw[if_pos ao] at h;exact⟨ao,h,(List.getElem?_eq_some_iff.1 h).1⟩
 ·rw[if_neg ao] at h;cases h
theorem U4{n:Int}{s:Scope}(h:(gE n s).2=true):0≤n∧n≤s.scalars.length∧(gE n s).1=if n=0 then 0 else 1+n:=by
 unfold gE at h ⊢;by_cases h1:n=0
 ·subst h1;simp
 ·rw[if_neg h1] at h ⊢;by_cases U:n<0∨(s.scalars.length:Int)<n
  ·rw[if_pos U] at h;cases h
  ·rw[if_neg U,if_neg h1];exact⟨by omega,by omega,rfl⟩
theorem Vc{l:List Var}{n:Int}{s:Scope}(h:(fw l n s).2.2=true):∃v,nth l n=some v∧l[n.toNat]? = some v∧0≤n∧fw l n s=((gE v.scalar s).1,(gE v.over s).1,true)∧(gE v.scalar s).2=true∧(gE v.over s).2=true:=by
 unfold fw at h ⊢;cases aH:nth l n with
 | none=>rw[aH] at h;cases h
 | some v =>
  rw[aH] at h;simp only[Bool.and_eq_true] at h;obtain⟨ao,h1,_⟩:=vR aH;exact⟨v,rfl,h1,ao,by simp only[h.1,h.2,Bool.and_self],h.1,h.2⟩
theorem AQ:∀(a b:List Int),a.Pairwise (· < ·)→b.Pairwise (· < ·)→(∀x,x∈a↔x∈b)→a=b
 | [],[],_,_,_=>rfl
 | [],y :: b,_,_,h=>by have:=(h y).2 (List.mem_cons_self ..);cases this
 | x :: a,[],_,_,h=>by have:=(h x).1 (List.mem_cons_self ..);cases this
 | x :: a,y :: b,bu,aB,h=>by
  rw[List.pairwise_cons] at bu aB;have e:x=y:=by
   rcases List.mem_cons.1 ((h x).1 (List.mem_cons_self ..)) with e | e
   ·exact e
   ·rcases List.mem_cons.1 ((h y).2 (List.mem_cons_self ..)) with ba | ba
    ·exact ba.symm
    ·have:=aB.1 x e;have:=bu.1 y ba;omega
  subst e;congr 1;refine AQ a b bu.2 aB.2 fun z=>⟨fun bL=>?_,fun bL=>?_⟩
  ·rcases List.mem_cons.1 ((h z).1 (List.mem_cons_of_mem _ bL)) with e | e
   ·subst e;have:=bu.1 z bL;omega
   ·exact e
  ·rcases List.mem_cons.1 ((h z).2 (List.mem_cons_of_mem _ bL)) with e | e
   ·subst e;have:=aB.1 z bL;omega
   ·exact e
theorem Wp:∀(l:List Int) (a b:Int),l.Pairwise (· < ·)→(∀x∈l,a≤x∧x<b)→(l.length:Int)≤max (b - a) 0
 | [],a,b,_,_=>by simp;omega
 | x :: l,a,b,h,aB=>by
  rw[List.pairwise_cons] at h;have h1:=aB x (List.mem_cons_self ..)
  have:=Wp l (x+1) b h.2 fun y bS=>⟨by have:=h.1 y bS;omega,(aB y (List.mem_cons_of_mem _ bS)).2⟩
  simp only[List.length_cons];omega
def fO(a n:Nat):List Int:=(List.range n).map fun(k:Nat)=>((a+k:Nat):Int)
theorem HU(a n:Nat):(fO a n).length=n:=by simp[fO]
theorem Ww(a:Nat):fO a 0=[]:=rfl
theorem lJ(a:Nat):fO a 1=[(a:Int)]:=by simp[fO]
theorem M1(a n:Nat):fO a (n+1)=fO a n++[((a+n:Nat):Int)]:=by simp[fO,List.range_succ]
theorem pD{a n:Nat}{x:Int}:x∈fO a n↔(a:Int)≤x∧x<((a+n:Nat):Int):=by
 constructor
 ·intro h;obtain⟨k,hk,rfl⟩:=List.mem_map.1 h
  have:=List.mem_range.1 hk
  omega
 ·intro h;refine List.mem_map.2 ⟨(x - a).toNat,List.mem_range.2 (by omega),by omega⟩
def pO(l:List Int)(last next:Int):Prop:=(next = -1∧∀x∈l,x≤last)∨(next∈l∧last<next∧0≤next∧∀x∈l,last<x→next≤x)
theorem pO.nil(last:Int):pO [] last (-1):=.inl ⟨rfl,fun x h=>by cases h⟩
theorem pO.skip{l:List Int}{last next x:Int}(h:pO l last next)(av:¬(last<x∧(next<0∨x<next))):pO (l++[x]) last next:=by
 rcases h with ⟨rfl,h⟩ | ⟨h1,U,ah,aJ⟩
 ·refine .inl ⟨rfl,fun y bS=>?_⟩;rcases List.mem_append.1 bS with bS | bS
  ·exact h y bS
  ·simp only[List.mem_singleton] at bS;subst bS;omega
 ·refine .inr ⟨List.mem_append_left _ h1,U,ah,fun y bS a1=>?_⟩;rcases List.mem_append.1 bS with bS | bS
  ·exact aJ y bS a1
  ·simp only[List.mem_singleton] at bS;subst bS;omega
theorem pO.take{l:List Int}{last next x:Int}(h:pO l last next)(ao:0≤x)(av:last<x∧(next<0∨x<next)):pO (l++[x]) last x:=by
 refine .inr ⟨by simp,av.1,ao,fun y bS a1=>?_⟩;rcases List.mem_append.1 bS with bS | bS
 ·rcases h with ⟨rfl,h⟩ | ⟨h1,U,ah,aJ⟩
  ·have:=h y bS;omega
  ·have:=aJ y bS a1;omega
 ·simp only[List.mem_singleton] at bS;omega
structure rN(l:List Int)(last:Int)(out:List Int):Prop where
 jx:out.Pairwise (· < ·)
 mem:∀x,x∈out↔x∈l∧x≤last
 last : -1≤last
theorem rN.start{l:List Int}(h:∀x∈l,0≤x):rN l (-1) []:=⟨List.Pairwise.nil,fun x=>⟨fun h=>(by cases h),fun⟨h1,U⟩=>by have:=h x h1;omega⟩,Int.le_refl _⟩
theorem rN.step{l out:List Int}{last next:Int}(h:rN l last out)(hm:pO l last next)(ao:0≤next):rN l next (out++[next])∧last<next∧next∈l:=by
 rcases hm with ⟨rfl,_⟩ | ⟨h1,U,ah,aJ⟩
 ·omega
 ·refine⟨⟨?_,fun x=>?_,by omega⟩,U,h1⟩
  ·rw[List.pairwise_append];refine⟨h.jx,by simp,fun x av y bS=>?_⟩
   have:=((h.mem x).1 av).2
   simp only[List.mem_singleton] at bS;omega
  ·rw[List.mem_append,h.mem x,List.mem_singleton];constructor
   ·rintro(⟨a,b⟩ | rfl)
    ·exact⟨a,by omega⟩
    ·exact⟨h1,Int.le_refl _⟩
   ·rintro⟨a,b⟩;by_cases av:x≤last
    ·exact .inl ⟨a,av⟩
    ·exact .inr (by have:=aJ x a (by omega);omega)
structure na(l r:List Int):Prop where
 jx:r.Pairwise (· < ·)
 mem:∀x,x∈r↔x∈l
theorem rN.done{l out:List Int}{last next:Int}(h:rN l last out)(hm:pO l last next)(ao:next<0):na l out:=by
 rcases hm with ⟨rfl,h1⟩ | ⟨h1,U,ah,aJ⟩
 ·exact⟨h.jx,fun x=>by rw[h.mem x];exact⟨fun a=>a.1,fun a=>⟨a,h1 x a⟩⟩⟩
 ·omega
theorem na.eq{l sy r fI:List Int}(h:na l r)(k:na sy fI)(e:∀x,x∈l↔x∈sy):r=fI :=
 AQ r fI h.jx k.jx fun x=>by rw[h.mem,k.mem,e]
def lb(m:Model)(v:Nat):Nat:=match m.vars[v]? with | some x=>(cells x m.scalars).toNat | none=>0
def Gf(m:Model)(q:Nat):Nat:=match (insts m)[q]? with | some x=>x.elem.toNat | none=>0
def rV(m:Model)(c:Nat):Nat:=match m.a7[c]? with | some x=>x.cap.toNat | none=>0
def k8(m:Model)(q v:Nat)(own:Bool):List Int:=if own then fO (iD m v+Gf m q - 1) 1 else fO (iD m v) (lb m v)
def lQ(m:Model)(p:Int)(n:Nat):List Int:=(List.range n).flatMap fun j=>if (insts m)[j]?.map (·.proc)=some p then fO (fl m j) 1 else []
def dI(m:Model)(q:Nat)(own:Bool)(x:Node):List Int :=
 if x.op=2 then fO (iD m x.n.toNat) 1
 else if x.op=3 then k8 m q x.n.toNat own
 else if x.op=4 then fO (fl m q+1+x.n.toNat) 1
 else if x.op=6 then fO (h3 m x.n.toNat) 1
 else if x.op=7 then lQ m (x.n.tdiv 16) (insts m).length
 else []
def oS(e:List Node):Nat→Bool
 | 0=>false
 | k+1=>match e[k]? with | some x=>decide (x.op=5) | none=>false
def iL(m:Model)(q:Nat)(e:List Node)(n:Nat):List Int:=(List.range n).flatMap fun k=>match e[k]? with | some x=>dI m q (oS e k) x | none=>[]
def lz(m:Model)(c:Nat):List Int:=fO (h3 m c) (1+rV m c)
def pH(a:Act):Bool:=match a.index with | [x]=>decide (x.op=5) | _=>false
def qK(m:Model)(q:Nat)(a:Act):List Int :=
 if a.kind=5 then lz m a.to.toNat
 else (if a.kind=2 then iL m q a.index a.index.length else if a.kind=4 then fO (h3 m a.to.toNat) 1 else [])++iL m q a.value a.value.length
def jG(m:Model)(q:Nat)(a:Act):List Int :=
 if a.kind=1 then fO (iD m a.to.toNat) 1
 else if a.kind=2 then k8 m q a.to.toNat (pH a)
 else if a.kind=3 then fO (fl m q+1+a.to.toNat) 1
 else if a.kind=4 then lz m a.to.toNat
 else if a.kind=5 then lz m a.to.toNat++fO (fl m q+1+a.loc.toNat) 1
 else []
def nd(m:Model)(q:Nat)(a:Act):List Int :=
 (if a.kind=5 then [] else iL m q a.value a.value.length) ++
 (if a.kind=2 then iL m q a.index a.index.length else if a.kind=4 then fO (h3 m a.to.toNat) 1 else if a.kind=5 then lz m a.to.toNat else [])
theorem Yp(m:Model)(q:Nat)(a:Act)(x:Int):x∈qK m q a↔x∈nd m q a:=by
 unfold qK nd;by_cases h:a.kind=5
 ·rw[if_pos h,if_pos h,if_neg (by omega),if_neg (by omega),if_pos h,List.nil_append]
 ·rw[if_neg h,if_neg h,if_neg h,List.mem_append,List.mem_append];exact Or.comm
def r8(m:Model)(q:Nat)(c:dL):List Int:=fO (fl m q) 1++iL m q c.guard c.guard.length
def n4(m:Model)(q:Nat)(c:dL)(n:Nat):List Int:=r8 m q c++(c.cn.take n).flatMap (qK m q)
def oU(m:Model)(q:Nat)(c:dL)(n:Nat):List Int:=r8 m q c++(c.cn.take n).flatMap (nd m q)
def jA(m:Model)(q:Nat)(c:dL)(n:Nat):List Int:=fO (fl m q) 1++(c.cn.take n).flatMap (jG m q)
theorem ahJ(m:Model)(q:Nat)(c:dL)(n:Nat)(x:Int):x∈n4 m q c n↔x∈oU m q c n:=by
 unfold n4 oU;simp only[List.mem_append,List.mem_flatMap,Yp]
theorem Wg{m:Model}{q:Nat}{c:dL}{n:Nat}(h:n<c.cn.length):n4 m q c (n+1)=n4 m q c n++qK m q c.cn[n]:=by
 unfold n4;rw[List.take_succ_eq_append_getElem h,List.flatMap_append,List.flatMap_singleton,List.append_assoc]
theorem Wf{m:Model}{q:Nat}{c:dL}{n:Nat}(h:n<c.cn.length):oU m q c (n+1)=oU m q c n++nd m q c.cn[n]:=by
 unfold oU;rw[List.take_succ_eq_append_getElem h,List.flatMap_append,List.flatMap_singleton,List.append_assoc]
theorem NH{m:Model}{q:Nat}{c:dL}{n:Nat}(h:n<c.cn.length):jA m q c (n+1)=jA m q c n++jG m q c.cn[n]:=by
 unfold jA;rw[List.take_succ_eq_append_getElem h,List.flatMap_append,List.flatMap_singleton,List.append_assoc]
theorem JM{m:Model}{q:Nat}{e:List Node}{n:Nat}(h:n<e.length):iL m q e (n+1)=iL m q e n++dI m q (oS e n) e[n]:=by
 unfold iL;rw[List.range_succ,List.flatMap_append,List.flatMap_singleton,List.getElem?_eq_getElem h]
theorem Mw{e:List Node}{n:Nat}(h:n<e.length):oS e (n+1)=decide (e[n].op=5):=by
 simp only[oS,List.getElem?_eq_getElem h]
theorem wR{m:Model}{p:Int}{n:Nat}(h:n<(insts m).length):lQ m p (n+1)=lQ m p n++if (insts m)[n].proc=p then fO (fl m n) 1 else []:=by
 unfold lQ;rw[List.range_succ,List.flatMap_append,List.flatMap_singleton,List.getElem?_eq_getElem h];simp only[Option.map_some,Option.some.injEq]
structure yK(s:Scope)(x:Node):Prop where
 var:x.op=2→0≤x.n∧∃v,s.vars[x.n.toNat]? = some v∧v.over=0
 item:x.op=3→0≤x.n∧x.n.toNat<s.vars.length
 loc:x.op=4→0≤x.n∧x.n.toNat<s.locals.length
 self:x.op=5→1≤s.self∧s.self≤s.scalars.length
 len:x.op=6→0≤x.n∧x.n.toNat<s.a7.length
 at_:x.op=7→0≤x.n∧(x.n.tdiv 16).toNat<s.procs.length
structure qz(s:Scope)(e:List Node):Prop where
 node:∀k (h:k<e.length),yK s e[k]∧(e[k].op=3→0<k)
 len:e.length≤24
theorem afC{s:Scope}{x:Node}{top:Int}(h:(ie x s top).2=0):yK s x:=by
 unfold ie at h;by_cases h1:x.op=1
 ·exact⟨by omega,by omega,by omega,by omega,by omega,by omega⟩
 rw[if_neg h1] at h;by_cases U:x.op=2∨x.op=3∨x.op=4
 ·rw[if_pos U] at h;simp only at h;by_cases aR:(fw (if x.op=4 then s.locals else s.vars) x.n s).2.2=false
  ·rw[if_pos aR] at h;cases h
  rw[if_neg aR] at h;obtain⟨v,dc,cY,gW,ic,DI,Ag⟩:=Vc (by simpa using aR);obtain⟨cj,cq,cr⟩:=U4 Ag;rw[ic] at h;simp only at h;have cB:=(List.getElem?_eq_some_iff.1 cY).1;by_cases ah:(x.op=3∧((gE v.over s).1=0∨top≠(gE v.over s).1))∨(x.op≠3∧(gE v.over s).1≠0)
  ·rw[if_pos ah] at h;cases h
  ·refine⟨fun e=>⟨gW,v,?_,?_⟩,fun e=>⟨gW,?_⟩,fun e=>⟨gW,?_⟩,by omega,by omega,by omega⟩
   ·rw[if_neg (by omega)] at cY;exact cY
   ·have:(gE v.over s).1=0:=Classical.byContradiction fun aH=>ah (.inr ⟨by omega,aH⟩)
    rw[cr] at this;split at this
    ·assumption
    ·omega
   ·rw[if_neg (by omega)] at cB;exact cB
   ·rw[if_pos e] at cB;exact cB
 ·rw[if_neg U] at h;unfold la at h;refine⟨by omega,by omega,by omega,fun e=>?_,fun e=>?_,fun e=>?_⟩
  ·rw[if_pos e] at h;by_cases q:1≤s.self∧s.self≤s.scalars.length
   ·exact q
   ·rw[if_neg q] at h;cases h
  ·rw[if_neg (by omega),if_pos e] at h;unfold ju at h;cases aH:nth s.a7 x.n with
   | none=>rw[aH] at h;cases h
   | some c=>exact⟨(vR aH).1,(vR aH).2.2⟩
  ·rw[if_neg (by omega),if_neg (by omega),if_pos e] at h;unfold Ah at h;by_cases q:0≤x.n
   ·rw[if_pos q] at h;cases aH:nth s.procs (x.n.tdiv 16) with
    | none=>rw[aH] at h;cases h
    | some c=>exact⟨q,(vR aH).2.2⟩
   ·rw[if_neg q] at h;cases h
theorem U2{e:List Node}{s:Scope}(h:(kind e s).2=0):qz s e:=by
 unfold kind nt at h;by_cases h1:e.length > 24
 ·rw[if_pos h1] at h;cases h
 rw[if_neg h1] at h;by_cases U:e.length=0
 ·exact⟨fun k hk=>by omega,by omega⟩
 rw[if_neg U] at h;by_cases ah:(fP (eY s) e []).1≠0
 ·rw[if_pos ah] at h;exact absurd h ah
 have ah:(fP (eY s) e []).1=0:=by simpa using ah
 refine⟨fun k hk=>?_,by omega⟩;have qb:∀j,(fP (eY s) (e.take j) []).1=0:=fun j=>Classical.byContradiction fun aH=>by
  have:=M8 (f:=eY s) (e:=e) (k:=j) rfl aH
  rw[this] at ah;exact aH ah
 have kH:fP (eY s) (e.take k) []=(0,(fP (eY s) (e.take k) []).2):=Prod.ext (qb k) rfl;have aJ:=EC hk kH;have bk:=qb (k+1);rw[aJ] at bk;unfold stepG at bk;by_cases dQ:fH e[k].op<0
 ·rw[if_pos dQ] at bk;cases bk
 rw[if_neg dQ] at bk;by_cases ef:((fP (eY s) (e.take k) []).2.length:Int)<fH e[k].op
 ·rw[if_pos ef] at bk;cases bk
 rw[if_neg ef] at bk;by_cases ev:(eY s e[k] (fP (eY s) (e.take k) []).2).2≠0
 ·rw[if_pos ev] at bk;exact absurd bk ev
 have ev:(eY s e[k] (fP (eY s) (e.take k) []).2).2=0:=by simpa using ev
 constructor
 ·by_cases aZ:vJ e[k].op=false
  ·unfold eY at ev;rw[Mu aZ] at ev;exact afC ev
  ·have:9≤e[k].op:=by
    simp only[vJ,decide_eq_false_iff_not] at aZ;omega
   exact⟨by omega,by omega,by omega,by omega,by omega,by omega⟩
 ·intro bz;apply Classical.byContradiction;intro aH;have C7:k=0:=by omega
  subst C7;rw[bz] at ef;simp[fP,fH] at ef
theorem FM{e:List Node}{k:Int}{s:Scope}(h:asked e k s=0):qz s e:=by
 unfold asked at h;by_cases h1:(kind e s).2≠0
 ·rw[if_pos h1] at h;exact absurd h h1
 ·exact U2 (by simpa using h1)
structure uO(s:Scope)(a:Act):Prop where
 set:a.kind=1→0≤a.to∧∃v,s.vars[a.to.toNat]? = some v∧v.over=0
 item:a.kind=2→0≤a.to∧a.to.toNat<s.vars.length∧qz s a.index
 loc:a.kind=3→0≤a.to∧a.to.toNat<s.locals.length
 chan:a.kind=4∨a.kind=5→0≤a.to∧a.to.toNat<s.a7.length
 recv:a.kind=5→0≤a.loc∧a.loc.toNat<s.locals.length
 val:a.kind≠5→qz s a.value
 kind:1≤a.kind∧a.kind≤5
theorem Jx{l:List Var}{n:Int}{s:Scope}{q:Var×Int}(h:declared l n s=some q):0≤n∧l[n.toNat]? = some q.1∧n.toNat<l.length:=by
 unfold declared at h;cases aH:nth l n with
 | none=>rw[aH] at h;cases h
 | some v =>
  rw[aH] at h;simp only at h;split at h
  ·injection h with h
   subst h;exact vR aH
  ·cases h
theorem IX{a:Act}{s:Scope}(h:jF a s=0):uO s a:=by
 unfold jF at h;by_cases h1:a.kind=1∨a.kind=2∨a.kind=3
 ·rw[if_pos h1] at h;cases bx:declared (if a.kind=3 then s.locals else s.vars) a.to s with
  | none=>rw[bx] at h;cases h
  | some q =>
   rw[bx] at h;obtain⟨v,k⟩:=q;obtain⟨d1,d2,d3⟩:=Jx bx;simp only at h;by_cases U:(v.over≠0)≠(a.kind=2)
   ·rw[if_pos U] at h;cases h
   rw[if_neg U] at h;have U:(v.over≠0)=(a.kind=2):=Classical.byContradiction fun q=>U q;by_cases ah:a.kind=2∧asked a.index (1+v.over) s≠0
   ·rw[if_pos ah] at h;exact absurd h ah.2
   rw[if_neg ah] at h;refine⟨fun e=>⟨d1,v,?_,?_⟩,fun e=>⟨d1,?_,?_⟩,fun e=>⟨d1,?_⟩,by omega,by omega,fun _=>FM h,by omega⟩
   ·rw[if_neg (by omega)] at d2;exact d2
   ·apply Classical.byContradiction;intro aH
    have:a.kind=2:=U ▸ aH
    omega
   ·rw[if_neg (by omega)] at d3;exact d3
   ·exact FM (Classical.byContradiction fun aH=>ah ⟨e,aH⟩)
   ·rw[if_pos e] at d3;exact d3
 ·rw[if_neg h1] at h;by_cases U:a.kind=4∨a.kind=5
  ·rw[if_pos U] at h;cases aw:channel a.to s with
   | none=>rw[aw] at h;cases h
   | some k =>
    rw[aw] at h;simp only at h;have ac8:0≤a.to∧a.to.toNat<s.a7.length:=by
     unfold channel at aw;cases aH:nth s.a7 a.to with
     | none=>rw[aH] at aw;cases aw
     | some c=>exact⟨(vR aH).1,(vR aH).2.2⟩
    refine⟨by omega,by omega,by omega,fun _=>ac8,fun e=>?_,fun e=>?_,by omega⟩
    ·rw[if_pos e] at h;unfold Ez at h;cases bx:declared s.locals a.loc s with
     | none=>rw[bx] at h;cases h
     | some q =>
      obtain⟨d1,d2,d3⟩:=Jx bx;exact⟨d1,d3⟩
    ·rw[if_neg e] at h;exact FM h
  ·rw[if_neg U] at h;cases h
structure wq(s:Scope)(c:dL):Prop where
 guard:qz s c.guard
 act:∀k (h:k<c.cn.length),uO s c.cn[k]
 jq:c.cn.length≤6
theorem QS{s:Scope}:∀(l:List Act) (i:Nat) (t:Bool),(jZ s l i t).2=0→∀k (h:k<l.length),uO s l[k]
 | [],_,_,_,k,h=>by simp at h
 | a :: r,i,t,h,k,hk=>by
  unfold jZ at h;by_cases h1:(hs a&&t)=true
  ·rw[if_pos h1] at h;cases h
  rw[if_neg h1] at h;by_cases U:jF a s≠0
  ·rw[if_pos U] at h;exact absurd h U
  rw[if_neg U] at h;cases k with
  | zero=>exact IX (by simpa using U)
  | succ k=>exact QS r _ _ h k (by simpa using hk)
theorem ZZ{c:dL}{cW:Int}{s:Scope}(h:(iJ c cW s).2=0):wq s c:=by
 unfold iJ at h;by_cases h1:head c cW≠0
 ·rw[if_pos h1] at h;exact absurd h h1
 rw[if_neg h1] at h;by_cases U:c.guard.length > 0∧asked c.guard 1 s≠0
 ·rw[if_pos U] at h;exact absurd h U.2
 rw[if_neg U] at h;refine⟨?_,QS _ _ _ h,?_⟩
 ·by_cases aV:c.guard.length > 0
  ·exact FM (Classical.byContradiction fun aH=>U ⟨aV,aH⟩)
  ·exact⟨fun k hk=>by omega,by omega⟩
 ·apply Classical.byContradiction;intro aH;apply h1;unfold head;by_cases dQ:isName c.name=false
  ·rw[if_pos dQ];decide
  rw[if_neg dQ];by_cases ef:c.from_<0∨cW≤c.from_∨c.to<0∨cW≤c.to
  ·rw[if_pos ef];decide
  rw[if_neg ef,if_pos (by omega)];decide
theorem Rj{m:Model}(h:(check m).cM=0):(lg m).cM=0:=by
 unfold check at h;by_cases bx:(data m).cM≠0
 ·rw[if_pos bx] at h;exact absurd h bx
 rw[if_neg bx] at h;apply Classical.byContradiction;intro aW;rw[if_pos aW] at h;exact aW h
theorem Z1{m:Model}(h:(check m).cM=0){p k:Nat}(aW:p<m.procs.length)(hk:k<m.procs[p].cE.length):wq (inner m.procs[p] (ez m)) m.procs[p].cE[k]:=by
 obtain⟨gb,_,_⟩:=MD (Rj h);obtain⟨_,dc,_,_⟩:=Cj aW (gb p aW);obtain⟨_,_,ic⟩:=VZ dc;have e:gz m (p:Int)=inner m.procs[p] (ez m):=by
  unfold gz;rw[lf (by omega) (by omega)];rfl
 have bk:=(Jn _ _ ic k hk).1;rw[e] at bk;exact ZZ bk
theorem xd{L:List (List Int)}{B:List (List dJ)}(h:L.map List.length=B.map List.length):L.flatten.length=total B:=by
 rw[List.length_flatten,h];rfl
def pre(yV:List Int)(d:Nat):List Int:=yV.take d++List.replicate (yV.length - d) 0
theorem AY{yV:List Int}{d:Nat}{x:Int}(h:yV[d]? = some x):yV.take (d+1)=yV.take d++[x]:=by
 obtain⟨bx,rfl⟩:=List.getElem?_eq_some_iff.1 h;exact List.take_succ_eq_append_getElem bx
theorem UF{m:Model}:∀(l:List dt) (i:Nat),l=m.procs.drop i→∀x∈iP m l i,∃(p:Nat) (h:p<m.procs.length),x.proc=p∧(m.procs[p].over≠0→1≤x.elem)
 | [],_,_,x,av=>by simp[iP] at av
 | p :: r,i,h,x,av=>by
  have af:i<m.procs.length:=by
   apply Classical.byContradiction;intro aH;rw[List.drop_eq_nil_of_le (by omega)] at h;cases h
  rw[List.drop_eq_getElem_cons af] at h;injection h with h1 U
  simp only[iP,List.mem_append] at av;rcases av with (av | av) | av
  ·unfold ih at av;split at av
   ·rename_i ao;rw[List.mem_singleton] at av;subst av;exact⟨i,af,rfl,fun aH=>absurd (h1 ▸ ao) aH⟩
   ·cases av
  ·unfold iS at av;obtain⟨k,_,rfl⟩:=List.mem_map.1 av;exact⟨i,af,rfl,fun _=>by simp only;omega⟩
  ·exact UF r (i+1) U x av
structure fW(m:Model)(q p:Nat):Prop where
 aR:q<(insts m).length
 aW:p<m.procs.length
 eq:(insts m)[q].proc=p
 elem:m.procs[p].over≠0→1≤(insts m)[q].elem
 fb:0≤(insts m)[q].elem∧(insts m)[q].elem≤4
theorem DB{m:Model}{q:Nat}(h:q<(insts m).length):∃p,fW m q p:=by
 obtain⟨p,aW,e,h1⟩:=UF m.procs 0 (by simp) _ (List.getElem_mem h);exact⟨p,h,aW,e,h1,(tY _ (List.getElem_mem h)).elem⟩
theorem fW.nth{m:Model}{q p:Nat}(h:fW m q p):o.nth m.procs ((insts m)[q]'(h.aR)).proc=some (m.procs[p]'(h.aW)):=by
 rw[h.eq,lf (by omega) (by have:=h.aW;omega)];rfl
theorem fW.YV{m:Model}{q p:Nat}(h:fW m q p):nZ m ((insts m)[q]'(h.aR))=ye m.scalars (m.procs[p]'(h.aW)):=by
 unfold nZ;rw[h.nth]
theorem fW.room{m:Model}{q p:Nat}(h:fW m q p):fl m q+(1+(m.procs[p]'(h.aW)).vars.length)≤fx m:=by
 have:=aeT h.aR
 rw[h.YV,HL] at this;exact this
theorem Gg{m:Model}{q:Nat}(h:q<(insts m).length):Gf m q=((insts m)[q]'h).elem.toNat:=by
 unfold Gf;rw[List.getElem?_eq_getElem h]
theorem uf{m:Model}{v:Nat}(h:v<m.vars.length):lb m v=(cells m.vars[v] m.scalars).toNat:=by
 unfold lb;rw[List.getElem?_eq_getElem h]
theorem zc{m:Model}{c:Nat}(h:c<m.a7.length):rV m c=m.a7[c].cap.toNat:=by
 unfold rV;rw[List.getElem?_eq_getElem h]
theorem EZ{m:Model}(bq:ff m){v:Nat}(h:v<m.vars.length):iD m v+lb m v≤64:=by
 have:=EY h
 rw[uf h]
 have:=tc m
 have:fx m≤64:=sA bq
 omega
theorem s9{m:Model}(bq:ff m){c:Nat}(h:c<m.a7.length):h3 m c+(1+rV m c)≤64:=by
 have:=Ja h
 rw[zc h]
 have:=tc m
 have:fx m≤64:=sA bq
 omega
theorem DA{m:Model}(bq:ff m){q:Nat}(h:q<(insts m).length):fl m q+1≤64:=by
 obtain⟨p,aW⟩:=DB h
 have:=aW.room
 have:fx m≤64:=sA bq
 omega
theorem fW.yg{m:Model}(bq:ff m){q p:Nat}(h:fW m q p):fl m q+(1+(m.procs[p]'(h.aW)).vars.length)≤64:=by
 have:=h.room
 have:fx m≤64:=sA bq
 omega
structure eI(n:Nat)(l:List Int):Prop where
 bA:∀x∈l,0≤x∧x<80
 len:l.length≤n
theorem eI.row{a n k:Nat}(h:a+n≤80)(aH:n≤k):eI k (fO a n):=⟨fun x av=>by have:=pD.1 av;omega,by rw[HU];exact aH⟩
theorem eI.nil(n:Nat):eI n []:=⟨fun x av=>(by cases av),Nat.zero_le _⟩
theorem eI.app{a b n:Nat}{l r:List Int}(h:eI a l)(k:eI b r)(aH:a+b≤n):eI n (l++r):=⟨fun x av=>by
 rcases List.mem_append.1 av with av | av
 ·exact h.bA x av
 ·exact k.bA x av,by rw[List.length_append];have:=h.len;have:=k.len;omega⟩
theorem eI.mono{a n:Nat}{l:List Int}(h:eI a l)(aH:a≤n):eI n l:=⟨h.bA,Nat.le_trans h.len aH⟩
theorem LY{m:Model}(bq:ff m){q v:Nat}(aR:q<(insts m).length)(aO:v<m.vars.length)(own:Bool):eI 64 (k8 m q v own):=by
 have:=EZ bq aO
 have aJ:=(tY _ (List.getElem_mem aR)).elem
 have:=Gg aR
 unfold k8;cases own
 ·exact eI.row (by omega) (by omega)
 ·exact eI.row (by omega) (by omega)
theorem FN{m:Model}(bq:ff m)(p:Int):∀n,n≤(insts m).length→eI n (lQ m p n)
 | 0,_=>eI.nil _
 | n+1,h=>by
  rw[wR (by omega)]
  have:=DA bq (q:=n) (by omega)
  refine eI.app (FN bq p n (by omega)) (b:=1) ?_ (Nat.le_refl _);split
  ·exact eI.row (by omega) (Nat.le_refl _)
  ·exact eI.nil _
theorem DC{m:Model}(bq:ff m):(insts m).length≤30:=by have:=xU m;have:=bq.procs;omega
theorem VG{m:Model}(bq:ff m){q p:Nat}(h:fW m q p){x:Node}(av:yK (inner (m.procs[p]'(h.aW)) (ez m)) x)(own:Bool):eI 64 (dI m q own x):=by
 unfold dI;by_cases U:x.op=2
 ·rw[if_pos U];obtain⟨_,v,aO,_⟩:=av.var U;have dV:x.n.toNat<m.vars.length:=(List.getElem?_eq_some_iff.1 aO).1
  have:=EY dV
  have:=tc m
  have:fx m≤64:=sA bq
  exact eI.row (by omega) (by omega)
 rw[if_neg U];by_cases ah:x.op=3
 ·rw[if_pos ah];exact LY bq h.aR (av.item ah).2 own
 rw[if_neg ah];by_cases aJ:x.op=4
 ·rw[if_pos aJ];have bk:x.n.toNat<(m.procs[p]'(h.aW)).vars.length:=(av.loc aJ).2
  have:=h.yg bq
  exact eI.row (by omega) (by omega)
 rw[if_neg aJ];by_cases bY:x.op=6
 ·rw[if_pos bY]
  have:=s9 bq (av.len bY).2
  exact eI.row (by omega) (by omega)
 rw[if_neg bY];by_cases cO:x.op=7
 ·rw[if_pos cO];exact(FN bq _ _ (Nat.le_refl _)).mono (by have:=DC bq;omega)
 ·rw[if_neg cO];exact eI.nil _
theorem Sf{m:Model}(bq:ff m){q p:Nat}(h:fW m q p){e:List Node}(he:qz (inner (m.procs[p]'(h.aW)) (ez m)) e):∀n,n≤e.length→eI (64*n) (iL m q e n)
 | 0,_=>eI.nil _
 | n+1,aH=>by
  rw[JM (by omega)];exact eI.app (Sf bq h he n (by omega)) (VG bq h (he.node n (by omega)).1 _) (by omega)
theorem tq{m:Model}(bq:ff m){q p:Nat}(h:fW m q p){e:List Node}(he:qz (inner (m.procs[p]'(h.aW)) (ez m)) e){n:Nat}(aH:n≤e.length):eI 1536 (iL m q e n) :=
 (Sf bq h he n aH).mono (by have:=he.len;omega)
theorem zg{m:Model}(bq:ff m){c:Nat}(h:c<m.a7.length):eI 64 (lz m c):=by
 have:=s9 bq h
 exact eI.row (by omega) (by omega)
theorem Yq{m:Model}(bq:ff m){q p:Nat}(h:fW m q p){a:Act}(bu:uO (inner (m.procs[p]'(h.aW)) (ez m)) a):eI 3072 (qK m q a):=by
 unfold qK;by_cases bk:a.kind=5
 ·rw[if_pos bk];exact(zg bq (bu.chan (.inr bk)).2).mono (by omega)
 ·rw[if_neg bk];refine eI.app (a:=1536) ?_ (tq bq h (bu.val bk) (Nat.le_refl _)) (by omega);by_cases U:a.kind=2
  ·rw[if_pos U];exact tq bq h (bu.item U).2.2 (Nat.le_refl _)
  rw[if_neg U];by_cases aJ:a.kind=4
  ·rw[if_pos aJ]
   have:=s9 bq (bu.chan (.inl aJ)).2
   exact eI.row (by omega) (by omega)
  ·rw[if_neg aJ];exact eI.nil _
theorem Yr{m:Model}(bq:ff m){q p:Nat}(h:fW m q p){a:Act}(bu:uO (inner (m.procs[p]'(h.aW)) (ez m)) a):eI 80 (jG m q a):=by
 have zx:=h.yg bq;unfold jG;by_cases h1:a.kind=1
 ·rw[if_pos h1];obtain⟨_,v,aO,_⟩:=bu.set h1;have dV:a.to.toNat<m.vars.length:=(List.getElem?_eq_some_iff.1 aO).1
  have:=EZ bq dV
  exact eI.row (by omega) (by omega)
 rw[if_neg h1];by_cases U:a.kind=2
 ·rw[if_pos U];exact(LY bq h.aR (bu.item U).2.1 _).mono (by omega)
 rw[if_neg U];by_cases ah:a.kind=3
 ·rw[if_pos ah];have bk:a.to.toNat<(m.procs[p]'(h.aW)).vars.length:=(bu.loc ah).2;exact eI.row (by omega) (by omega)
 rw[if_neg ah];by_cases aJ:a.kind=4
 ·rw[if_pos aJ];exact(zg bq (bu.chan (.inl aJ)).2).mono (by omega)
 rw[if_neg aJ];by_cases bk:a.kind=5
 ·rw[if_pos bk];have bY:a.loc.toNat<(m.procs[p]'(h.aW)).vars.length:=(bu.recv bk).2;exact eI.app (zg bq (bu.chan (.inr bk)).2) (eI.row (k:=1) (by omega) (by omega)) (by omega)
 ·rw[if_neg bk];exact eI.nil _
theorem JW{m:Model}(bq:ff m){q p:Nat}(h:fW m q p){c:dL}(aw:wq (inner (m.procs[p]'(h.aW)) (ez m)) c):eI 1537 (r8 m q c):=by
 have:=DA bq h.aR
 exact eI.app (eI.row (k:=1) (by omega) (by omega)) (tq bq h aw.guard (Nat.le_refl _)) (by omega)
theorem Wh{m:Model}(bq:ff m){q p:Nat}(h:fW m q p){c:dL}(aw:wq (inner (m.procs[p]'(h.aW)) (ez m)) c):∀n,n≤c.cn.length→eI (1537+3072*n) (n4 m q c n)
 | 0,_=>by
  unfold n4;simpa using JW bq h aw
 | n+1,aH=>by
  rw[Wg (by omega)];exact eI.app (Wh bq h aw n (by omega)) (Yq bq h (aw.act n (by omega))) (by omega)
theorem E3{m:Model}(bq:ff m){q p:Nat}(h:fW m q p){c:dL}(aw:wq (inner (m.procs[p]'(h.aW)) (ez m)) c):∀n,n≤c.cn.length→eI (1+80*n) (jA m q c n)
 | 0,_=>by
  have:=DA bq h.aR
  unfold jA;simpa using eI.row (a:=fl m q) (n:=1) (k:=1) (by omega) (by omega)
 | n+1,aH=>by
  rw[NH (by omega)];exact eI.app (E3 bq h aw n (by omega)) (Yr bq h (aw.act n (by omega))) (by omega)
theorem WT{a:Act}(h:a.index.length=1):pH a=decide ((a.index[0]'(by omega)).op=5):=by
 obtain⟨x,av⟩:=List.length_eq_one_iff.1 h;unfold pH;simp[av]
theorem WS{a:Act}(h:¬a.index.length=1):pH a=false:=by
 unfold pH;split
 ·rename_i x av;rw[av] at h;exact absurd rfl h
 ·rfl
theorem V5(L:List Int)(a n:Nat):L++fO a (n+1)=L++fO a n++[((a+n:Nat):Int)]:=by rw[M1,List.append_assoc]
end o
namespace Go.Proofs.R
open Go Go.RowKit bt
structure nG(w:World)(b:Nat)(m:o.Model)(q:Nat):Prop where
 ex:∃cs ys cw,w.heap[b]? = some (.cells (cs++ys++[cw,.int .i64 q]).toArray T.I3)∧o.dM w cs m∧o.kf w ys (o.layout m)∧jX w cw (o.insts m)
theorem nG.ext{w w':World}{b q:Nat}{m:o.Model}(he:Ext w w')(h:nG w b m q):nG w' b m q :=
 let ⟨xs,cs,cw,ao,h1,U,ah⟩:=h.ex; ⟨xs,cs,cw,he.obj ao,h1.ext he,U.ext he,ah.ext Flat.ext he⟩
theorem nG.form{w:World}{b q:Nat}{m:o.Model}(h:nG w b m q):∃cz bV cj c1 cq c2 cr bJ cC bW jT d0 gb d1 hQ d2 iT d3 kL d4 dd ci,
  w.heap[b]? = some (.cells #[.slice jT m.scalars.length d0,.slice gb m.vars.length d1,.slice hQ m.a7.length d2,.slice iT m.procs.length d3,.slice kL m.props.length d4,
   .slice cz (o.layout m).vars.length bV,.slice cj (o.layout m).a7.length c1,.slice cq (o.layout m).insts.length c2,.int .i64 (o.layout m).cells,.slice cr (o.layout m).bA.length bJ,.slice cC (o.layout m).af.length bW,.slice dd (o.insts m).length ci,.int .i64 q] T.I3) ∧
  bG 1 (Flat c4) w (.slice cz (o.layout m).vars.length bV) (o.layout m).vars∧bG 1 (Flat c4) w (.slice cj (o.layout m).a7.length c1) (o.layout m).a7∧bG 1 (Flat c4) w (.slice cq (o.layout m).insts.length c2) (o.layout m).insts ∧
  o.hG w (.slice jT m.scalars.length d0) m.scalars∧o.hh w (.slice gb m.vars.length d1) m.vars∧o.nA w (.slice hQ m.a7.length d2) m.a7∧o.pP w (.slice iT m.procs.length d3) m.procs ∧
  jX w (.slice dd (o.insts m).length ci) (o.insts m):=by
 obtain⟨cs,xs,cw,aB,bq,dg,bs⟩:=h.ex;obtain⟨cz,bV,cj,c1,cq,c2,cr,bJ,cC,bW,rfl,gG,eO,fc,mb,sJ⟩:=dg.form;obtain⟨jT,d0,gb,d1,hQ,d2,iT,d3,kL,d4,rfl,ao,h1,U,ah,aJ,_⟩:=bq.form;obtain⟨dd,ci,rfl,_⟩:=bs.form;exact⟨cz,bV,cj,c1,cq,c2,cr,bJ,cC,bW,jT,d0,gb,d1,hQ,d2,iT,d3,kL,d4,dd,ci,aB,gG,eO,fc,ao,h1,U,ah,bs⟩
theorem rB(b:Nat)(L:List Int)(a n:Nat)(x y:Int)(w:World)(h:eW w b L)(av:x=a)(bS:y=n)(hm:a+n≤1000000000) :
  bw Tryz.prog F.c #[.map (some b),.int .i64 x,.int .i64 y] w fun _ w'=>eW w' b (L++o.fO a n)∧Mod (fun i=>i=b) w w':=by
 subst av bS;refine bP E.c ?_;refine bM ?_;refine ad ?_;refine K.cR 8 n [0,1,7] (fun _:Unit=>[]) () (fun k _ W=>Mod (fun i=>i=b) w W∧eW W b (L++o.fO a k)) bp bp ⟨Mod.refl _ _,by simpa[o.Ww] using h⟩ ?_;rintro k _ S aq hk ⟨tM,gV⟩;refine ad ?_;apply K.cond<;>intro g1
 ·refine ad ?_;refine K.afM gV fun z=>?_;refine ad ?_;refine K.aj3 ?_;refine ad ?_;refine K.af9 gV (by omega) fun aU sq eZ=>?_;refine ad ?_;refine⟨by omega,bf,(),trivial,tM.trans (sq.mod rfl),?_⟩;rw[o.V5];exact eZ
 ·have h8:k=n:=by omega
  subst h8;refine ad ?_;exact⟨gV,tM⟩
theorem CY(b q:Nat)(m:o.Model)(w:World)(h:nG w b m q)(aR:q<(o.insts m).length) :
  bw Tryz.prog F.q #[.pointer (some ⟨b,0,none⟩)] w fun v w'=>v = .int .i64 (o.fl m q)∧Ext w w':=by
 obtain⟨cz,bV,cj,c1,cq,c2,cr,bJ,cC,bW,jT,d0,gb,d1,hQ,d2,iT,d3,kL,d4,dd,ci,aB,gG,eO,fc,ao,h1,U,ah,bs⟩:=h.form;obtain⟨af,he⟩:=o.xT aR;obtain⟨a2,rfl⟩:=fc.addr (by omega);refine bP E.q ?_;refine bM ?_;refine ad ?_;intro aq aC;refine ad ?_;exact⟨by rw[he],aC⟩
theorem NC(b cF q i:Nat)(L:List Int)(m:o.Model)(w0 w:World)(h:nG w0 b m q)(he:Ext w0 w)(kZ:w0.heap.size≤cF)(aG:eW w cF L)(bq:o.ff m)(af:i<m.a7.length) :
  bw Tryz.prog F.pa #[.pointer (some ⟨b,0,none⟩),.map (some cF),.int .i64 i] w fun _ w'=>eW w' cF (L++o.lz m i)∧Mod (fun k=>k=cF) w w':=by
 obtain⟨cz,bV,cj,c1,cq,c2,cr,bJ,cC,bW,jT,d0,gb,d1,hQ,d2,iT,d3,kL,d4,dd,ci,aB,gG,eO,fc,ao,h1,U,ah,bs⟩:=(h.ext he).form;obtain⟨p5,e9⟩:=o.u3 af;have z6:=o.s9 bq af;have fT:=o.zc af;have tC:=(bq.chan _ (List.getElem_mem af)).cap;have jq:=bq.jq;obtain⟨dG,rfl⟩:=eO.addr (by omega);obtain⟨a2,rfl⟩:=U.addr (by omega);have ew:=(U.at i af).cells;refine bP E.pa ?_;refine bM ?_;refine ad ?_;intro aq aC;refine ad ?_;refine K.call (rB cF L (o.h3 m i) (1+o.rV m i) _ _ aq (aG.ext aC) (by rw[e9]) (by omega) (by omega)) ?_;rintro _ aU ⟨eZ,fa⟩;refine ad ?_;exact⟨eZ,aC.mod.trans fa⟩
theorem E1(b cF q i:Nat)(item own:Bool)(L:List Int)(m:o.Model)(w0 w:World)(h:nG w0 b m q)(he:Ext w0 w)(kZ:w0.heap.size≤cF)(aG:eW w cF L)(bq:o.ff m)(aR:q<(o.insts m).length)(af:i<m.vars.length)
  (aZ:item=true→own=true→1≤(o.insts m)[q].elem) :
  bw Tryz.prog F.l #[.pointer (some ⟨b,0,none⟩),.map (some cF),.int .i64 i,.bool item,.bool own] w fun _ w'=>eW w' cF (L++o.k8 m q i (item&&own))∧Mod (fun k=>k=cF) w w':=by
 obtain⟨cz,bV,cj,c1,cq,c2,cr,bJ,cC,bW,jT,d0,gb,d1,hQ,d2,iT,d3,kL,d4,dd,ci,aB,gG,eO,fc,ao,h1,U,ah,bs⟩:=(h.ext he).form;obtain⟨fq,lF⟩:=o.wg af;have z6:=o.EZ bq af;have K8:=o.uf af;have tH:=(o.tY _ (List.getElem_mem aR)).elem;have fF:=o.Gg aR;have gh:=o.w1 m.vars[i] m.scalars;obtain⟨a0,rfl⟩:=gG.addr (by omega);obtain⟨dG,rfl⟩:=h1.addr (by omega);obtain⟨gB,rfl⟩:=bs.addr (by omega);have ew:=(h1.at i af).cells;cases item<;>cases own;rotate_left 3
 ·have mF:=aZ rfl rfl;refine bP E.l ?_;refine bM ?_;refine ad ?_;intro aq aC;refine ad ?_;refine K.call (rB cF L (o.iD m i+o.Gf m q - 1) 1 _ _ aq (aG.ext aC) (by rw[lF];omega) rfl (by omega)) ?_;rintro _ aU ⟨eZ,fa⟩;refine ad ?_;exact⟨eZ,aC.mod.trans fa⟩
 all_goals
  clear aZ;refine bP E.l ?_;refine bM ?_;refine ad ?_;intro aq aC;refine ad ?_;refine K.call (FV m.vars[i] _ m.scalars aq (ao.ext aC)) ?_;rintro _ aU ⟨rfl,aA⟩;refine ad ?_;refine K.call (rB cF L (o.iD m i) (o.lb m i) _ _ aU ((aG.ext aC).ext aA) (by rw[lF]) (by omega) (by omega)) ?_;rintro _ aY ⟨iO,h9⟩;refine ad ?_;exact⟨iO,(aC.mod.trans aA.mod).trans h9⟩
end Go.Proofs.R
end
section
namespace o
open Go
theorem VE{m:Model}{q:Nat}{own:Bool}{x:Node}(h:x.op=2){v:Var}(aO:m.vars[x.n.toNat]? = some v)(ao:v.over=0):k8 m q x.n.toNat false=dI m q own x:=by
 obtain⟨h1,U⟩:=List.getElem?_eq_some_iff.1 aO;unfold dI k8;rw[if_pos h,if_neg (by simp),uf h1,U]
 have:cells v m.scalars=1:=by unfold cells;rw[if_pos ao]
 rw[this];rfl
end o
namespace Go.Proofs.R
open Go Go.RowKit bt
structure uP(w:World)(bR jn b cF:Nat):Prop where
 x:w.heap[bR]? = some (.cells #[.pointer (some ⟨b,0,none⟩)] T.rS)
 z:w.heap[jn]? = some (.cells #[.map (some cF)] T.w)
theorem uP.mod{w w':World}{bR jn b cF:Nat}{L:List Int}(h:uP w bR jn b cF)(aG:eW w cF L)(hm:Mod (fun k=>k=cF) w w'):uP w' bR jn b cF:=by
 obtain⟨es,c,aw,_⟩:=aG.ex;have aH:∀{k:Nat} {cs t},w.heap[k]? = some (.cells cs t)→¬k=cF:=fun hk e=>by subst e;rw[hk] at aw;cases aw
 exact⟨hm.obj (aH h.x) h.x,hm.obj (aH h.z) h.z⟩
theorem uP.ext{w w':World}{bR jn b cF:Nat}(h:uP w bR jn b cF)(he:Ext w w'):uP w' bR jn b cF:=⟨he.obj h.x,he.obj h.z⟩
theorem aa8(x:o.Node)(own:Bool)(b cF bR jn q p:Nat)(L:List Int)(m:o.Model)(w0 w:World)(h:nG w0 b m q)(he:Ext w0 w)(kZ:w0.heap.size≤cF)(aG:eW w cF L)(jN:uP w bR jn b cF)(bq:o.ff m)(bs:o.fW m q p)
  (av:o.yK (o.inner (m.procs[p]'(bs.aW)) (o.ez m)) x)(dA:x.ok)(aZ:own=true→1≤((o.insts m)[q]'(bs.aR)).elem) :
  bw Tryz.prog F.y9 #[.agg x.enc.toArray,.bool own,.pointer (some ⟨bR,0,none⟩),.pointer (some ⟨jn,0,none⟩)] w fun _ w'=>eW w' cF (L++o.dI m q own x)∧Mod (fun k=>k=cF) w w':=by
 have aR:=bs.aR;have zx:=bs.yg bq;have xR:=dA.op;have xQ:=dA.n;unfold o.eM at xR xQ;have mC:=jN.x;have tA:=jN.z;obtain⟨cz,bV,cj,c1,cq,c2,cr,bJ,cC,bW,jT,d0,gb,d1,hQ,d2,iT,d3,kL,d4,dd,ci,p4,gG,eO,fc,_,_,_,_,J4⟩:=h.form;refine bP E.y9 ?_;refine bM ?_;refine ad ?_;intro aq db gw aC bH;replace mC:=aC.obj mC;replace tA:=aC.obj tA;have gV:=aG.ext aC;have iF:=he.trans aC;obtain⟨es,ce,e9,_⟩:=gV.ex;have rv:¬db=cF:=fun e=>by subst e;rw[bH] at e9;cases e9
 have AJ:¬bR=cF:=fun e=>by subst e;rw[mC] at e9;cases e9
 have ags:¬jn=cF:=fun e=>by subst e;rw[tA] at e9;cases e9
 clear e9;unfold o.Node.enc at bH;refine ad ?_;apply K.cond<;>intro g2
 ·obtain⟨fv,v,aO,jg⟩:=av.var g2;have dV:x.n.toNat<m.vars.length:=(List.getElem?_eq_some_iff.1 aO).1;have fR:x.n=(x.n.toNat:Nat):=by omega
  refine ad ?_;rw[fR];refine K.call (E1 b cF q x.n.toNat false false L m w0 aq h iF kZ gV bq aR dV (fun a=>by cases a)) ?_;rintro _ aU ⟨eZ,fa⟩;rw[Bool.false_and,o.VE g2 aO jg (own:=own)] at eZ;refine ad ?_;exact⟨eZ,aC.mod.trans fa⟩
 refine ad ?_;apply K.cond<;>intro g3
 ·obtain⟨fv,dV⟩:=av.item g3;have fR:x.n=(x.n.toNat:Nat):=by omega
  refine ad ?_;rw[fR];refine K.call (E1 b cF q x.n.toNat true own L m w0 aq h iF kZ gV bq aR dV (fun _ a=>aZ a)) ?_;rintro _ aU ⟨eZ,fa⟩;have bz:o.dI m q own x=o.k8 m q x.n.toNat (true&&own):=by unfold o.dI;rw[if_neg g2,if_pos g3,Bool.true_and]
  rw[←bz] at eZ;refine ad ?_;exact⟨eZ,aC.mod.trans fa⟩
 refine ad ?_;apply K.cond<;>intro g4
 ·obtain⟨fv,dV⟩:=av.loc g4;have eA:x.n.toNat<(m.procs[p]'(bs.aW)).vars.length:=dV;have bX:o.dI m q own x=o.fO (o.fl m q+1+x.n.toNat) 1:=by unfold o.dI;rw[if_neg g2,if_neg g3,if_pos g4]
  rw[bX];refine ad ?_;intro aU aA;refine ad ?_;refine K.call (CY b q m aU (h.ext (iF.trans aA)) aR) ?_;rintro _ aY ⟨rfl,ax⟩;refine⟨ax,?_⟩;refine ad ?_;refine K.call (rB cF L (o.fl m q+1+x.n.toNat) 1 _ _ aY ((gV.ext aA).ext ax) (by omega) rfl (by omega)) ?_;rintro _ bo ⟨k5,j5⟩;refine ad ?_;exact⟨k5,((aC.mod.trans aA.mod).trans ax.mod).trans j5⟩
 refine ad ?_;apply K.cond<;>intro g6
 ·obtain⟨fv,dV⟩:=av.len g6;have eA:x.n.toNat<m.a7.length:=dV;have CT:=o.s9 bq eA;have fR:x.n=(x.n.toNat:Nat):=by omega
  have c7:o.dI m q own x=o.fO (o.h3 m x.n.toNat) 1:=by unfold o.dI;rw[if_neg g2,if_neg g3,if_neg g4,if_pos g6]
  rw[c7];obtain⟨p5,e9⟩:=o.u3 eA;obtain⟨dG,rfl⟩:=eO.addr (by omega);have aB:=iF.obj p4;have ahv:=eO.ext Flat.ext iF;rw[fR] at bH;refine ad ?_;intro aU aA;refine ad ?_;refine K.call (rB cF L (o.h3 m x.n.toNat) 1 _ _ aU (gV.ext aA) (by rw[e9]) rfl (by omega)) ?_;rintro _ bo ⟨k5,j5⟩;refine ad ?_;exact⟨k5,(aC.mod.trans aA.mod).trans j5⟩
 refine ad ?_;apply K.cond<;>intro g7;rotate_left
 ·have eX:o.dI m q own x=[]:=by unfold o.dI;rw[if_neg g2,if_neg g3,if_neg g4,if_neg g6,if_neg g7]
  rw[eX,List.append_nil];refine ad ?_;exact⟨gV,aC.mod⟩
 have dw:o.dI m q own x=o.lQ m (x.n.tdiv 16) (o.insts m).length:=by unfold o.dI;rw[if_neg g2,if_neg g3,if_neg g4,if_neg g6,if_pos g7]
 rw[dw];obtain⟨f6,f7,f8⟩:=o.Ai m;obtain⟨fv,xK⟩:=av.at_ g7;have Lj:(x.n.tdiv 16).toNat<m.procs.length:=xK;have Lo:=Int.tdiv_nonneg fv (show(0:Int)≤16 by omega);have Ll:=bq.procs;have Ub : -9223372036854775808≤x.n.tdiv 16∧x.n.tdiv 16≤9223372036854775807:=by omega
 have nO:∀{W},Mod (fun k=>k=cF) aq W→Ext w0 W:=fun hm=>hm.ext iF fun k hk e=>by omega
 have jq:=o.DC bq;have c8:=iF.obj p4;clear gG eO;refine ad ?_;refine K.cR 55 (o.insts m).length [2,3,4,53,54] (fun _:Unit=>[]) () (fun k _ W=>Mod (fun i=>i=cF) aq W∧eW W cF (L++o.lQ m (x.n.tdiv 16) k)) bp bp ⟨Mod.refl _ _,by simpa[o.lQ] using gV⟩ ?_;have KI:=tA;have h7:=mC;have fS:=bH;clear mC tA bH c8;rintro k _ S aU hk ⟨fa,eZ⟩;have mC:=fa.obj AJ h7;have tA:=fa.obj ags KI;have bH:=fa.obj rv fS;have aB:=(nO fa).obj p4;have ab3:=J4.ext Flat.ext (nO fa);refine ad ?_;apply K.cond<;>intro g1
 ·have cT:k<(o.insts m).length:=by omega
  obtain⟨gB,rfl⟩:=J4.addr (by omega);obtain⟨xD,kl⟩:=o.xT cT;have zQ:=o.DA bq cT;obtain⟨a2,rfl⟩:=fc.addr (by omega);have Wb:=fc.ext Flat.ext (nO fa);refine ad ?_;intro wn kX iM fF fT;refine ad ?_;intro aY fk dq;have ax:Ext aU aY:=fk.ext fF iM;replace mC:=ax.obj mC;replace tA:=ax.obj tA;replace bH:=ax.obj bH;replace aB:=ax.obj aB;replace Wb:=Wb.ext Flat.ext ax;have iO:=eZ.ext ax;have h9:=fa.trans ax.mod;clear eZ ab3;refine ad ?_;refine K.quo (by omega) ?_;refine ad ?_;apply K.cond<;>intro g2
  ·refine ad ?_;intro bo aF;refine ad ?_;refine K.call (rB cF _ (o.fl m k) 1 _ _ bo (iO.ext aF) (by rw[kl]) rfl (by omega)) ?_;rintro _ bD ⟨xO,k2⟩;refine ad ?_;refine⟨cT,bf,(),trivial,(h9.trans aF.mod).trans k2,?_⟩;rw[o.wR cT,if_pos g2,←List.append_assoc];exact xO
  ·refine ad ?_;refine⟨cT,bf,(),trivial,h9,?_⟩;rw[o.wR cT,if_neg g2,List.append_nil];exact iO
 ·have h8:(o.insts m).length=k:=by omega
  rw[h8];refine ad ?_;exact⟨eZ,aC.mod.trans fa⟩
theorem aat(e:List o.Node)(v:Value)(b cF bR jn q p:Nat)(L:List Int)(m:o.Model)(w0 w:World)(h:nG w0 b m q)(he:Ext w0 w)(kZ:w0.heap.size≤cF)(aG:eW w cF L)(jN:uP w bR jn b cF)(bq:o.ff m)(bs:o.fW m q p)
  (aH:o.fY w0 v e)(av:o.qz (o.inner (m.procs[p]'(bs.aW)) (o.ez m)) e) :
  bw Tryz.prog F.BU #[v,.func (.func F.y9) #[] #[.pointer (some ⟨bR,0,none⟩),.pointer (some ⟨jn,0,none⟩)]] w fun _ w'=>eW w' cF (L++o.iL m q e e.length)∧Mod (fun k=>k=cF) w w':=by
 obtain⟨bm,gJ,rfl,a1⟩:=aH.form;have nO:∀{W},Mod (fun k=>k=cF) w W→Ext w0 W:=fun hm=>hm.ext he fun k hk e=>by omega
 have hle:=av.len;refine bP E.BU ?_;refine bM ?_;refine ad ?_;refine K.cR 9 e.length [1,7,8] (fun ak:Bool=>[(4,.bool ak)]) false (fun k ak W=>ak=o.oS e k∧Mod (fun i=>i=cF) w W∧eW W cF (L++o.iL m q e k)) bp bp ⟨rfl,Mod.refl _ _,by simpa[o.iL] using aG⟩ ?_;rintro k ak S aq hk ⟨rfl,tM,gV⟩;have sl:=aH.ext (nO tM);have SH:=jN.mod aG tM;refine ad ?_;apply K.cond<;>intro g1
 ·have cT:k<e.length:=by omega
  obtain⟨a,rfl⟩:=aH.addr (by omega);have jR:=(aH.at k cT).ok;have mK:=av.node k cT;refine ad ?_;intro aU dY eK aA b5;have eZ:=gV.ext aA;have fa:=tM.trans aA.mod;have abY:=SH.ext aA;have n6:¬dY=cF:=fun e=>by subst e;obtain⟨_,_,e9,_⟩:=eZ.ex;rw[b5] at e9;cases e9
  clear sl gV SH;refine ad ?_;refine K.mv (first:=[]) (cap:=[.pointer (some ⟨bR,0,none⟩),.pointer (some ⟨jn,0,none⟩)]) (by kernel_rfl) (aa8 e[k] (o.oS e k) b cF bR jn q p _ m w0 aU h (nO fa) kZ eZ abY bq bs mK.1 jR ?_) ?_
  ·intro gM;cases k with
   | zero=>cases gM
   | succ j =>
    rw[o.Mw (by omega)] at gM;have bk:=(av.node j (by omega)).1.self (by simpa using gM);exact bs.elem (by have:(o.inner (m.procs[p]'(bs.aW)) (o.ez m)).self=(m.procs[p]'(bs.aW)).over:=rfl;omega)
  rintro _ aY ⟨iO,h9⟩;have acW:=h9.obj n6 b5;clear b5;refine ad ?_;refine⟨cT,bf,_,⟨rfl,trivial⟩,?_,fa.trans h9,?_⟩
  ·rw[o.Mw cT]
  ·rw[o.JM cT,←List.append_assoc];exact iO
 ·have h8:e.length=k:=by omega
  rw[h8];refine ad ?_;exact⟨gV,tM⟩
theorem Co(e:List o.Node)(v:Value)(b cF q p:Nat)(L:List Int)(m:o.Model)(w0 w:World)(h:nG w0 b m q)(he:Ext w0 w)(kZ:w0.heap.size≤cF)(aG:eW w cF L)(bq:o.ff m)(bs:o.fW m q p)
  (aH:o.fY w0 v e)(av:o.qz (o.inner (m.procs[p]'(bs.aW)) (o.ez m)) e) :
  bw Tryz.prog F.rP #[.pointer (some ⟨b,0,none⟩),.map (some cF),v] w fun _ w'=>eW w' cF (L++o.iL m q e e.length)∧Mod (fun k=>k=cF) w w':=by
 refine bP E.rP ?_;refine bM ?_;refine ad ?_;intro aq bR mC aC h7;refine ad ?_;intro aU jn tA aA KI;refine ad ?_;refine K.call (aat e v b cF bR jn q p L m w0 aU h ((he.trans aC).trans aA) kZ ((aG.ext aC).ext aA) ⟨aA.obj h7,KI⟩ bq bs aH av) ?_;rintro _ aY ⟨iO,h9⟩;refine ad ?_;exact⟨iO,(aC.mod.trans aA.mod).trans h9⟩
theorem ahI(a:o.Act)(cw cx:Value)(b cF q p:Nat)(L:List Int)(m:o.Model)(w0 w:World)(h:nG w0 b m q)(he:Ext w0 w)(kZ:w0.heap.size≤cF)(aG:eW w cF L)(bq:o.ff m)(bs:o.fW m q p)
  (af:o.fY w0 cw a.index)(aO:o.fY w0 cx a.value)(bu:o.uO (o.inner (m.procs[p]'(bs.aW)) (o.ez m)) a) :
  bw Tryz.prog F.rT #[.pointer (some ⟨b,0,none⟩),.map (some cF),.agg (a.enc cw cx).toArray] w fun _ w'=>eW w' cF (L++o.qK m q a)∧Mod (fun k=>k=cF) w w':=by
 obtain⟨cz,bV,cj,c1,cq,c2,cr,bJ,cC,bW,jT,d0,gb,d1,hQ,d2,iT,d3,kL,d4,dd,ci,p4,gG,eO,fc,_,_,_,_,J4⟩:=h.form;have zT:=bu.kind;refine bP E.rT ?_;refine bM ?_;refine ad ?_;intro aq dX jf aC b3;have gV:=aG.ext aC;have iF:=he.trans aC;have aB:=iF.obj p4;obtain⟨es,ce,e9,_⟩:=gV.ex;have n5:¬dX=cF:=fun e=>by subst e;rw[b3] at e9;cases e9
 clear e9;unfold o.Act.enc at b3;refine ad ?_;apply K.cond<;>intro g2
 ·refine ad ?_;refine K.call (Co a.index cw b cF q p L m w0 aq h iF kZ gV bq bs af (bu.item g2).2.2) ?_;rintro _ aU ⟨eZ,fa⟩;have tB:=fa.obj n5 b3;clear b3 aB;refine ad ?_;refine K.call (Co a.value cx b cF q p _ m w0 aU h (fa.ext iF fun k hk e=>by omega) kZ eZ bq bs aO (bu.val (by omega))) ?_;rintro _ aY ⟨iO,h9⟩;refine ad ?_;refine⟨?_,(aC.mod.trans fa).trans h9⟩;unfold o.qK;rw[if_neg (by omega),if_pos g2,←List.append_assoc];exact iO
 refine ad ?_;apply K.cond<;>intro g4
 ·obtain⟨fv,dV⟩:=bu.chan (.inl g4);have eA:a.to.toNat<m.a7.length:=dV;have CT:=o.s9 bq eA;have fR:a.to=(a.to.toNat:Nat):=by omega
  obtain⟨p5,e9⟩:=o.u3 eA;obtain⟨dG,rfl⟩:=eO.addr (by omega);have ahv:=eO.ext Flat.ext iF;rw[fR] at b3;refine ad ?_;intro aU aA;have tB:=aA.obj b3;refine ad ?_;refine K.call (rB cF L (o.h3 m a.to.toNat) 1 _ _ aU (gV.ext aA) (by rw[e9]) rfl (by omega)) ?_;rintro _ aY ⟨iO,h9⟩;have CN:=h9.obj n5 tB;clear b3 tB aB;refine ad ?_;refine K.call (Co a.value cx b cF q p _ m w0 aY h (h9.ext (iF.trans aA) fun k hk e=>by omega) kZ iO bq bs aO (bu.val (by omega))) ?_;rintro _ bo ⟨k5,j5⟩;refine ad ?_;refine⟨?_,((aC.mod.trans aA.mod).trans h9).trans j5⟩;unfold o.qK;rw[if_neg (by omega),if_neg g2,if_pos g4,←List.append_assoc];exact k5
 refine ad ?_;apply K.cond<;>intro g5
 ·obtain⟨fv,dV⟩:=bu.chan (.inr g5);have eA:a.to.toNat<m.a7.length:=dV;have fR:a.to=(a.to.toNat:Nat):=by omega
  rw[fR] at b3;refine ad ?_;refine K.call (NC b cF q a.to.toNat L m w0 aq h iF kZ gV bq eA) ?_;rintro _ aU ⟨eZ,fa⟩;refine ad ?_;refine⟨?_,aC.mod.trans fa⟩;unfold o.qK;rw[if_pos g5];exact eZ
 ·refine ad ?_;refine K.call (Co a.value cx b cF q p _ m w0 aq h iF kZ gV bq bs aO (bu.val g5)) ?_;rintro _ aU ⟨eZ,fa⟩;refine ad ?_;refine⟨?_,aC.mod.trans fa⟩;unfold o.qK;rw[if_neg g5,if_neg g2,if_neg g4,List.nil_append];exact eZ
theorem aj4(a:o.Act)(cw cx:Value)(b cF q p:Nat)(L:List Int)(m:o.Model)(w0 w:World)(h:nG w0 b m q)(he:Ext w0 w)(kZ:w0.heap.size≤cF)(aG:eW w cF L)(bq:o.ff m)(bs:o.fW m q p)
  (af:o.fY w0 cw a.index)(bu:o.uO (o.inner (m.procs[p]'(bs.aW)) (o.ez m)) a) :
  bw Tryz.prog F.wX #[.pointer (some ⟨b,0,none⟩),.map (some cF),.agg (a.enc cw cx).toArray] w fun _ w'=>eW w' cF (L++o.jG m q a)∧Mod (fun k=>k=cF) w w':=by
 have zT:=bu.kind;have aR:=bs.aR;have zx:=bs.yg bq;refine bP E.wX ?_;refine bM ?_;refine ad ?_;intro aq dX jf aC b3;have gV:=aG.ext aC;have iF:=he.trans aC;obtain⟨es,ce,e9,_⟩:=gV.ex;have n5:¬dX=cF:=fun e=>by subst e;rw[b3] at e9;cases e9
 clear e9;obtain⟨dd,ci,rfl,afU⟩:=af.form;unfold o.Act.enc at b3;refine ad ?_;apply K.cond<;>intro g1
 ·obtain⟨fv,v,aO,jg⟩:=bu.set g1;have dV:a.to.toNat<m.vars.length:=(List.getElem?_eq_some_iff.1 aO).1;have fR:a.to=(a.to.toNat:Nat):=by omega
  rw[fR] at b3;refine ad ?_;refine K.call (E1 b cF q a.to.toNat false false L m w0 aq h iF kZ gV bq aR dV (fun a=>by cases a)) ?_;rintro _ aU ⟨eZ,fa⟩;refine ad ?_;refine⟨?_,aC.mod.trans fa⟩;unfold o.jG;rw[if_pos g1];have e:=o.VE (m:=m) (q:=q) (own:=false) (x:=⟨2,a.to⟩) rfl aO jg;unfold o.dI at e;rw[if_pos rfl] at e;rw[Bool.false_and,e] at eZ;exact eZ
 refine ad ?_;apply K.cond<;>intro g2
 ·obtain⟨fv,dV,C5⟩:=bu.item g2;have eA:a.to.toNat<m.vars.length:=dV;have fR:a.to=(a.to.toNat:Nat):=by omega
  rw[fR] at b3;have oA:o.jG m q a=o.k8 m q a.to.toNat (o.pH a):=by unfold o.jG;rw[if_neg g1,if_pos g2]
  rw[oA];have G1:=af.ext iF;refine ad ?_;intro aU aA;replace b3:=aA.obj b3;replace G1:=G1.ext aA;refine ad ?_;apply K.cond<;>intro g3
  ·obtain⟨gB,rfl⟩:=af.addr (by omega);have mK:=(C5.node 0 (by omega)).1;have tU:=o.WT (a:=a) (by omega);refine ad ?_;refine K.dx 0 rfl (by omega) ?_;refine ad ?_;refine K.call (E1 b cF q a.to.toNat true (decide ((a.index[0]'(by omega)).op=5)) L m w0 aU h (iF.trans aA) kZ (gV.ext aA) bq aR eA (fun _ bk=>?_)) ?_
   ·have bk:=mK.self (by simpa using bk);exact bs.elem (by have:(o.inner (m.procs[p]'(bs.aW)) (o.ez m)).self=(m.procs[p]'(bs.aW)).over:=rfl;omega)
   rintro _ aY ⟨iO,h9⟩;rw[Bool.true_and,←tU] at iO;refine ad ?_;exact⟨iO,(aC.mod.trans aA.mod).trans h9⟩
  ·have tU:=o.WS (a:=a) (by omega);refine ad ?_;refine K.call (E1 b cF q a.to.toNat true false L m w0 aU h (iF.trans aA) kZ (gV.ext aA) bq aR eA (fun _ bk=>by cases bk)) ?_;rintro _ aY ⟨iO,h9⟩;rw[Bool.and_false,←tU] at iO;refine ad ?_;exact⟨iO,(aC.mod.trans aA.mod).trans h9⟩
 refine ad ?_;apply K.cond<;>intro g3
 ·obtain⟨fv,dV⟩:=bu.loc g3;have eA:a.to.toNat<(m.procs[p]'(bs.aW)).vars.length:=dV;have oA:o.jG m q a=o.fO (o.fl m q+1+a.to.toNat) 1:=by unfold o.jG;rw[if_neg g1,if_neg g2,if_pos g3]
  rw[oA];refine ad ?_;intro aU aA;refine ad ?_;refine K.call (CY b q m aU (h.ext (iF.trans aA)) aR) ?_;rintro _ aY ⟨rfl,ax⟩;refine⟨ax,?_⟩;refine ad ?_;refine K.call (rB cF L (o.fl m q+1+a.to.toNat) 1 _ _ aY ((gV.ext aA).ext ax) (by omega) rfl (by omega)) ?_;rintro _ bo ⟨k5,j5⟩;refine ad ?_;exact⟨k5,((aC.mod.trans aA.mod).trans ax.mod).trans j5⟩
 refine ad ?_;apply K.cond<;>intro g4
 ·obtain⟨fv,dV⟩:=bu.chan (.inl g4);have eA:a.to.toNat<m.a7.length:=dV;have fR:a.to=(a.to.toNat:Nat):=by omega
  rw[fR] at b3;refine ad ?_;refine K.call (NC b cF q a.to.toNat L m w0 aq h iF kZ gV bq eA) ?_;rintro _ aU ⟨eZ,fa⟩;refine ad ?_;refine⟨?_,aC.mod.trans fa⟩;unfold o.jG;rw[if_neg g1,if_neg g2,if_neg g3,if_pos g4];exact eZ
 have g5:a.kind=5:=by omega
 ·obtain⟨fv,dV⟩:=bu.chan (.inr g5);obtain⟨dc,hy⟩:=bu.recv g5;have p8:a.loc.toNat<(m.procs[p]'(bs.aW)).vars.length:=hy;have eA:a.to.toNat<m.a7.length:=dV;have fR:a.to=(a.to.toNat:Nat):=by omega
  rw[fR] at b3;refine ad ?_;refine K.call (NC b cF q a.to.toNat L m w0 aq h iF kZ gV bq eA) ?_;rintro _ aU ⟨eZ,fa⟩;have alk:=fa.obj n5 b3;have c0:=fa.ext iF fun k hk e=>by omega
  clear b3;refine ad ?_;intro aY ax;refine ad ?_;refine K.call (CY b q m aY (h.ext (c0.trans ax)) aR) ?_;rintro _ bo ⟨rfl,aF⟩;refine⟨aF,?_⟩;refine ad ?_;refine K.call (rB cF _ (o.fl m q+1+a.loc.toNat) 1 _ _ bo ((eZ.ext ax).ext aF) (by omega) rfl (by omega)) ?_;rintro _ bD ⟨xO,k2⟩;refine ad ?_;refine⟨?_,(((aC.mod.trans fa).trans ax.mod).trans aF.mod).trans k2⟩;unfold o.jG;rw[if_neg g1,if_neg g2,if_neg g3,if_neg g4,if_pos g5,←List.append_assoc];exact xO
end Go.Proofs.R
end
section
namespace o
open Go
structure hf(m:Model)(ref:Int)(q p k:Nat):Prop where
 ok:(check m).cM=0
 bA:0≤ref
 af:ref.toNat<(refs m).length
 at_:Qg m ((refs m)[ref.toNat]) q p k
def Told(m:Model)(ref:Int):Prop:=(check m).cM=0∧0≤ref∧ref<(refs m).length
theorem rX{m:Model}{ref:Int}(h:Told m ref):∃q p k,hf m ref q p k:=by
 obtain⟨h1,U,ah⟩:=h;obtain⟨q,p,k,aJ⟩:=ah1 (List.getElem_mem (show ref.toNat<(refs m).length by omega));exact⟨q,p,k,h1,U,by omega,aJ⟩
theorem hf.told{m:Model}{ref:Int}{q p k:Nat}(h:hf m ref q p k):Told m ref:=⟨h.ok,h.bA,by have:=h.af;have:=h.bA;omega⟩
theorem hf.inst{m:Model}{ref:Int}{q p k:Nat}(h:hf m ref q p k):fW m q p:=by
 obtain⟨hC,aW⟩:=DB h.at_.af;have e:hC=p:=by
  have h1:=aW.eq;rw[h.at_.ip] at h1;omega
 subst e;exact aW
theorem hf.one{m:Model}{ref:Int}{q p k gF hC k':Nat}(h:hf m ref q p k)(bK:hf m ref gF hC k'):q=gF∧p=hC∧k=k':=by
 have b2:q=gF:=by have a:=h.at_.uA;have b:=bK.at_.uA;omega
 subst b2;have a:=h.at_.ip;have b:=bK.at_.ip;have c:=h.at_.vX;have d:=bK.at_.vX;exact⟨rfl,by omega,by omega⟩
def da(m:Model)(p k:Nat):dL:=((m.procs[p]?.map (·.cE[k]?)).join).getD ⟨⟨#[]⟩,0,0,[],[],false⟩
theorem w2{m:Model}{p k:Nat}(aW:p<m.procs.length)(hk:k<m.procs[p].cE.length):da m p k=m.procs[p].cE[k]:=by
 unfold da;rw[List.getElem?_eq_getElem aW];simp[hk]
theorem hf.cin{m:Model}{ref:Int}{q p k:Nat}(h:hf m ref q p k):wq (inner (m.procs[p]'(h.at_.aW)) (ez m)) (da m p k):=by
 rw[w2 h.at_.aW h.at_.hk];exact Z1 h.ok h.at_.aW h.at_.hk
structure iG(m:Model)(ref:Int)(a b:List Int):Prop where
 there:∀q p k,hf m ref q p k→na (n4 m q (da m p k) (da m p k).cn.length) a∧na (jA m q (da m p k) (da m p k).cn.length) b
 none:¬Told m ref→a=[]∧b=[]
theorem iG.eq{m:Model}{ref:Int}{a b cX gk:List Int}(h:iG m ref a b)(bK:iG m ref cX gk):a=cX∧b=gk:=by
 by_cases aL:Told m ref
 ·obtain⟨q,p,k,aw⟩:=rX aL;obtain⟨h1,U⟩:=h.there q p k aw;obtain⟨ah,aJ⟩:=bK.there q p k aw;exact⟨h1.eq ah fun _=>Iff.rfl,U.eq aJ fun _=>Iff.rfl⟩
 ·obtain⟨rfl,rfl⟩:=h.none aL;obtain⟨rfl,rfl⟩:=bK.none aL;exact⟨rfl,rfl⟩
theorem iG.of{m:Model}{ref:Int}{q p k:Nat}{a b:List Int}(aw:hf m ref q p k)(h1:na (n4 m q (da m p k) (da m p k).cn.length) a)(U:na (jA m q (da m p k) (da m p k).cn.length) b):iG m ref a b :=
 ⟨fun gF hC k' h=>by obtain⟨rfl,rfl,rfl⟩:=aw.one h;exact⟨h1,U⟩,fun aH=>absurd aw.told aH⟩
theorem iG.nil{m:Model}{ref:Int}(h:¬Told m ref):iG m ref [] []:=⟨fun _ _ _ aw=>absurd aw.told h,fun _=>⟨rfl,rfl⟩⟩
structure akj(m:Model)(ref:Int)(a:List Int):Prop where
 there:∀q p k,hf m ref q p k→na (r8 m q (da m p k)) a
 none:¬Told m ref→a=[]
theorem ff.lim{m:Model}(h:ff m):sV m:=⟨by have:=h.procs;omega,fun p aW=>by have:=(h.proc p aW).jq;omega⟩
end o
namespace bt
open Go
def F0:List Value:=[.string ⟨#[]⟩,.int .i64 0,.int .i64 0,.slice none 0 0,.slice none 0 0,.bool false]
end bt
end
section
namespace Go.Proofs.R
open Go Go.RowKit bt
def X7(m:o.Model)(ref:Int)(v:Value)(w:World):Prop :=
 (¬o.Told m ref∧v = .tuple #[.pointer none,.agg F0.toArray,.bool false]) ∨
 (∃(b q p k:Nat) (fV va:Value),o.hf m ref q p k∧v = .tuple #[.pointer (some ⟨b,0,none⟩),.agg ((o.da m p k).enc fV va).toArray,.bool true]∧nG w b m q∧o.fY w fV (o.da m p k).guard∧o.oi w va (o.da m p k).cn)
theorem agF(cs:List Value)(m:o.Model)(ref:Int)(w:World)(h:o.dM w cs m)(aV:m.cG)(aZ:gH w) :
  bw Tryz.prog F.u2 #[.agg cs.toArray,.int .i64 ref] w fun v w'=>X7 m ref v w'∧Ext w w':=by
 have dk:=h;obtain⟨cz,bV,cj,c1,cq,c2,cr,bJ,cC,bW,rfl,ao,h1,U,ah,aJ,eH,dB,dH,ee,ei⟩:=h.form;refine bP E.u2 ?_;refine bM ?_;refine ad ?_;intro aq cp dT aC aK;refine ad ?_;intro aU dX jf aA b3;have pn:=aA.obj aK;have ba:=aC.trans aA;refine ad ?_;refine K.call (AA _ m aU (dk.ext ba) aV (aZ.ext ba)) ?_;rintro _ aY ⟨rfl,ax⟩;have bz:=ba.trans ax;replace aK:=ax.obj pn;replace b3:=ax.obj b3;have z5:=cy b3;have akd:=aC.size;clear pn;refine ad ?_;refine K.jd (v:=.int .i64 (o.check m).cM) rfl ?_;refine ad ?_;refine K.cond (fun hk=>?_) (fun hk=>?_);rotate_left
 ·refine ad ?_;intro bo eu bH;refine ad ?_;exact⟨.inl ⟨fun aL=>hk aL.1,bf⟩,eu.ext bz (by omega)⟩
 have bq:=o.mP hk;have dg:=bq.lim;have j6:=o.oV dg;refine ad ?_;refine K.call (EB _ m aY (dk.ext bz) dg) ?_;rintro vr bo ⟨gN,aF⟩;obtain⟨ma,lS,rfl,_⟩:=gN.form;have J9:bG 2 (Flat o.Ref.enc) bo (.slice ma (o.refs m).length lS) (o.refs m):=bg.fB (enc:=o.Ref.enc) (fun _=>rfl) gN;replace aK:=aF.obj aK;replace b3:=aF.obj b3;have bX:=bz.trans aF;clear gN;refine ad ?_;apply K.cond<;>intro g1
 ·refine ad ?_;intro bD eU tB;refine ad ?_;exact⟨.inl ⟨fun aL=>by have:=aL.2;omega,bf⟩,eU.ext bX (by omega)⟩
 obtain⟨r,rfl⟩:=Int.eq_ofNat_of_zero_le (show 0≤ref by omega);refine ad ?_;apply K.cond<;>intro g2
 ·refine ad ?_;intro bD eU tB;refine ad ?_;exact⟨.inl ⟨fun aL=>by have:=aL.2;omega,bf⟩,eU.ext bX (by omega)⟩
 have aL:o.Told m r:=⟨hk,by omega,by omega⟩;obtain⟨q,p,k,cv⟩:=o.rX aL;have aR:=cv.at_.af;have aW:=cv.at_.aW;have k1:=cv.at_.hk;have l5:(o.refs m)[r].inst=(q:Int):=cv.at_.uA;have nX:(o.refs m)[r].cmd=(k:Int):=cv.at_.vX;have mD:=cv.at_.ip;obtain⟨kW,rfl⟩:=J9.addr (by omega);refine ad ?_;intro bD aM;replace aK:=aM.obj aK;replace b3:=aM.obj b3;have q2:=J9.ext Flat.ext aM;have ca:=bX.trans aM;refine ad ?_;refine K.call (Vf _ m bD (dk.ext ca) aV (aZ.ext ca)) ?_;rintro _ bQ ⟨⟨xs,rfl,xi⟩,aN⟩;rw[o.L8 hk] at xi;have Gu:=xi;replace xi:=xi.here;obtain⟨me,d0,jB,d1,jC,d2,pK,d3,oX,d4,rfl,_⟩:=xi.form;have c7:=ca.trans aN;refine⟨aN,?_⟩;refine ad ?_;refine K.call (Ae _ m bQ (dk.ext c7) aV) ?_;rintro cw cd ⟨fq,bC⟩;obtain⟨dd,ci,rfl,_⟩:=fq.form;have dw:=c7.trans bC;refine⟨aN.trans bC,?_⟩;refine ad ?_;intro c9 kA oE bU c5;have eX:=dw.trans bU;have G3:jX c9 (.slice dd (o.insts m).length ci) (o.insts m):=bg.fB (enc:=o.cU.enc) (fun _=>rfl) (fq.ext bU);have SQ:=xi.ext (bC.trans bU);rw[l5] at c5;have ak3:nG c9 kA m q:=⟨_,_,_,c5,dk.ext eX,SQ,G3⟩;have JZ:=(aN.trans bC).trans bU;have SV:=q2.ext Flat.ext JZ;replace aK:=JZ.obj aK;replace b3:=JZ.obj b3;have NT:=eX.size;obtain⟨gB,rfl⟩:=G3.addr (by omega);obtain⟨a3,rfl⟩:=ah.addr (by omega);obtain⟨mI,cx,eg,dU,eL,fU⟩:=ah.at p aW;obtain⟨En,BM,rfl,DM⟩:=fU.form;obtain⟨ac,rfl⟩:=fU.addr (by omega);obtain⟨fT,fV,va,fS,kn,hM⟩:=fU.at k k1;replace dU:=dU.ext eX;replace fS:=fS.ext eX;obtain⟨hq,gl,rfl,_⟩:=kn.form;obtain⟨ur,ta,rfl,_⟩:=hM.form;unfold o.dt.enc at dU;unfold o.dL.enc at fS;clear xi J9 q2 SQ;refine ad ?_;intro dF cL;replace aK:=cL.obj aK;replace b3:=cL.obj b3;replace c5:=cL.obj c5;replace SV:=SV.ext Flat.ext cL;replace G3:=G3.ext Flat.ext cL;replace dU:=dU.ext cL;replace fS:=fS.ext cL;refine ad ?_;refine K.dx p (by rw[mD]) aW ?_;refine ad ?_;refine K.dx k (by rw[nX]) k1 ?_;refine ad ?_;intro fe pz nQ;refine ad ?_;have gu:Ext w dF:=eX.trans cL;have pF:=aF.size;have pG:=aM.size;have ain:=aN.size;have amR:=bC.size;have nL:Ext w fe:=pz.ext gu (by omega);have ab6:=((Gu.ext ((bC.trans bU).trans cL) ain).wr pz (by omega)).here;have adH:jX fe (.slice (some gB) (o.insts m).length ci) (o.insts m):=bg.fB (enc:=o.cU.enc) (fun _=>rfl) (bg.wr pz (by omega) ((fq.ext bU).ext cL));have nU:=o.w2 aW k1;refine⟨.inr ⟨kA,q,p,k,.slice hq (o.da m p k).guard.length gl,.slice ur (o.da m p k).cn.length ta,cv,by rw[nU];rfl,⟨_,_,_,pz.obj c5 (by omega),dk.ext nL,ab6,adH⟩,?_,?_⟩,nL⟩
 ·rw[nU];exact kn.ext nL
 ·rw[nU];exact hM.ext nL
end Go.Proofs.R
end
section
namespace Go.Proofs
open Go.Shelf
def Tryz.U1:Go.Shelf.Ren:=⟨fun | 7=>146 | 10=>202 | n=>n,fun | 23=>160 | 26=>3 | 3=>3 | 28=>111 | 0=>0 | 27=>110 | 33=>119 | 4=>4 | n=>n,fun | n=>n⟩
theorem Tryz.L2:Go.Proofs.SlLaysZI.n7 Tryz.prog Tryz.U1:={
 mixed:=by kernel_rfl
 f7:=⟨Tryz.f146.name,by decide,Tryz.func146.trans (congrArg some (by kernel_rfl))⟩
 f10:=⟨Tryz.f202.name,by decide,Tryz.func202.trans (congrArg some (by kernel_rfl))⟩
 t0:=Tryz.underlying0
 a0:=Tryz.isAgg0
 z0:=Tryz.sizeOf0
 v0:=Tryz.zeroValue0
 t4:=Tryz.underlying4
 a4:=Tryz.isAgg4
 z4:=Tryz.sizeOf4
 v4:=Tryz.zeroValue4
 t23:=Tryz.underlying160
 a23:=Tryz.isAgg160
 z23:=Tryz.sizeOf160
 v23:=Tryz.zeroValue160
 t26:=Tryz.underlying3
 a26:=Tryz.isAgg3
 z26:=Tryz.sizeOf3
 v26:=Tryz.zeroValue3
 t27:=Tryz.underlying110
 a27:=Tryz.isAgg110
 z27:=Tryz.sizeOf110
 v27:=Tryz.zeroValue110
 t28:=Tryz.underlying111
 a28:=Tryz.isAgg111
 z28:=Tryz.sizeOf111
 v28:=Tryz.zeroValue111
 t33:=Tryz.underlying119
 a33:=Tryz.isAgg119
 z33:=Tryz.sizeOf119
 v33:=Tryz.zeroValue119 }
def Tryz.W3:Go.Shelf.Ren:=⟨fun | 6=>145 | 8=>200 | 9=>201 | 11=>239 | 13=>206 | 12=>240 | 23=>250 | 24=>251 | 14=>283 | 15=>284 | 16=>285 | 17=>286 | 18=>287 | 19=>288 | 20=>289 | 21=>290 | 22=>291 | 25=>306 | 26=>293 | 27=>294 | 28=>307 | 29=>308 | 30=>309 | 31=>311 | n=>n,fun | 26=>3 | 28=>111 | 24=>40 | 0=>0 | 3=>3 | 37=>186 | 48=>301 | 50=>63 | 4=>4 | 40=>295 | 39=>294 | 45=>187 | 5=>5 | 9=>9 | 51=>327 | 55=>331 | 57=>339 | 58=>134 | 33=>119 | n=>n,fun | n=>n⟩
theorem Tryz.aiV:Go.Proofs.SlLaysZI.n6 Tryz.prog Tryz.W3:={
 mixed:=by kernel_rfl
 f6:=⟨Tryz.f145.name,by decide,Tryz.func145.trans (congrArg some (by kernel_rfl))⟩
 f8:=⟨Tryz.f200.name,by decide,Tryz.func200.trans (congrArg some (by kernel_rfl))⟩
 f11:=⟨Tryz.f239.name,by decide,Tryz.func239.trans (congrArg some (by kernel_rfl))⟩
 t0:=Tryz.underlying0
 a0:=Tryz.isAgg0
 z0:=Tryz.sizeOf0
 v0:=Tryz.zeroValue0
 t24:=Tryz.underlying40
 a24:=Tryz.isAgg40
 z24:=Tryz.sizeOf40
 v24:=Tryz.zeroValue40
 t26:=Tryz.underlying3
 a26:=Tryz.isAgg3
 z26:=Tryz.sizeOf3
 v26:=Tryz.zeroValue3
 t28:=Tryz.underlying111
 a28:=Tryz.isAgg111
 z28:=Tryz.sizeOf111
 v28:=Tryz.zeroValue111
 i26:=by kernel_rfl }
def Tryz.aiP:Go.Shelf.Ren:=⟨fun | 5=>201 | 8=>206 | 7=>240 | 19=>250 | 20=>251 | 10=>283 | 11=>284 | 12=>285 | 13=>286 | 14=>287 | 15=>288 | 16=>289 | 17=>290 | 18=>291 | 30=>306 | 31=>293 | 32=>294 | 33=>307 | 34=>308 | 35=>309 | 40=>311 | n=>n,fun | 23=>40 | 25=>3 | 3=>3 | 32=>186 | 22=>40 | 0=>0 | 44=>301 | 46=>63 | 4=>4 | 36=>295 | 35=>294 | 41=>187 | 5=>5 | 9=>9 | 53=>327 | 57=>331 | 63=>339 | 64=>134 | n=>n,fun | n=>n⟩
theorem Tryz.Nh:Go.Proofs.SlLaysM.n5 Tryz.prog Tryz.aiP:={
 mixed:=by kernel_rfl
 f5:=⟨Tryz.f201.name,by decide,Tryz.func201.trans (congrArg some (by kernel_rfl))⟩
 f7:=⟨Tryz.f240.name,by decide,Tryz.func240.trans (congrArg some (by kernel_rfl))⟩
 f8:=Tryz.func206.trans (congrArg some (by kernel_rfl))
 f10:=⟨Tryz.f283.name,by decide,Tryz.func283.trans (congrArg some (by kernel_rfl))⟩
 f11:=⟨Tryz.f284.name,by decide,Tryz.func284.trans (congrArg some (by kernel_rfl))⟩
 f12:=⟨Tryz.f285.name,by decide,Tryz.func285.trans (congrArg some (by kernel_rfl))⟩
 f13:=⟨Tryz.f286.name,by decide,Tryz.func286.trans (congrArg some (by kernel_rfl))⟩
 f14:=⟨Tryz.f287.name,by decide,Tryz.func287.trans (congrArg some (by kernel_rfl))⟩
 f15:=⟨Tryz.f288.name,by decide,Tryz.func288.trans (congrArg some (by kernel_rfl))⟩
 f16:=⟨Tryz.f289.name,by decide,Tryz.func289.trans (congrArg some (by kernel_rfl))⟩
 f17:=⟨Tryz.f290.name,by decide,Tryz.func290.trans (congrArg some (by kernel_rfl))⟩
 f18:=⟨Tryz.f291.name,by decide,Tryz.func291.trans (congrArg some (by kernel_rfl))⟩
 f19:=Tryz.func250.trans (congrArg some (by kernel_rfl))
 f20:=Tryz.func251.trans (congrArg some (by kernel_rfl))
 f30:=⟨Tryz.f306.name,by decide,Tryz.func306.trans (congrArg some (by kernel_rfl))⟩
 f31:=Tryz.func293.trans (congrArg some (by kernel_rfl))
 f32:=Tryz.func294.trans (congrArg some (by kernel_rfl))
 f33:=⟨Tryz.f307.name,by decide,Tryz.func307.trans (congrArg some (by kernel_rfl))⟩
 f34:=⟨Tryz.f308.name,by decide,Tryz.func308.trans (congrArg some (by kernel_rfl))⟩
 f35:=⟨Tryz.f309.name,by decide,Tryz.func309.trans (congrArg some (by kernel_rfl))⟩
 f40:=⟨Tryz.f311.name,by decide,Tryz.func311.trans (congrArg some (by kernel_rfl))⟩
 t0:=Tryz.underlying0
 a0:=Tryz.isAgg0
 z0:=Tryz.sizeOf0
 v0:=Tryz.zeroValue0
 t3:=Tryz.underlying3
 a3:=Tryz.isAgg3
 z3:=Tryz.sizeOf3
 v3:=Tryz.zeroValue3
 t4:=Tryz.underlying4
 a4:=Tryz.isAgg4
 z4:=Tryz.sizeOf4
 v4:=Tryz.zeroValue4
 t5:=Tryz.underlying5
 a5:=Tryz.isAgg5
 z5:=Tryz.sizeOf5
 v5:=Tryz.zeroValue5
 t9:=Tryz.underlying9
 a9:=Tryz.isAgg9
 z9:=Tryz.sizeOf9
 v9:=Tryz.zeroValue9
 t22:=Tryz.underlying40
 a22:=Tryz.isAgg40
 z22:=Tryz.sizeOf40
 v22:=Tryz.zeroValue40
 t23:=Tryz.underlying40
 a23:=Tryz.isAgg40
 z23:=Tryz.sizeOf40
 v23:=Tryz.zeroValue40
 t25:=Tryz.underlying3
 a25:=Tryz.isAgg3
 z25:=Tryz.sizeOf3
 v25:=Tryz.zeroValue3
 t32:=Tryz.underlying186
 a32:=Tryz.isAgg186
 z32:=Tryz.sizeOf186
 v32:=Tryz.zeroValue186
 t35:=Tryz.underlying294
 a35:=Tryz.isAgg294
 z35:=Tryz.sizeOf294
 v35:=Tryz.zeroValue294
 t36:=Tryz.underlying295
 a36:=Tryz.isAgg295
 z36:=Tryz.sizeOf295
 v36:=Tryz.zeroValue295
 t41:=Tryz.underlying187
 a41:=Tryz.isAgg187
 z41:=Tryz.sizeOf187
 v41:=Tryz.zeroValue187
 t44:=Tryz.underlying301
 a44:=Tryz.isAgg301
 z44:=Tryz.sizeOf301
 v44:=Tryz.zeroValue301
 t46:=Tryz.underlying63
 a46:=Tryz.isAgg63
 z46:=Tryz.sizeOf63
 v46:=Tryz.zeroValue63
 t53:=Tryz.underlying327
 a53:=Tryz.isAgg327
 z53:=Tryz.sizeOf327
 v53:=Tryz.zeroValue327
 t57:=Tryz.underlying331
 a57:=Tryz.isAgg331
 z57:=Tryz.sizeOf331
 v57:=Tryz.zeroValue331
 t63:=Tryz.underlying339
 a63:=Tryz.isAgg339
 z63:=Tryz.sizeOf339
 v63:=Tryz.zeroValue339
 t64:=Tryz.underlying134
 a64:=Tryz.isAgg134
 z64:=Tryz.sizeOf134
 v64:=Tryz.zeroValue134 }
end Go.Proofs
end
section
namespace Go.Proofs
open Go Go.RowKit Go.Maps Go.Sort Go.Shelf
theorem Tryz.aiX(m:Nat):AnyZI.SortsIn Tryz.prog Tryz.W3 Fence.wide m :=
 ⟨fun aQ off cap b7 W hH hblk dn=>callsIn_wide.2 (AnyM.slices_Sort_int Tryz.Nh aQ off cap b7 W hH hblk dn),fun p cap W=>callsIn_wide.2 (AnyM.slices_Sort_int_none Tryz.Nh p cap W)⟩
end Go.Proofs
namespace Go.Proofs.R
open Go Go.RowKit Go.Maps Go.Sort Go.Shelf bt
theorem afe(El:Option Nat)(w:World):bw Tryz.prog F.eX #[.map El] w fun v w'=>v = .func (.func F.ca) #[] #[.pointer (some ⟨w.heap.size,0,none⟩)]∧w'=w.alloc (.cells #[.map El] T.w):=by
 have h:CallsIn Fence.wide 5 Tryz.prog F.eX #[.map El] w fun e w'=>e = .returned (.func (.func F.ca) #[] #[.pointer (some ⟨w.heap.size,0,none⟩)])∧w'=w.alloc (.cells #[.map El] T.w):=AnyZI.keys_in Tryz.L2 Fence.wide 5 trivial rfl El w;exact Calls.mono (callsIn_wide.1 h) fun e w' ⟨h1,U⟩=>⟨_,h1,rfl,U⟩
theorem Vw:∀l:List Int,l.map encZ=l.flatMap c4
 | []=>rfl
 | x :: l=>by rw[List.map_cons,List.flatMap_cons,Vw l];rfl
theorem aiW(b:Nat)(L:List Int)(w:World)(h:eW w b L)(dg:L.length≤1000000) :
  bw Tryz.prog F.dw #[.func (.func F.ca) #[] #[.pointer (some ⟨w.heap.size,0,none⟩)]] (w.alloc (.cells #[.map (some b)] T.w)) fun v w'=>(∃r,bg c4 T.a 1 (w.alloc (.cells #[.map (some b)] T.w)).heap.size w' v r∧o.na L r)∧Ext (w.alloc (.cells #[.map (some b)] T.w)) w':=by
 obtain⟨rI,gM,dn,Lw⟩:=h.own (P:=Tryz.prog) (k:=T.a) (by kernel_rfl) (by unfold maxLen;omega);have CJ:=gM.lt;have rf:SeqGives Fence.wide 2 Tryz.prog F.ca #[.pointer (some ⟨w.heap.size,0,none⟩)] encZ (fun b7=>b7.Perm (intKeys rI)) (Maps.size rI) (w.alloc (.cells #[.map (some b)] T.w)) :=
  AnyZI.keys_gives (ρ:=Tryz.U1) { Tryz.L2 with } Fence.wide _ trivial rfl (by omega) w.heap.size b _ rI _ (by simp) (by simp) (by
   obtain⟨es,clock,aB,XZ,aG,hj⟩:=gM;exact⟨es,clock,(Below.heap_alloc _ _ b CJ).trans aB,XZ,aG,hj⟩)
 have Re:=AnyZI.sorted_in Tryz.aiV Fence.wide 5 trivial trivial trivial trivial rfl (by omega) (Tryz.aiX _) (Tryz.Nh.f5.enters rfl) F.ca #[.pointer (some ⟨w.heap.size,0,none⟩)] trivial (Tryz.L2.f10.enters rfl) _ _ (by unfold maxLen;omega) (by omega) _ rf;change CallsIn _ _ Tryz.prog F.dw _ _ _ at Re;refine Calls.mono (callsIn_wide.1 Re) ?_;rintro e w' ⟨v,b7,rfl,cm,mG,_,aB⟩;obtain⟨h1,U⟩:=Lw b7 cm;refine⟨v,rfl,⟨b7.mergeSort fun x y=>decide (x≤y),?_,aiU h1,fun x=>?_⟩,aB⟩
 ·unfold bg;rw[←Vw,List.length_mergeSort];exact mG
 ·rw[(List.mergeSort_perm b7 _).mem_iff];exact U x
theorem Wq(b:Nat)(L:List Int)(w:World)(h:eW w b L)(dg:L.length≤1000000) :
  bw Tryz.prog F.y5 #[.map (some b)] w fun v w'=>(∃r,bg c4 T.a 1 w.heap.size w' v r∧o.na L r)∧Ext w w':=by
 have he:Ext w (w.alloc (.cells #[.map (some b)] T.w)):=(Ext.refl w).alloc _;have hk:=afe (some b) w;have aG:=aiW b L w h dg;generalize w.alloc (.cells #[.map (some b)] T.w)=aq at he hk aG;refine bP E.y5 ?_;refine bM ?_;refine ad ?_;refine K.call hk ?_;rintro _ _ ⟨rfl,rfl⟩;refine ad ?_;refine K.call aG ?_;rintro v aU ⟨⟨r,aZ,bd⟩,aA⟩;refine ad ?_;exact⟨⟨r,bg.low he.size aZ,bd⟩,he.trans aA⟩
end Go.Proofs.R
end
section
namespace Go.Proofs.R
open Go Go.RowKit bt
theorem PJ(cs:List Value)(m:o.Model)(ref:Int)(w:World)(h:o.dM w cs m)(aV:m.cG)(aZ:gH w) :
  bw Tryz.prog F.s5 #[.agg cs.toArray,.int .i64 ref] w fun v w'=>(∃va ky a b,v = .tuple #[va,ky]∧bg c4 T.a 1 w.heap.size w' va a∧bg c4 T.a 1 w.heap.size w' ky b∧o.iG m ref a b)∧Ext w w':=by
 have dk:=h;obtain⟨cz,bV,cj,c1,cq,c2,cr,bJ,cC,bW,rfl,_⟩:=h.form;refine bP E.s5 ?_;refine bM ?_;refine ad ?_;intro aq cp dT aC aK;refine ad ?_;refine K.call (agF _ m ref aq (dk.ext aC) aV (aZ.ext aC)) ?_;rintro _ aU ⟨hO,aA⟩;replace aK:=aA.obj aK;have ba:=aC.trans aA;rcases hO with ⟨Ld,rfl⟩ | ⟨b,q,p,k,fV,va,cv,rfl,oD,kn,hM⟩
 ·unfold F0;refine ad ?_;intro wn dY eK fF fT;refine ad ?_;intro aY fk b5;refine ad ?_;exact⟨⟨_,_,[],[],rfl,bg.nil _ _ _ _ _,bg.nil _ _ _ _ _,o.iG.nil Ld⟩,ba.trans (fk.ext fF eK)⟩
 obtain⟨hq,gl,rfl,_⟩:=kn.form;obtain⟨ur,ta,rfl,_⟩:=hM.form;have bq:=o.mP cv.ok;have bs:=cv.inst;have k0:=cv.cin;have q7:=k0.jq;obtain⟨c,CQ⟩:∃c,c=o.da m p k:=⟨_,rfl⟩;rw[←CQ] at k0 q7 kn hM ⊢;unfold o.dL.enc;refine ad ?_;intro wn kX iM fF fT;refine ad ?_;intro aY fk dq;have ax:Ext aU aY:=fk.ext fF iM;clear fF fT fk;have bz:=ba.trans ax;have CC:=oD.ext ax;have ad6:=kn.ext ax;have Lb:=hM.ext ax;have zQ:=o.DA bq bs.aR;clear aK oD kn hM;refine ad ?_;refine K.AF fun bo ng Kn aF CT=>?_;refine ad ?_;refine K.AF fun bD nI alj aM sd=>?_;have Uc:=(eW.empty CT).ext aM;have eU:=eW.empty sd;have cH:ng≠nI:=by have:=cy CT;omega
 have hg:=aF.trans aM;have xr:=hg.obj dq;have acH:aY.heap.size≤nI:=by have:=aF.size;omega
 clear CT sd;refine ad ?_;refine K.call (CY b q m bD (CC.ext hg) bs.aR) ?_;rintro _ bQ ⟨rfl,aN⟩;refine ad ?_;refine K.call (rB ng [] (o.fl m q) 1 _ _ bQ (Uc.ext aN) rfl rfl (by omega)) ?_;rintro _ cd ⟨Ud,sj⟩;have dC:=(eU.ext aN).mod sj (Ne.symm cH);have jh:=sj.ext (hg.trans aN) fun k hk e=>by omega
 refine ad ?_;refine K.call (CY b q m cd (CC.ext jh) bs.aR) ?_;rintro _ c9 ⟨rfl,bU⟩;refine ad ?_;refine K.call (rB nI [] (o.fl m q) 1 _ _ c9 (dC.ext bU) rfl rfl (by omega)) ?_;rintro _ dF ⟨hp,re⟩;have Ue:=(Ud.ext bU).mod re cH;have gp:=re.ext (jh.trans bU) fun k hk e=>by omega
 have acZ:=gp.obj dq;refine ad ?_;refine K.call (Co c.guard _ b ng q p _ m aY dF CC gp Kn Ue bq bs ad6 k0.guard) ?_;rintro _ fe ⟨zY,xG⟩;have pz:=hp.mod xG (Ne.symm cH);have oo:=xG.ext gp fun k hk e=>by omega
 have acY:=oo.obj dq;rw[List.nil_append] at pz zY;have SE:eW fe ng (o.n4 m q c 0):=by
  unfold o.n4 o.r8;rw[List.take_zero,List.flatMap_nil,List.append_nil];exact zY
 have SF:eW fe nI (o.jA m q c 0):=by
  unfold o.jA;rw[List.take_zero,List.flatMap_nil,List.append_nil];exact pz
 clear Uc eU Ud dC Ue hp zY pz xr acZ sj re xG aN bU hg jh gp;refine ad ?_;refine K.cR 40 c.cn.length [6,7,9,10,38,39] (fun _:Unit=>[]) () (fun n _ W=>Ext aY W∧eW W ng (o.n4 m q c n)∧eW W nI (o.jA m q c n)) bp bp ⟨oo,SE,SF⟩ ?_;clear acY SE SF oo;rintro n _ S fQ aH ⟨hX,Dj,ia⟩;have ad4:=Lb.ext hX;refine ad ?_;apply K.cond<;>intro g1
 ·have js:n<c.cn.length:=by omega
  obtain⟨jE,rfl⟩:=Lb.addr (by omega);obtain⟨cw,cx,sa,tO,zW⟩:=Lb.at n js;have p3:=k0.act n js;obtain⟨dd,ci,rfl,_⟩:=tO.form;obtain⟨fz,ir,rfl,_⟩:=zW.form;replace sa:=sa.ext hX;clear ad4;refine ad ?_;intro kO BF sb en q3;have lM:=hX.trans en;have Lp:=Dj.ext en;have sn:=ia.ext en;have ka:¬BF=ng:=fun e=>by subst e;obtain⟨_,_,h,_⟩:=Lp.ex;rw[q3] at h;cases h
  have jw:¬BF=nI:=fun e=>by subst e;obtain⟨_,_,h,_⟩:=sn.ex;rw[q3] at h;cases h
  clear sa Dj ia;refine ad ?_;refine K.call (ahI c.cn[n] _ _ b ng q p _ m aY kO CC lM Kn Lp bq bs tO zW p3) ?_;rintro _ mU ⟨aep,xH⟩;have rl:=sn.mod xH (Ne.symm cH);have nB:=xH.ext lM fun k hk e=>by omega
  replace q3:=xH.obj ka q3;clear Lp sn;refine ad ?_;refine K.call (aj4 c.cn[n] _ _ b nI q p _ m aY mU CC nB acH rl bq bs tO p3) ?_;rintro _ E2 ⟨Ds,TW⟩;have aeq:=aep.mod TW cH;have Bc:=TW.ext nB fun k hk e=>by omega
  refine ad ?_;exact⟨js,bf,(),trivial,Bc,by rw[o.Wg js];exact aeq,by rw[o.NH js];exact Ds⟩
 ·have vD:c.cn.length=n:=by omega
  have j6:=(o.Wh bq bs k0 n (by omega)).len;have aeM:=(o.E3 bq bs k0 n (by omega)).len;refine ad ?_;refine K.call (Wq ng _ fQ Dj (by omega)) ?_;rintro u kO ⟨⟨MT,Lf,Lq⟩,en⟩;refine ad ?_;refine K.call (Wq nI _ kO (ia.ext en) (by omega)) ?_;rintro yp mU ⟨⟨Ex,Lg,Lr⟩,gC⟩;refine ad ?_;have NP:=(bz.trans hX).size;have z12:=en.size;refine⟨⟨_,_,MT,Ex,rfl,bg.ext gC (bg.low NP Lf),bg.low (Nat.le_trans NP z12) Lg,?_⟩,((bz.trans hX).trans en).trans gC⟩;subst CQ;refine o.iG.of cv ?_ ?_
  ·rw[vD];exact Lq
  ·rw[vD];exact Lr
theorem X6(cs:List Value)(m:o.Model)(ref:Int)(w:World)(h:o.dM w cs m)(aV:m.cG)(aZ:gH w) :
  bw Tryz.prog F.s5 #[.agg cs.toArray,.int .i64 ref] w fun v w'=>(∃va ky a b,v = .tuple #[va,ky]∧h0 w' va a∧h0 w' ky b∧o.iG m ref a b)∧Ext w w' :=
 (PJ cs m ref w h aV aZ).mono fun v w' ⟨⟨va,ky,a,b,aO,bu,aB,er⟩,he⟩=>⟨⟨va,ky,a,b,aO,bg.fB (enc:=c4) (fun _=>rfl) bu,bg.fB (enc:=c4) (fun _=>rfl) aB,er⟩,he⟩
end Go.Proofs.R
end
section
namespace o
open Go
theorem afR{v:Var}{s:List Scalar}(h:yU v s)(ao:v.over≠0):∃(j:Nat) (aI:j<s.length),v.over=(j:Int)+1∧cells v s=s[j].size∧1≤s[j].size∧s[j].size≤4:=by
 have h1:=h.fz.resolve_left ao;unfold cells;rw[if_neg ao];unfold size at h1 ⊢;cases av:s[(v.over - 1).toNat]? with
 | none=>rw[av] at h1;exact absurd rfl h1
 | some x =>
  rw[av] at h1;obtain⟨aI,rfl⟩:=List.getElem?_eq_some_iff.1 av;simp only at h1 ⊢;split at h1
  ·rename_i U;refine⟨(v.over - 1).toNat,aI,by omega,?_,U.2.1,U.2.2⟩;rw[if_pos U]
  ·exact absurd rfl h1
end o
namespace Go.Proofs.R
open Go Go.RowKit bt
theorem M5(a n:Nat)(x y:Int)(w:World)(av:x=a)(bS:y=n)(hm:a+n≤1000000) :
  bw Tryz.prog F.x7 #[.int .i64 x,.int .i64 y] w fun u w'=>bg c4 T.a 1 w.heap.size w' u (o.fO a n)∧Ext w w':=by
 subst av bS;refine bP E.x7 ?_;refine bM ?_;refine ad ?_;refine K.cR 6 n [0,1] (fun v:gf=>[(5,.slice v.1 v.2.1 v.2.2)]) (none,0,0) (fun k v W=>Ext w W∧bg c4 T.a 1 w.heap.size W (.slice v.1 v.2.1 v.2.2) (o.fO a k)) bp bp ⟨Ext.refl _,bg.nil _ _ _ _ _⟩ ?_;rintro k v S aq hk ⟨aC,pw⟩;refine ad ?_;apply K.cond<;>intro g1
 ·refine ad ?_;intro aU cp dT aA aK;refine ad ?_;have fC:=aC.size;refine K.ki (y:=(a:Int)+(k:Int)) (pw.ext aA) aK rfl (fun _=>rfl) j1 (by rw[o.HU];omega) (by rw[o.HU];unfold maxLen;omega) (by have:=aA.size;omega) fun bm c d aY gT C0=>?_;refine ad ?_;refine⟨by omega,bf,(bm,c,d),⟨rfl,trivial⟩,(aC.trans aA).grown C0 fun i af=>(pw.lt i af).1,?_⟩;rw[o.M1,Int.natCast_add];exact gT
 ·have h8:k=n:=by omega
  subst h8;refine ad ?_;exact⟨pw,aC⟩
theorem ah5(cs:List Value)(m:o.Model)(i:Nat)(w:World)(h:o.dM w cs m)(bq:o.ff m)(af:i<m.vars.length) :
  bw Tryz.prog F.Ee #[.agg cs.toArray,.int .i64 i] w fun u w'=>u = .int .i64 (o.lb m i)∧Ext w w':=by
 obtain⟨cz,bV,cj,c1,cq,c2,cr,bJ,cC,bW,rfl,ao,h1,U,ah,aJ,eH,dB,dH,ee,ei⟩:=h.form;have jq:=bq.jq;have dA:=bq.var _ (List.getElem_mem af);have K8:=o.uf af;obtain⟨dG,rfl⟩:=h1.addr (by omega);have ew:=(h1.at i af).cells;refine bP E.Ee ?_;refine bM ?_;refine ad ?_;intro aq cp dT aC aK;replace ew:=ew.ext aC;refine ad ?_;apply K.cond<;>intro g1
 ·have:o.cells m.vars[i] m.scalars=1:=by unfold o.cells;rw[if_pos g1]
  refine ad ?_;exact⟨by rw[K8,this];rfl,aC⟩
 ·obtain⟨j,aI,b2,ba,bz,bX⟩:=o.afR dA g1;obtain⟨a0,rfl⟩:=ao.addr (by omega);have iN:=((ao.at j aI).cells).ext aC;refine ad ?_;refine K.dx j (by omega) aI ?_;refine ad ?_;intro aU aA;refine ad ?_;exact⟨by rw[K8,ba,Int.toNat_of_nonneg (by omega)],aC.trans aA⟩
theorem M0(cs ys:List Value)(m:o.Model)(q i:Nat)(own:Bool)(w:World)(h:o.dM w cs m)(aV:m.cG)(bq:o.ff m)(dg:o.kf w ys (o.layout m))(aR:q<(o.insts m).length)(af:i<m.vars.length)(aZ:own=true→1≤(o.insts m)[q].elem) :
  bw Tryz.prog F.Au #[.agg cs.toArray,.agg ys.toArray,.int .i64 q,.int .i64 i,.bool own] w fun u w'=>bg c4 T.a 1 w.heap.size w' u (o.k8 m q i own)∧Ext w w':=by
 have dk:=h;obtain⟨cz,bV,cj,c1,cq,c2,cr,bJ,cC,bW,rfl,ao,h1,U,ah,aJ,eH,dB,dH,ee,ei⟩:=h.form;obtain⟨me,d0,jB,d1,jC,d2,pK,d3,oX,d4,rfl,gG,eO,fc,mb,sJ⟩:=dg.form;obtain⟨fq,lF⟩:=o.wg af;have z6:=o.EZ bq af;have tH:=(o.tY _ (List.getElem_mem aR)).elem;have fF:=o.Gg aR;obtain⟨a0,rfl⟩:=gG.addr (by omega);refine bP E.Au ?_;refine bM ?_;refine ad ?_;intro aq dX jf aC b3;refine ad ?_;intro aU dY eK aA b5;replace b3:=aA.obj b3;have ba:=aC.trans aA;have amN:=gG.ext Flat.ext ba;cases own with
 | true =>
  have mF:=aZ rfl;refine ad ?_;intro aY ax;have bz:=ba.trans ax;refine ad ?_;refine K.call (vW _ m aY (dk.ext bz) aV) ?_;rintro cw bo ⟨Um,aF⟩;obtain⟨dd,ci,rfl,_⟩:=Um.form;have e5:jX bo _ _:=bg.fB (enc:=o.cU.enc) (fun _=>rfl) Um;obtain⟨gB,rfl⟩:=e5.addr (by omega);refine⟨aF,?_⟩;refine ad ?_;refine⟨aF,?_⟩;refine ad ?_;intro bD akC zG aM tB;refine ad ?_;have ca:=(bz.trans aF).trans aM;refine⟨?_,ca⟩;unfold o.k8;rw[if_pos rfl,o.lJ];exact bg.wV _ tB (by have:=bz.size;have:=aF.size;omega) (by rw[lF];simp[c4];omega) (fun _=>rfl) rfl (by show 1≤maxLen;unfold maxLen;decide)
 | false =>
  refine ad ?_;intro aY ax;have bz:=ba.trans ax;refine ad ?_;refine K.call (ah5 _ m i aY (dk.ext bz) bq af) ?_;rintro _ bo ⟨rfl,aF⟩;refine⟨aF,?_⟩;refine ad ?_;refine K.call (M5 (o.iD m i) (o.lb m i) _ _ bo (by rw[lF]) rfl (by omega)) ?_;rintro u bD ⟨eF,aM⟩;refine ad ?_;exact⟨bg.low (bz.trans aF).size eF,(bz.trans aF).trans aM⟩
theorem Wx(v:Value)(l:List Int)(w:World)(h:h0 w v l)(ao:∀x∈l,0≤x∧x<80)(a1:l.length≤1000000) :
  bw Tryz.prog F.Av #[v] w fun u w'=>(∃r,bg c4 T.a 1 w.heap.size w' u r∧o.na l r)∧Ext w w':=by
 obtain⟨fz,ir,rfl,iA⟩:=h.form;refine bP E.Av ?_;refine bM ?_;refine ad ?_;refine K.yu [0] (fun x:Bool×gf×Int=>[(3,.slice x.2.1.1 x.2.1.2.1 x.2.1.2.2),(4,.int .i64 x.2.2),(5,.bool x.1)]) (true,(none,0,0),-1)
  (fun x W=>Ext w W∧∃out,bg c4 T.a 1 w.heap.size W (.slice x.2.1.1 x.2.1.2.1 x.2.1.2.2) out∧(x.1=true→o.rN l x.2.2 out)∧(x.1=false→o.na l out)∧x.2.2<80) (fun x=>if x.1=true then (81 - x.2.2).toNat else 0) bp ⟨Ext.refl _,[],bg.nil _ _ _ _ _,fun _=>o.rN.start fun x av=>(ao x av).1,fun h=>(by cases h),by decide⟩ ?_
 rintro⟨more,yr,last⟩ S aq ⟨aC,out,pw,eJ,hj,K4⟩;cases more with
 | false =>
  refine ad ?_;exact⟨⟨out,pw,hj rfl⟩,aC⟩
 | true =>
  have eJ:o.rN l last out:=eJ rfl;have pt:=eJ.last;have K4:last<80:=K4;have aeb:out.length≤80:=by
   have:=o.Wp out 0 80 eJ.jx fun x av=>ao x ((eJ.mem x).1 av).1
   omega
  have h1:=h.ext Flat.ext aC;refine ad ?_;refine K.cR 7 l.length [0,3,4,5] (fun n:Int=>[(6,.int .i64 n)]) (-1) (fun k n W=>W=aq∧o.pO (l.take k) last n) bp bp ⟨rfl,o.pO.nil _⟩ ?_;rintro k n a8 aU hk ⟨rfl,hm⟩;refine ad ?_;apply K.cond<;>intro g1
  ·have cT:k<l.length:=by omega
   obtain⟨a,rfl⟩:=h.addr (by omega);have ss:=ao l[k] (List.getElem_mem cT);have nM:=List.take_succ_eq_append_getElem cT;refine ad ?_;apply K.cond<;>intro g2
   ·refine ad ?_;apply K.cond<;>intro g3
    ·refine ad ?_;exact⟨cT,bf,l[k],⟨rfl,trivial⟩,bf,by rw[nM];exact hm.take ss.1 ⟨by omega,.inl g3⟩⟩
    ·refine ad ?_;apply K.cond<;>intro g4
     ·refine ad ?_;exact⟨cT,bf,l[k],⟨rfl,trivial⟩,bf,by rw[nM];exact hm.take ss.1 ⟨by omega,.inr g4⟩⟩
     ·refine ad ?_;exact⟨cT,bf,n,⟨rfl,trivial⟩,bf,by rw[nM];exact hm.skip (by omega)⟩
   ·refine ad ?_;exact⟨cT,bf,n,⟨rfl,trivial⟩,bf,by rw[nM];exact hm.skip (by omega)⟩
  ·have h8:l.length≤k:=by omega
   rw[List.take_of_length_le h8] at hm;refine ad ?_;apply K.cond<;>intro g2
   ·obtain⟨acp,cB,sk⟩:=eJ.step hm (by omega);have aH:=ao n sk;refine ad ?_;intro aY ch fE ax bB;refine ad ?_;have fC:=aC.size;refine K.ki (y:=n) (pw.ext ax) bB rfl (fun _=>rfl) j1 (by omega) (by unfold maxLen;omega) (by have:=ax.size;omega) fun bm c d bo fu zO=>?_;refine ad ?_;exact⟨(true,(bm,c,d),n),⟨rfl,rfl,by simp[g2],trivial⟩,⟨(aC.trans ax).grown zO fun i af=>(pw.lt i af).1,out++[n],fu,fun _=>acp,fun h=>(by cases h),by simp only;omega⟩,by simp only[if_true];omega⟩
   ·have er:=eJ.done hm (by omega);refine ad ?_;exact⟨(false,yr,last),⟨rfl,rfl,by simp[g2],trivial⟩,⟨aC,out,pw,fun h=>(by cases h),fun _=>er,K4⟩,by simp only[if_true,Bool.false_eq_true,if_false];omega⟩
end Go.Proofs.R
end
section
namespace o
open Go
theorem WU{m:Model}{q p:Nat}(bs:fW m q p){x:Node}(av:yK (inner (m.procs[p]'(bs.aW)) (ez m)) x)(h:x.op=5):1≤((insts m)[q]'(bs.aR)).elem:=by
 have bk:=av.self h
 have:(inner (m.procs[p]'(bs.aW)) (ez m)).self=(m.procs[p]'(bs.aW)).over:=rfl
 exact bs.elem (by omega)
end o
namespace Go.Proofs.R
open Go Go.RowKit bt
theorem HR(cs ys:List Value)(v:Value)(e:List o.Node)(m:o.Model)(q p:Nat)(w:World)(h:o.dM w cs m)(aV:m.cG)(bq:o.ff m)(dg:o.kf w ys (o.layout m))(bs:o.fW m q p)
  (aH:o.fY w v e)(av:o.qz (o.inner (m.procs[p]'(bs.aW)) (o.ez m)) e) :
  bw Tryz.prog F.vO #[.agg cs.toArray,.agg ys.toArray,.int .i64 q,v] w fun u w'=>bg c4 T.a 1 w.heap.size w' u (o.iL m q e e.length)∧Ext w w':=by
 have dk:=h;have Cx:=dg;obtain⟨cz,bV,cj,c1,cq,c2,cr,bJ,cC,bW,rfl,ao,h1,U,ah,aJ,eH,dB,dH,ee,ei⟩:=h.form;obtain⟨me,d0,jB,d1,jC,d2,pK,d3,oX,d4,rfl,gG,eO,fc,mb,sJ⟩:=dg.form;obtain⟨fz,ir,rfl,iA⟩:=aH.form;have aR:=bs.aR;have zx:=bs.yg bq;have hle:=av.len;have jq:=o.DC bq;obtain⟨f6,f7,f8⟩:=o.Ai m;refine bP E.vO ?_;refine bM ?_;refine ad ?_;intro aq db gw aC bH;refine ad ?_;intro aU dX jf aA b3;replace bH:=aA.obj bH;have ba:=aC.trans aA;refine ad ?_;refine K.call (vW _ m aU (dk.ext ba) aV) ?_;rintro cw aY ⟨fq,ax⟩;obtain⟨dd,ci,rfl,_⟩:=fq.form;have e5:jX aY _ _:=bg.fB (enc:=o.cU.enc) (fun _=>rfl) fq;have GH:=ax.obj bH;have CN:=ax.obj b3;have bz:=ba.trans ax;clear bH b3 fq;refine ad ?_;refine K.cR 11 e.length [2,3,4,5,9] (fun v:gf=>[(10,.slice v.1 v.2.1 v.2.2)]) (none,0,0) (fun k v W=>Ext aY W∧bg c4 T.a 1 aY.heap.size W (.slice v.1 v.2.1 v.2.2) (o.iL m q e k)) bp bp ⟨Ext.refl _,bg.nil _ _ _ _ _⟩ ?_;rintro k yr S bo hk ⟨aF,fu⟩;have bH:=aF.obj GH;have b3:=aF.obj CN;have eb:=bz.trans aF;have z3:=bz.size;have z4:=aF.size;have mE:=aH.ext eb;refine ad ?_;apply K.cond<;>intro g1;rotate_left
 ·have tL:e.length=k:=by omega
  rw[tL];refine ad ?_;exact⟨bg.low bz.size fu,eb⟩
 have cT:k<e.length:=by omega
 obtain⟨pU,rfl⟩:=aH.addr (by omega);obtain⟨mK,aeO⟩:=av.node k cT;have jR:=(aH.at k cT).ok;have xR:=jR.op;have xQ:=jR.n;unfold o.eM at xR xQ;have k3:=(o.tq bq bs av (n:=k) (by omega)).len;have vD:=(o.VG bq bs mK (o.oS e k)).len;have sf:=o.JM (m:=m) (q:=q) cT;refine ad ?_;apply K.cond<;>intro g2
 ·obtain⟨fv,v,aO,jg⟩:=mK.var g2;have dV:e[k].n.toNat<m.vars.length:=(List.getElem?_eq_some_iff.1 aO).1;obtain⟨fq,lF⟩:=o.wg dV;obtain⟨a0,rfl⟩:=gG.addr (by omega);have MO:=gG.ext Flat.ext eb;have bX:o.dI m q (o.oS e k) e[k]=[((o.iD m e[k].n.toNat:Nat):Int)]:=by unfold o.dI;rw[if_pos g2,o.lJ]
  refine ad ?_;intro bD aM;refine ad ?_;refine K.dx e[k].n.toNat (by omega) (by omega) ?_;refine ad ?_;intro bQ dY eK aN b5;refine ad ?_;refine K.ki (y:=(o.iD m e[k].n.toNat:Int)) ((fu.ext aM).ext aN) b5 (by rw[lF];rfl) (fun _=>rfl) j1 (by omega) (by unfold maxLen;omega) (by have:=aM.size;have:=aN.size;omega) fun bm c d cd eR ix=>?_;refine ad ?_;refine⟨cT,bf,(bm,c,d),⟨rfl,trivial⟩,((aF.trans aM).trans aN).grown ix fun i af=>(fu.lt i af).1,by rw[sf,bX];exact eR⟩
 refine ad ?_;apply K.cond<;>intro g3
 ·have C7:=aeO g3;obtain⟨j,rfl⟩:∃j,k=j+1:=⟨k - 1,by omega⟩;have aI:j<e.length:=by omega
  obtain⟨fv,dV⟩:=mK.item g3;have eA:e[j+1].n.toNat<m.vars.length:=dV;have aaI:o.oS e (j+1)=decide (e[j].op=5):=o.Mw aI;have bX:o.dI m q (o.oS e (j+1)) e[j+1]=o.k8 m q e[j+1].n.toNat (decide (e[j].op=5)):=by unfold o.dI;rw[if_neg g2,if_pos g3,aaI]
  rw[bX] at vD sf;have fR:e[j+1].n=(e[j+1].n.toNat:Nat):=by omega
  refine ad ?_;intro bD aM;refine ad ?_;refine K.dx j (by omega) aI ?_;refine ad ?_;have hg:=eb.trans aM;rw[fR];refine K.call (M0 _ _ m q e[j+1].n.toNat (decide (e[j].op=5)) bD (dk.ext hg) aV bq (Cx.ext hg) aR eA (fun bk=>o.WU bs (av.node j aI).1 (by simpa using bk))) ?_;rintro u bQ ⟨et,aN⟩;obtain⟨sH,qS,rfl,_⟩:=et.form;refine ad ?_;refine K.yZ ((fu.ext aM).ext aN) et (fun _=>rfl) j1 (by omega) (by unfold maxLen;omega) (by have:=aM.size;have:=aN.size;omega) fun ck cd eR ix=>?_;obtain⟨bm,c,rfl,_⟩:=eR.form;refine ad ?_;exact⟨cT,bf,(bm,_,c),⟨rfl,trivial⟩,((aF.trans aM).trans aN).grown ix fun i af=>(fu.lt i af).1,by rw[sf];exact eR⟩
 refine ad ?_;apply K.cond<;>intro g4
 ·obtain⟨fv,dV⟩:=mK.loc g4;have eA:e[k].n.toNat<(m.procs[p]'(bs.aW)).vars.length:=dV;have bX:o.dI m q (o.oS e k) e[k]=[((o.fl m q+1+e[k].n.toNat:Nat):Int)]:=by unfold o.dI;rw[if_neg g2,if_neg g3,if_pos g4,o.lJ]
  obtain⟨xD,kl⟩:=o.xT aR;obtain⟨a2,rfl⟩:=fc.addr (by omega);have MQ:=fc.ext Flat.ext eb;refine ad ?_;intro bD aM;refine ad ?_;rw[kl];refine ad ?_;intro bQ dY eK aN b5;refine ad ?_;refine K.ki (y:=((o.fl m q+1+e[k].n.toNat:Nat):Int)) ((fu.ext aM).ext aN) b5 (by simp[c4];omega) (fun _=>rfl) j1 (by omega) (by unfold maxLen;omega) (by have:=aM.size;have:=aN.size;omega) fun bm c d cd eR ix=>?_;refine ad ?_;exact⟨cT,bf,(bm,c,d),⟨rfl,trivial⟩,((aF.trans aM).trans aN).grown ix fun i af=>(fu.lt i af).1,by rw[sf,bX];exact eR⟩
 refine ad ?_;apply K.cond<;>intro g6
 ·obtain⟨fv,dV⟩:=mK.len g6;have eA:e[k].n.toNat<m.a7.length:=dV;have bX:o.dI m q (o.oS e k) e[k]=[((o.h3 m e[k].n.toNat:Nat):Int)]:=by unfold o.dI;rw[if_neg g2,if_neg g3,if_neg g4,if_pos g6,o.lJ]
  obtain⟨p5,e9⟩:=o.u3 eA;obtain⟨dG,rfl⟩:=eO.addr (by omega);have amP:=eO.ext Flat.ext eb;refine ad ?_;intro bD aM;refine ad ?_;refine K.dx e[k].n.toNat (by omega) (by omega) ?_;refine ad ?_;intro bQ dY eK aN b5;refine ad ?_;refine K.ki (y:=(o.h3 m e[k].n.toNat:Int)) ((fu.ext aM).ext aN) b5 (by rw[e9];rfl) (fun _=>rfl) j1 (by omega) (by unfold maxLen;omega) (by have:=aM.size;have:=aN.size;omega) fun bm c d cd eR ix=>?_;refine ad ?_;exact⟨cT,bf,(bm,c,d),⟨rfl,trivial⟩,((aF.trans aM).trans aN).grown ix fun i af=>(fu.lt i af).1,by rw[sf,bX];exact eR⟩
 refine ad ?_;apply K.cond<;>intro g7
 ·have bX:o.dI m q (o.oS e k) e[k]=o.lQ m (e[k].n.tdiv 16) (o.insts m).length:=by unfold o.dI;rw[if_neg g2,if_neg g3,if_neg g4,if_neg g6,if_pos g7]
  rw[bX] at sf vD;obtain⟨fv,xK⟩:=mK.at_ g7;have Lj:(e[k].n.tdiv 16).toNat<m.procs.length:=xK;have Lo:=Int.tdiv_nonneg fv (show(0:Int)≤16 by omega);have Ll:=bq.procs;refine ad ?_;refine K.cR 12 (o.insts m).length [2,3,4,5,9,11] (fun v:gf=>[(10,.slice v.1 v.2.1 v.2.2)]) yr (fun j v W=>Ext aY W∧bg c4 T.a 1 aY.heap.size W (.slice v.1 v.2.1 v.2.2) (o.iL m q e k++o.lQ m (e[k].n.tdiv 16) j)) bp bp ⟨aF,by simpa[o.lQ] using fu⟩ ?_;clear bH b3 fu mE;rintro j yr a8 bD aI ⟨aM,eF⟩;have bH:=aM.obj GH;have b3:=aM.obj CN;have hg:=bz.trans aM;have KZ:=e5.ext Flat.ext aM;have z5:=aM.size;refine ad ?_;apply K.cond<;>intro g8
  ·have lE:j<(o.insts m).length:=by omega
   obtain⟨gB,rfl⟩:=e5.addr (by omega);have Kj:=(o.FN bq (e[k].n.tdiv 16) j (by omega)).len;have De:=aH.ext hg;have has:=o.wR (m:=m) (p:=e[k].n.tdiv 16) lE;refine ad ?_;refine K.quo (by omega) ?_;refine ad ?_;intro bQ aN;have kP:=hg.trans aN;replace bH:=aN.obj bH;replace b3:=aN.obj b3;have et:=eF.ext aN;clear De KZ eF;refine ad ?_;apply K.cond<;>intro g9
   ·obtain⟨xD,kl⟩:=o.xT lE;obtain⟨a2,rfl⟩:=fc.addr (by omega);have HP:=fc.ext Flat.ext kP;refine ad ?_;intro cd kX iM bC dq;refine ad ?_;refine K.ki (y:=(o.fl m j:Int)) (et.ext bC) dq (by rw[kl];rfl) (fun _=>rfl) j1 (by rw[List.length_append];omega) (by rw[List.length_append];unfold maxLen;omega) (by have:=aN.size;have:=bC.size;omega) fun bm c d c9 kp vz=>?_;refine ad ?_;refine⟨lE,bf,(bm,c,d),⟨rfl,trivial⟩,?_,?_⟩
    ·exact((aM.trans aN).trans bC).grown vz fun i af=>(et.lt i af).1
    ·rw[has,if_pos g9,o.lJ,←List.append_assoc];exact kp
   ·refine ad ?_;refine⟨lE,bf,yr,⟨rfl,trivial⟩,aM.trans aN,?_⟩;rw[has,if_neg g9,List.append_nil];exact et
  ·have adQ:(o.insts m).length=j:=by omega
   rw[adQ] at sf;refine ad ?_;exact⟨cT,bf,yr,⟨rfl,trivial⟩,aM,by rw[sf];exact eF⟩
 ·have eX:o.dI m q (o.oS e k) e[k]=[]:=by unfold o.dI;rw[if_neg g2,if_neg g3,if_neg g4,if_neg g6,if_neg g7]
  refine ad ?_;exact⟨cT,bf,yr,⟨rfl,trivial⟩,aF,by rw[sf,eX,List.append_nil];exact fu⟩
def Yd(m:o.Model)(ref:Int)(v:Value)(w:World):Prop :=
 (¬o.Told m ref∧v = .tuple #[.int .i64 0,.agg F0.toArray,.bool false]) ∨
 (∃(q p k:Nat) (fV va:Value),o.hf m ref q p k∧v = .tuple #[.int .i64 q,.agg ((o.da m p k).enc fV va).toArray,.bool true]∧o.fY w fV (o.da m p k).guard∧o.oi w va (o.da m p k).cn)
theorem ahD(cs:List Value)(m:o.Model)(ref:Int)(w:World)(h:o.dM w cs m)(aV:m.cG) :
  bw Tryz.prog F.Ed #[.agg cs.toArray,.int .i64 ref] w fun v w'=>Yd m ref v w'∧Ext w w':=by
 have dk:=h;obtain⟨cz,bV,cj,c1,cq,c2,cr,bJ,cC,bW,rfl,ao,h1,U,ah,aJ,eH,dB,dH,ee,ei⟩:=h.form;refine bP E.Ed ?_;refine bM ?_;refine ad ?_;intro aq cp dT aC aK;refine ad ?_;intro aU dX jf aA b3;have pn:=aA.obj aK;have ba:=aC.trans aA;refine ad ?_;refine K.call (MX _ m aU (dk.ext ba) aV) ?_;rintro _ aY ⟨rfl,ax⟩;have bz:=ba.trans ax;replace aK:=ax.obj pn;replace b3:=ax.obj b3;have z5:=cy b3;have akd:=aC.size;clear pn;unfold vj;refine ad ?_;refine K.jd (v:=.int .i64 (o.check m).cM) rfl ?_;refine ad ?_;refine K.cond (fun hk=>?_) (fun hk=>?_);rotate_left
 ·refine ad ?_;intro bo eu bH;refine ad ?_;exact⟨.inl ⟨fun aL=>hk aL.1,bf⟩,eu.ext bz (by omega)⟩
 have bq:=o.mP hk;have dg:=bq.lim;have j6:=o.oV dg;refine ad ?_;apply K.cond<;>intro g1
 ·refine ad ?_;intro bD eU tB;refine ad ?_;exact⟨.inl ⟨fun aL=>by have:=aL.2;omega,bf⟩,eU.ext bz (by omega)⟩
 obtain⟨r,rfl⟩:=Int.eq_ofNat_of_zero_le (show 0≤ref by omega);refine ad ?_;refine K.call (EA _ m aY (dk.ext bz) aV dg) ?_;rintro vr bo ⟨gN,aF⟩;obtain⟨ma,lS,rfl,_⟩:=gN.form;replace aK:=aF.obj aK;replace b3:=aF.obj b3;have bX:=bz.trans aF;clear gN;refine ad ?_;apply K.cond<;>intro g2
 ·refine ad ?_;intro bD eU tB;refine ad ?_;exact⟨.inl ⟨fun aL=>by have:=aL.2;omega,bf⟩,eU.ext bX (by omega)⟩
 have aL:o.Told m r:=⟨hk,by omega,by omega⟩;obtain⟨q,p,k,cv⟩:=o.rX aL;have aR:=cv.at_.af;have aW:=cv.at_.aW;have k1:=cv.at_.hk;have l5:(o.refs m)[r].inst=(q:Int):=cv.at_.uA;have nX:(o.refs m)[r].cmd=(k:Int):=cv.at_.vX;have mD:=cv.at_.ip;refine ad ?_;refine K.call (EA _ m bo (dk.ext bX) aV dg) ?_;rintro vr bD ⟨gN,aM⟩;obtain⟨ma,lS,rfl,_⟩:=gN.form;have q2:bG 2 (Flat o.Ref.enc) bD (.slice ma (o.refs m).length lS) (o.refs m):=bg.fB (enc:=o.Ref.enc) (fun _=>rfl) gN;obtain⟨kW,rfl⟩:=q2.addr (by omega);replace aK:=aM.obj aK;replace b3:=aM.obj b3;have ca:=bX.trans aM;clear gN;refine ad ?_;intro bQ kX iM aN dq;have tj:(o.refs m)[r].enc=[.int .i64 q,.int .i64 k]:=by unfold o.Ref.enc;rw[l5,nX]
 rw[tj] at dq;replace aK:=aN.obj aK;replace b3:=aN.obj b3;have c7:=ca.trans aN;clear q2;obtain⟨a3,rfl⟩:=ah.addr (by omega);obtain⟨mI,cx,eg,dU,eL,fU⟩:=ah.at p aW;obtain⟨En,BM,rfl,DM⟩:=fU.form;obtain⟨ac,rfl⟩:=fU.addr (by omega);obtain⟨fT,fV,va,fS,kn,hM⟩:=fU.at k k1;obtain⟨hq,gl,rfl,_⟩:=kn.form;obtain⟨ur,ta,rfl,_⟩:=hM.form;have tS:=dU.ext c7;have q5:=fS.ext c7;unfold o.dt.enc at tS;unfold o.dL.enc at q5;clear dU fS ao h1 U aJ;refine ad ?_;intro cd bC;replace aK:=bC.obj aK;replace b3:=bC.obj b3;replace dq:=bC.obj dq;replace tS:=tS.ext bC;replace q5:=q5.ext bC;have dw:=c7.trans bC;refine ad ?_;refine K.call (vW _ m cd (dk.ext dw) aV) ?_;rintro cw c9 ⟨fq,bU⟩;obtain⟨dd,ci,rfl,_⟩:=fq.form;have e5:jX c9 (.slice dd (o.insts m).length ci) (o.insts m):=bg.fB (enc:=o.cU.enc) (fun _=>rfl) fq;obtain⟨gB,rfl⟩:=e5.addr (by omega);clear fq;refine⟨bU,?_⟩;refine ad ?_;refine⟨bU,?_⟩;refine ad ?_;refine K.dx p (by rw[mD]) aW ?_;refine ad ?_;refine⟨bU,?_⟩;refine ad ?_;refine⟨bU,?_⟩;replace b3:=bU.obj b3;refine ad ?_;intro dF hp dm;refine ad ?_;have eX:Ext w c9:=dw.trans bU;have gu:Ext w dF:=hp.ext eX (by omega);have nU:=o.w2 aW k1;refine⟨.inr ⟨q,p,k,.slice hq (o.da m p k).guard.length gl,.slice ur (o.da m p k).cn.length ta,cv,by rw[nU];rfl,?_,?_⟩,gu⟩
 ·rw[nU];exact kn.ext gu
 ·rw[nU];exact hM.ext gu
end Go.Proofs.R
end