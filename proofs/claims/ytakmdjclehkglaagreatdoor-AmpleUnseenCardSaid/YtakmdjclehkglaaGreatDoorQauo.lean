/- Parts. -/
import Derived.Test.YtakmdjclehkglaaGreatDoorQaun
import Derived.Shelf.SlSortCmp.WholeK
import Derived.Shelf.SlSortCmp.NoneTotal
set_option linter.all false
set_option maxRecDepth 8000
set_option maxHeartbeats 16000000
section
namespace o
open Go
theorem Ut{s:Scope}:∀(l:C_ Act) (i:Nat) (t:Bool),(kC s l i t).2=0->∀k (h:k<l.length),kg l[k] s=0
 | [],_,_,_,k,h=>by simp at h
 | a :: r,i,t,h,k,hk=>by
  unfold kC at h;by_cases h1:(hX a&&t)=true
  .rw[if_pos h1] at h;cases h
  rw[if_neg h1] at h;by_cases I:kg a s≠0
  .rw[if_pos I] at h;exact absurd h I
  rw[if_neg I] at h;cases k with
  | zero=>simpa using I
  | succ k=>exact Ut r _ _ h k (by simpa using hk)
structure acz(m:Model)(p:Nat)(c:dI):Prop where
 act:∀k (h:k<c.bY.length),∀ar:p<m.procs.length,kg c.bY[k] (inner m.procs[p] (ey m))=0
 to:∀ar:p<m.procs.length,0<=c.to/\c.to<m.procs[p].b8
theorem aeT{m:Model}(h:(check m).cA=0){p k:Nat}(ar:p<m.procs.length)(hk:k<m.procs[p].cL.length):acz m p m.procs[p].cL[k]:=by
 obtain⟨dZ,_,_⟩:=Kq (Mf h);obtain⟨_,cC,_,_⟩:=Bd ar (dZ p ar);obtain⟨_,_,hI⟩:=Qa cC;have e:hi m (p:Int)=inner m.procs[p] (ey m):=by
  unfold hi;rw[ja (by omega) (by omega)];rfl
 have aY:=(GY _ _ hI k hk).1;rw[e] at aY;unfold jg at aY;by_cases h1:head m.procs[p].cL[k] m.procs[p].b8≠0
 .rw[if_pos h1] at aY;exact absurd aY h1
 rw[if_neg h1] at aY;have aY:(kC (inner m.procs[p] (ey m)) m.procs[p].cL[k].bY 0 false).2=0:=by
  split at aY
  .rename_i cU;exact absurd aY cU.2
  .exact aY
 refine⟨fun j aE _=>Ut _ _ _ aY j aE,fun _=>?_⟩;have h1:head m.procs[p].cL[k] m.procs[p].b8=0:=by simpa using h1
 unfold head at h1;by_cases cV:isName m.procs[p].cL[k].name=false
 .rw[if_pos cV] at h1;cases h1
 rw[if_neg cV] at h1;by_cases dq:m.procs[p].cL[k].from_<0\/m.procs[p].b8<=m.procs[p].cL[k].from_\/m.procs[p].cL[k].to<0\/m.procs[p].b8<=m.procs[p].cL[k].to
 .rw[if_pos dq] at h1;cases h1
 omega
theorem YU{m:Model}:∀(l:C_ dz) (i:Nat),l=m.procs.drop i->∀x∈jD m l i,∃(p:Nat) (h:p<m.procs.length),x.proc=p/\(m.procs[p].over≠0->x.elem<=elems m m.procs[p])
 | [],_,_,x,ag=>by simp[jD] at ag
 | p :: r,i,h,x,ag=>by
  have U:i<m.procs.length:=by
   apply Classical.byContradiction;intro ay;rw[List.drop_eq_nil_of_le (by omega)] at h;cases h
  rw[List.drop_eq_getElem_cons U] at h;injection h with h1 I
  simp only[jD,List.mem_append] at ag;rcases ag with (ag | ag) | ag
  .unfold jb at ag;split at ag
   .rename_i af;rw[List.mem_singleton] at ag;subst ag;exact⟨i,U,rfl,fun ay=>absurd (h1 ▸ af) ay⟩
   .cases ag
  .unfold jF at ag;obtain⟨k,hk,rfl⟩:=List.mem_map.1 ag
   have:=List.mem_range.1 hk
   refine⟨i,U,rfl,fun _=>?_⟩;rw[<-h1];simp only;omega
  .exact YU r (i+1) I x ag
theorem fI.amc{m:Model}{q p:Nat}(h:fI m q p):(m.procs[p]'(h.ar)).over≠0->((insts m)[q]'(h.au)).elem<=elems m (m.procs[p]'(h.ar)):=by
 obtain⟨gz,Yk,e,h1⟩:=YU m.procs 0 (by simp) _ (List.getElem_mem h.au);have I:=h.eq;have aI:((gz:Nat):Int)=p:=by
  have:((insts m)[q]'(h.au)).proc=(gz:Int):=e
  rw[<-this,I]
 have:gz=p:=by omega
 subst this;exact h1
theorem afw{m:Model}{p:dz}(h:elems m p≠0):(elems m p:Int)=size p.over m.scalars:=by
 unfold elems at h ⊢;cases ay:nth m.scalars (p.over - 1) with
 | none=>rw[ay] at h;exact absurd rfl h
 | some x =>
  rw[ay] at h;obtain⟨af,h1,_⟩:=wu ay;simp only at h ⊢;unfold size;rw[h1];split at h
  .exact absurd rfl h
  .rename_i cU;rw[if_neg cU];simp only;rw[if_pos (by omega)];omega
theorem ald{x:Node}{s:Scope}(h:x.op=5)(h1:1<=s.self/\s.self<=s.scalars.length):kind [x] s=(1+s.self,0):=by
 have ay:fc x.op=0:=by rw[h];decide
 have ax:fk s x []=(1+s.self,0):=by
  unfold fk;rw[h];simp[gQ,iY,mc,h,h1]
 unfold kind kV eZ;simp only[List.length_singleton,stepG,ay,ax];simp[eZ]
theorem ac9{m:Model}{p:Nat}(ar:p<m.procs.length){a:Act}(h:kg a (inner m.procs[p] (ey m))=0)(I:a.kind=2)(an:r8 a=true):∃v,m.vars[a.to.toNat]? = some v/\v.over=m.procs[p].over:=by
 obtain⟨x,ag,aY⟩:∃x,a.index=[x]/\x.op=5:=by
  unfold r8 at an;split at an
  .rename_i x ag;exact⟨x,ag,by simpa using an⟩
  .cases an
 have e9:=LK h;have I0:=((e9.item I).2.2.node 0 (by rw[ag];simp)).1.self (by simp[ag,aY]);unfold kg at h;rw[if_pos (by omega)] at h;rw[if_neg (by omega:¬a.kind=3)] at h;cases a6:declared (inner m.procs[p] (ey m)).vars a.to (inner m.procs[p] (ey m)) with
 | none=>rw[a6] at h;cases h
 | some yg =>
  rw[a6] at h;obtain⟨v,k⟩:=yg;obtain⟨_,d2,_⟩:=Mu a6;simp only at h;by_cases ab:(v.over≠0)≠(a.kind=2)
  .rw[if_pos ab] at h;cases h
  rw[if_neg ab] at h;by_cases aD:a.kind=2/\asked a.index (1+v.over) (inner m.procs[p] (ey m))≠0
  .rw[if_pos aD] at h;exact absurd h aD.2
  have bx:asked a.index (1+v.over) (inner m.procs[p] (ey m))=0:=Classical.byContradiction fun ay=>aD ⟨I,ay⟩;refine⟨v,d2,?_⟩;unfold asked at bx;rw[ag,ald aY I0] at bx;simp only[ne_eq,not_true_eq_false,if_false] at bx;split at bx
  .cases bx
  .rename_i cU
   have:(inner m.procs[p] (ey m)).self=m.procs[p].over:=rfl
   omega
theorem ak2{m:Model}{q p:Nat}(a8:fI m q p){v:Nat}(aG:v<m.vars.length){own:Bool}(aM:own=true->m.vars[v].over=(m.procs[p]'(a8.ar)).over/\(m.procs[p]'(a8.ar)).over≠0):∀x∈pq m q v own,0<=x/\x<dW m:=fun x ag=>by
 have h1:=tz aG;have I:=s7 aG;have ab:=nR m;unfold pq at ag;cases own with
 | false =>
  rw[if_neg (by simp)] at ag
  have:=oN.1 ag
  omega
 | true =>
  obtain⟨bO,bV⟩:=aM rfl;rw[if_pos rfl] at ag;have ag:=oN.1 ag;have bt:=a8.elem bV;have aI:=a8.amc bV;have ba:=afw (m:=m) (p:=m.procs[p]'(a8.ar)) (by omega);have bG:=Dz a8.au;have bU:cells m.vars[v] m.scalars=size (m.procs[p]'(a8.ar)).over m.scalars:=by unfold cells;rw[if_neg (by omega),bO]
  omega
theorem ac7{m:Model}{q p:Nat}(a8:fI m q p){a:Act}(dK:kg a (inner (m.procs[p]'(a8.ar)) (ey m))=0):∀x∈nP m q a,0<=x/\x<dW m:=fun x ag=>by
 have aV:=LK dK;have rT:=a8.room;have ab:=nR m;unfold nP at ag;by_cases h1:a.kind=1
 .rw[if_pos h1] at ag;obtain⟨_,v,aG,jm⟩:=aV.set h1;have ll:a.to.toNat<m.vars.length:=(List.getElem?_eq_some_iff.1 aG).1;have gP:m.vars[a.to.toNat]=v:=(List.getElem?_eq_some_iff.1 aG).2
  have:=tz ll
  have e:cells m.vars[a.to.toNat] m.scalars=1:=by rw[gP];unfold cells;rw[if_pos jm]
  have:=oN.1 ag
  omega
 rw[if_neg h1] at ag;by_cases I:a.kind=2
 .rw[if_pos I] at ag;have ll:a.to.toNat<m.vars.length:=(aV.item I).2.1;refine ak2 a8 ll (fun an=>?_) x ag;obtain⟨v,aG,aM⟩:=ac9 a8.ar dK I an;obtain⟨_,gP⟩:=List.getElem?_eq_some_iff.1 aG;obtain⟨y,bS,aY⟩:∃y,a.index=[y]/\y.op=5:=by
   unfold r8 at an;split at an
   .rename_i y bS;exact⟨y,bS,by simpa using an⟩
   .cases an
  have I0:=((aV.item I).2.2.node 0 (by rw[bS];simp)).1.self (by simp[bS,aY])
  have:(inner (m.procs[p]'(a8.ar)) (ey m)).self=(m.procs[p]'(a8.ar)).over:=rfl
  exact⟨by rw[gP];exact aM,by omega⟩
 rw[if_neg I] at ag;by_cases zd:a.kind=3
 .rw[if_pos zd] at ag;have aY:a.to.toNat<(m.procs[p]'(a8.ar)).vars.length:=(aV.loc zd).2
  have:=oN.1 ag
  omega
 rw[if_neg zd] at ag;by_cases aD:a.kind=4
 .rw[if_pos aD] at ag
  have:=o5 (m:=m) (aV.chan (.inl aD)).2
  have:=oN.1 ag
  omega
 rw[if_neg aD] at ag;by_cases aY:a.kind=5
 .rw[if_pos aY] at ag;have bx:a.loc.toNat<(m.procs[p]'(a8.ar)).vars.length:=(aV.recv aY).2
  have:=o5 (m:=m) (aV.chan (.inr aY)).2
  rcases List.mem_append.1 ag with ag | ag
  .have:=oN.1 ag;omega
  .have:=oN.1 ag;omega
 .rw[if_neg aY] at ag;cases ag
theorem arb{m:Model}{ref:Int}{q p k:Nat}(bC:eM m ref q p k):∀x∈nB m q (bI m p k) (bI m p k).bY.length,0<=x/\x<dW m:=fun x ag=>by
 have a8:=bC.inst;have Ye:=aeT bC.ok bC.at_.ar bC.at_.hk;rw[<-xl bC.at_.ar bC.at_.hk] at Ye;have rT:=a8.room;unfold nB at ag;rw[List.take_length] at ag;rcases List.mem_append.1 ag with ag | ag
 .have:=oN.1 ag;omega
 .obtain⟨a,aV,O8⟩:=List.mem_flatMap.1 ag;obtain⟨j,aE,rfl⟩:=List.mem_iff_getElem.1 aV;exact ac7 a8 (Ye.act j aE a8.ar) x O8
theorem aqW(c:dI)(l:C_ dv):0<ways c l:=by
 unfold ways;split
 .split
  .split<;>omega
  .omega
 .omega
theorem Mg{m:Model}(h:(check m).cA=0):(data m).cA=0/\(me m).cA=0/\(pr m).cA=0:=by
 unfold check at h;by_cases h1:(data m).cA≠0
 .rw[if_pos h1] at h;exact absurd h h1
 rw[if_neg h1] at h;by_cases I:(me m).cA≠0
 .rw[if_pos I] at h;exact absurd h I
 rw[if_neg I] at h;exact⟨by simpa using h1,by simpa using I,h⟩
def qY:C_ Bool->Nat
 | []=>0
 | b :: r=>b.toNat+2*qY r
theorem PK:∀l:C_ Bool,qY l<2 ^ l.length
 | []=>Nat.one_pos
 | b :: r=>by
  have eS:=PK r;have ak:b.toNat<=1:=by cases b<;>decide
  simp only[qY,List.length_cons,Nat.pow_succ];omega
theorem PJ:∀(l:C_ Bool) (b:Bool),qY (l++[b])=qY l+b.toNat*2 ^ l.length
 | [],b=>by simp[qY]
 | c :: r,b=>by
  have eS:=PJ r b;simp only[List.cons_append,qY,eS,List.length_cons,Nat.pow_succ];rw[Nat.mul_add,<-Nat.mul_assoc,Nat.mul_comm (b.toNat) (2 ^ r.length*2),Nat.mul_comm (2*b.toNat),Nat.mul_comm (2 ^ r.length) 2];rw[Nat.mul_comm 2 (2 ^ r.length),Nat.mul_assoc,<-Nat.add_assoc]
theorem al2(l:C_ Bool):qY l ||| 2 ^ l.length=qY (l++[true]):=by
 rw[PJ,Nat.or_comm];have h:=Nat.two_pow_add_eq_or_of_lt (PK l) 1;rw[Nat.mul_one] at h;rw[<-h];simp[Nat.add_comm]
theorem al3(l:C_ Bool):qY l=qY (l++[false]):=by rw[PJ];simp
def Af(m:Model)(s:C_ Int)(e:C_ Node):Bool:=decide ((eval e (cr m s (-1))).2=0/\(eval e (cr m s (-1))).1≠0)
def wH(m:Model)(s:C_ Int):C_ Bool:=m.props.map fun p=>Af m s p.expr
def told(m:Model)(s:C_ Int):Nat:=qY (wH m s)
def ra(m:Model)(s:C_ Int)(k:Nat):Nat:=qY ((wH m s).take k)
theorem abM(m:Model)(s:C_ Int):(wH m s).length=m.props.length:=by simp[wH]
theorem aqg(m:Model)(s:C_ Int):ra m s m.props.length=told m s:=by
 unfold ra told;rw[List.take_of_length_le (by rw[abM];exact Nat.le_refl _)]
theorem abP{m:Model}{s:C_ Int}{k:Nat}(h:k<m.props.length):ra m s (k+1)=if Af m s m.props[k].expr then ra m s k ||| 2 ^ k else ra m s k:=by
 have aF:k<(wH m s).length:=by rw[abM];exact h
 have hk:((wH m s).take k).length=k:=by rw[List.length_take];omega
 have aK:(wH m s)[k]=Af m s m.props[k].expr:=by simp[wH]
 unfold ra;rw[List.take_succ_eq_append_getElem aF,aK];cases Af m s m.props[k].expr with
 | true =>
  rw[if_pos rfl,<-al2,hk]
 | false =>
  rw[if_neg (by simp),<-al3]
theorem aqh(m:Model)(s:C_ Int)(k:Nat):ra m s k<2 ^ k:=by
 refine Nat.lt_of_lt_of_le (PK _) (Nat.pow_le_pow_right (by decide) ?_);rw[List.length_take];omega
noncomputable def qa(m:Model)(s:C_ Int):Nat×Int:=open Classical in if (check m).cA≠0 then (0,2) else if Fits m s then (told m s,0) else (0,3)
theorem aat{m:Model}(h:(check m).cA=0):m.props.length<=8:=by
 obtain⟨_,_,ab⟩:=Mg h;have aL:=Kr ab;refine Classical.byContradiction fun ay=>?_;have dC:=aL 8 (by omega);rw[DF (by omega),if_pos (by omega)] at dC;cases dC
theorem Qc{m:Model}(h:(check m).cA=0){j:Nat}(aE:j<m.props.length):sg (ey m) m.props[j].expr:=by
 obtain⟨_,_,ab⟩:=Mg h;have dC:=Kr ab j aE;rw[DF aE] at dC;refine Zk (Classical.byContradiction fun ay=>?_)
 repeat' split at dC
 all_goals first | omega | (exact absurd dC ay) | skip
 all_goals contradiction
theorem alq{m:Model}{s:C_ Int}(h:¬(check m).cA=0):qa m s=(0,2):=by unfold qa;rw[if_pos h]
theorem alr{m:Model}{s:C_ Int}(h:(check m).cA=0)(ax:¬Fits m s):qa m s=(0,3):=by unfold qa;rw[if_neg (by simpa using h),if_neg ax]
theorem Pu{m:Model}{s:C_ Int}(h:(check m).cA=0)(ax:Fits m s):qa m s=(told m s,0):=by unfold qa;rw[if_neg (by simpa using h),if_pos ax]
theorem aqk{m:Model}{s t:C_ Int}(h:(check m).cA=0)(aV:∀p∈m.props,ri s t (yf m p.expr)):told m s=told m t:=by
 unfold told wH;congr 1;refine List.map_congr_left fun p ar=>?_;obtain⟨j,aE,rfl⟩:=List.mem_iff_getElem.1 ar;unfold Af;rw[afQ (sc:=ey m) rfl (Qc h aE) (aV _ ar)]
def qe(m:Model):C_ Int:=m.props.flatMap fun p=>yf m p.expr
def oc(m:Model):C_ Bool:=if (check m).cA=0 then (List.range (dW m)).map fun(c:Nat)=>decide ((c:Int)∈qe m) else []
structure ov(n:Nat)(L:List Int)(ad:List Bool):Prop where
 len:ad.length=n
 at_:∀(c:Nat) (h:c<ad.length),ad[c]=decide ((c:Int)∈L)
theorem ov.start(n:Nat):ov n [] (List.replicate n false):=⟨by simp,fun c h=>by simp⟩
theorem ov.put{n c:Nat}{L:C_ Int}{ad:C_ Bool}(h:ov n L ad)(ah:c<n):ov n (L++[(c:Int)]) (ad.set c true):=by
 refine⟨by rw[List.length_set];exact h.len,fun d a6=>?_⟩;rw[List.length_set] at a6;rw[List.getElem_set];by_cases e:c=d
 .subst e;simp
 .rw[if_neg e,h.at_ d a6]
  have:¬(d:Int)=(c:Int):=by omega
  simp[this]
theorem ov.congr{n:Nat}{L mT:C_ Int}{ad:C_ Bool}(h:ov n L ad)(e:∀x,x∈L↔x∈mT):ov n mT ad:=⟨h.len,fun c ah=>by rw[h.at_ c ah];exact decide_eq_decide.2 (e _)⟩
theorem ov.eq{n:Nat}{L:C_ Int}{ad o':C_ Bool}(h:ov n L ad)(bd:ov n L o'):ad=o':=by
 refine List.ext_getElem (by rw[h.len,bd.len]) fun c h1 I=>by rw[h.at_ c h1,bd.at_ c I]
theorem ov.apm{m:Model}{ad:C_ Bool}(hk:(check m).cA=0)(h:ov (dW m) (qe m) ad):ad=oc m:=by
 unfold oc;rw[if_pos hk];exact h.eq ⟨by simp,fun c ah=>by simp⟩
def je(a b:C_ Int):Prop := ∃x,x∈a/\x∈b
instance(a b:C_ Int):Decidable (je a b):=decidable_of_iff (a.any (fun x=>b.contains x)=true) (by simp[je,List.any_eq_true])
theorem je.comm{a b:C_ Int}:je a b↔je b a:=⟨fun⟨x,h1,I⟩=>⟨x,I,h1⟩,fun⟨x,h1,I⟩=>⟨x,I,h1⟩⟩
theorem je.amq(b:C_ Int):¬je [] b:=fun⟨_,h,_⟩=>by cases h
theorem je.amr(a:C_ Int):¬je a []:=fun⟨_,_,h⟩=>by cases h
theorem anV{a:C_ Int}(aV:a.Pairwise (· < ·)){i:Nat}(h:i<a.length):∀x∈a.drop i,a[i]<=x:=fun x ag=>by
 rw[List.drop_eq_getElem_cons h] at ag;rcases List.mem_cons.1 ag with e | e
 .omega
 .have ar:=aV.sublist (List.drop_sublist i a);rw[List.drop_eq_getElem_cons h,List.pairwise_cons] at ar
  have:=ar.1 x e
  omega
theorem abV{a b:C_ Int}(ak:b.Pairwise (· < ·)){i k:Nat}(h1:i<a.length)(I:k<b.length)(h:a[i]<b[k]):je (a.drop i) (b.drop k)↔je (a.drop (i+1)) (b.drop k):=by
 constructor
 .rintro⟨x,cC,cS⟩;rw[List.drop_eq_getElem_cons h1] at cC;rcases List.mem_cons.1 cC with e | e
  .have:=anV ak I x cS;omega
  .exact⟨x,e,cS⟩
 .rintro⟨x,cC,cS⟩;exact⟨x,by rw[List.drop_eq_getElem_cons h1];exact List.mem_cons_of_mem _ cC,cS⟩
theorem FQ{a b:C_ Int}(aV:a.Pairwise (· < ·)){i k:Nat}(h1:i<a.length)(I:k<b.length)(h:b[k]<a[i]):je (a.drop i) (b.drop k)↔je (a.drop i) (b.drop (k+1)):=by
 rw[je.comm,abV aV I h1 h,je.comm]
theorem aqn{a b:C_ Int}{i k:Nat}(h1:i<a.length)(I:k<b.length)(h:a[i]=b[k]):je (a.drop i) (b.drop k) :=
 ⟨a[i],by rw[List.drop_eq_getElem_cons h1];exact List.mem_cons_self ..,by rw[List.drop_eq_getElem_cons I,h];exact List.mem_cons_self ..⟩
theorem aqo{a b:C_ Int}{i k:Nat}(h:¬(i<a.length/\k<b.length)):¬je (a.drop i) (b.drop k):=by
 by_cases h1:i<a.length
 .have e:b.drop k=[]:=List.drop_eq_nil_of_le (by omega);rw[e];exact je.amr _
 .have e:a.drop i=[]:=List.drop_eq_nil_of_le (by omega);rw[e];exact je.amq _
def sj(r w hj w':C_ Int):Prop:=je w w'\/je w hj\/je r w'
instance(r w hj w':C_ Int):Decidable (sj r w hj w'):=inferInstanceAs (Decidable (_\/_\/_))
end o
end
section
namespace Go.Proofs.R
open Go Go.RowKit bb
theorem FQ(ea ly:B_)(a b:C_ Int)(w:A_)(aV:ee w ea a)(ak:ee w ly b)(tm:a.Pairwise (· < ·))(r3:b.Pairwise (· < ·)) :
  a7 Tryz.prog F.dl #[ea,ly] w fun v w'=>v = .bool (decide (o.je a b))/\Ext w w':=by
 obtain⟨aQ,fD,rfl,p9⟩:=aV.form;obtain⟨zW,yX,rfl,hJ⟩:=ak.form;refine bn E.dl ?_;refine aa ?_;refine _W [0,1] (fun x:Nat×Nat=>[(5,.int .i64 x.1),(6,.int .i64 x.2)]) (0,0) (fun x W=>Ext w W/\x.1<=a.length/\x.2<=b.length/\(o.je a b↔o.je (a.drop x.1) (b.drop x.2))) (fun x=>(a.length - x.1)+(b.length - x.2)) bc ⟨Ext.refl _,Nat.zero_le _,Nat.zero_le _,Iff.rfl⟩ ?_;rintro⟨i,k⟩ S w1 ⟨al,U,hk,hm⟩;dsimp only at U hk hm ⊢;have no:¬(i<a.length/\k<b.length)->decide (o.je a b)=false:=fun h=>decide_eq_false (by rw[hm];exact o.aqo h);refine aa ?_;apply I_<;>intro g1;rotate_left
 .refine aa ?_;exact⟨by rw[no (by omega)],al⟩
 refine aa ?_;apply I_<;>intro g2;rotate_left
 .refine aa ?_;exact⟨by rw[no (by omega)],al⟩
 have p0:i<a.length:=by omega
 have cH:k<b.length:=by omega
 obtain⟨o1,rfl⟩:=aV.addr;obtain⟨pM,rfl⟩:=ak.addr;have W6:=aV.ext Flat.ext al;have cT:=ak.ext Flat.ext al;refine aa ?_;intro aH ao;have aI:=al.trans ao;refine aa ?_;apply I_<;>intro g3
 .have yes:decide (o.je a b)=true:=decide_eq_true (by rw[hm];exact o.aqn p0 cH g3);refine aa ?_;exact⟨by rw[yes],aI⟩
 have ar8:=W6.ext Flat.ext ao;have dt:=cT.ext Flat.ext ao;clear W6 cT;refine aa ?_;intro aP aj;have ba:=aI.trans aj;refine aa ?_;apply I_<;>intro g4
 .refine aa ?_;exact⟨(i+1,k),⟨aU,aU,trivial⟩,⟨ba,by simp only;omega,hk,hm.trans (o.abV r3 p0 cH g4)⟩,by simp only;omega⟩
 .refine aa ?_;exact⟨(i,k+1),⟨aU,aU,trivial⟩,⟨ba,U,by simp only;omega,hm.trans (o.FQ tm p0 cH (by omega))⟩,by simp only;omega⟩
theorem amT(v1 v2 v3 v4:B_)(a b cD gL:C_ Int)(w:A_)(h1:ee w v1 a)(I:ee w v2 b)(ab:ee w v3 cD)(aD:ee w v4 gL)(tm:a.Pairwise (· < ·))(r3:b.Pairwise (· < ·))(ans:cD.Pairwise (· < ·))(aan:gL.Pairwise (· < ·)) :
  a7 Tryz.prog F.mW #[.agg #[v1,v2],.agg #[v3,v4]] w fun v w'=>v = .bool (decide (o.sj a b cD gL))/\Ext w w':=by
 obtain⟨bO,c1,rfl,_⟩:=h1.form;obtain⟨bV,c2,rfl,_⟩:=I.form;obtain⟨b2,br,rfl,_⟩:=ab.form;obtain⟨cj,bF,rfl,_⟩:=aD.form;refine bn E.mW ?_;refine aa ?_;intro w1 bR dt al av;refine aa ?_;intro aH b0 fW ao bu;replace av:=ao.obj av;have aI:=al.trans ao;refine aa ?_;refine J_ (FQ _ _ b gL aH (I.ext Flat.ext aI) (aD.ext Flat.ext aI) r3 aan) ?_;rintro _ aP ⟨rfl,aj⟩;have ba:=aI.trans aj;replace av:=aj.obj av;replace bu:=aj.obj bu;refine aa ?_;apply I_<;>intro g1
 .have yes:decide (o.sj a b cD gL)=true:=decide_eq_true (.inl g1);refine aa ?_;exact⟨by rw[yes],ba⟩
 refine aa ?_;refine J_ (FQ _ _ b cD aP (I.ext Flat.ext ba) (ab.ext Flat.ext ba) r3 ans) ?_;rintro _ aR ⟨rfl,aA⟩;have bG:=ba.trans aA;replace av:=aA.obj av;replace bu:=aA.obj bu;refine aa ?_;apply I_<;>intro g2
 .have yes:decide (o.sj a b cD gL)=true:=decide_eq_true (.inr (.inl g2));refine aa ?_;exact⟨by rw[yes],bG⟩
 refine aa ?_;refine J_ (FQ _ _ a gL aR (h1.ext Flat.ext bG) (aD.ext Flat.ext bG) tm aan) ?_;rintro _ bq ⟨rfl,aJ⟩;have bU:=bG.trans aJ;have last:decide (o.sj a b cD gL)=decide (o.je a gL):=decide_eq_decide.2 ⟨fun h=>h.elim (fun h=>absurd h g1) fun h=>h.elim (fun h=>absurd h g2) id,fun h=>.inr (.inr h)⟩;refine aa ?_;exact⟨by rw[last],bU⟩
end Go.Proofs.R
end
section
namespace o
open Go
structure mV(m:Model)(n:Nat)(L:List (List Int×List Int)):Prop where
 len:L.length=n
 is:∀i (h:i<L.length),kf m i L[i].1 L[i].2
theorem mV.nil(m:Model):mV m 0 []:=⟨rfl,fun i h=>absurd h (Nat.not_lt_zero _)⟩
theorem mV.snoc{m:Model}{n:Nat}{L:C_ (C_ Int×C_ Int)}{a b:C_ Int}(h:mV m n L)(aL:kf m n a b):mV m (n+1) (L++[(a,b)]):=by
 refine⟨by rw[List.length_append,h.len];rfl,fun i U=>?_⟩;by_cases e:i<L.length
 .rw[List.getElem_append_left e];exact h.is i e
 .have aI:i=L.length:=by simp at U;omega
  subst aI;rw[List.getElem_append_right (Nat.le_refl _)];simp only[Nat.sub_self,List.getElem_cons_zero];rw[h.len];exact aL
theorem mV.eq{m:Model}{n:Nat}{L mT:C_ (C_ Int×C_ Int)}(h:mV m n L)(bd:mV m n mT):L=mT:=by
 refine List.ext_getElem (h.len.trans bd.len.symm) fun i h1 I=>?_;obtain⟨bt,aI⟩:=(h.is i h1).eq (bd.is i I);exact Prod.ext bt aI
end o
namespace Go.Proofs.R
open Go Go.RowKit bb
def F5(w:A_)(cs:C_ B_)(x:C_ Int×C_ Int):Prop := ∃v1 v2,cs=[v1,v2]/\ee w v1 x.1/\ee w v2 x.2
def TL(w:A_)(a:Addr)(x:C_ Int×C_ Int):Prop := ∃v1 v2,e0 w a [v1,v2]/\ee w v1 x.1/\ee w v2 x.2
theorem aaa{w:A_}{v:B_}{l:C_ Int}(h:ee w v l):v.oneCell'=true:=by
 obtain⟨ad,c,rfl,_⟩:=h.form;rfl
instance:Rel TL F5 2 where
 out:=fun⟨v1,v2,h,h1,I⟩=>⟨_,h,v1,v2,rfl,h1,I⟩
 n1:=fun h ⟨v1,v2,e,h1,I⟩=>⟨v1,v2,e ▸ h,h1,I⟩
 len:=fun⟨v1,v2,e,_⟩=>by rw[e];rfl
 one:=fun⟨v1,v2,e,h1,I⟩ u hu=>by
  rw[e] at hu;simp only[List.mem_cons,List.not_mem_nil,or_false] at hu;rcases hu with rfl | rfl
  .exact aaa h1
  .exact aaa I
 ext:=fun he ⟨v1,v2,e,h1,I⟩=>⟨v1,v2,e,h1.ext Flat.ext he,I.ext Flat.ext he⟩
theorem Z4{w w1:A_}{v:B_}{l:C_ Int}(h:aW cR T.a 1 w.heap.size w1 v l):eD w (fun W=>ee W v l) w1:=fun W m =>
 aW.iv (enc:=cR) (fun _=>rfl) (aW.mod h m fun k hk a=>by have:=(aW.lt h k hk).1;omega)
theorem aqC(cs:C_ B_)(m:o.Model)(w:A_)(h:o.dV w cs m)(aK:m.cN)(aM:gB w)(cI:o.w2 m) :
  a7 Tryz.prog F.a4 #[.agg cs.toArray] w fun v w'=>(∃L base,o.mV m (o.refs m).length L/\w.heap.size<=base/\base<=w'.heap.size/\eO F5 T.UK 2 base w' v L)/\Ext w w':=by
 have dw:=h;obtain⟨cd,bw,bO,c1,bV,c2,b2,br,cj,bF,rfl,_⟩:=h.form;have kr:=o.yh cI;refine bn E.a4 ?_;refine aa ?_;intro w1 bo cT al ai;refine aa ?_;refine J_ (yi _ m w1 (dw.ext al) cI) ?_;rintro lS aH ⟨n0,ao⟩;obtain⟨gR,pP,rfl,_⟩:=n0.form;replace ai:=ao.obj ai;have aI:=al.trans ao;have z2:=aI.size;clear n0;refine aa ?_;refine L_ 10 (o.refs m).length [1,9] (fun u:B_=>[(3,u)]) (.slice none 0 0) (fun k u W => ∃L,o.mV m k L/\eO F5 T.UK 2 aH.heap.size W u L/\Ext aH W) bc bc ⟨[],o.mV.nil m,eO.nil _ _ _ _ _,Ext.refl _⟩ ?_;rintro k u S aP hk ⟨L,k8,bE,aj⟩;have ba:=aI.trans aj;have kL:=aj.obj ai;refine aa ?_;apply I_<;>intro g1;rotate_left
 .have kq:k=(o.refs m).length:=by omega
  rw[kq] at k8;refine aa ?_;exact⟨⟨L,_,k8,z2,aj.size,bE⟩,ba⟩
 have cH:k<(o.refs m).length:=by omega
 have ahV:=k8.len;obtain⟨Ca,rz,rfl,_⟩:=bE.form;refine aa ?_;refine J_ (Tj _ m k aP (dw.ext ba) aK (aM.ext ba)) ?_;rintro _ aR ⟨⟨ea,ly,a,b,rfl,iX,Oo,Br⟩,aA⟩;have ay:=((Z4 iX).and (Z4 Oo)).imp (q:=fun W=>F5 W [ea,ly] (a,b)) fun W h=>⟨ea,ly,rfl,h.1,h.2⟩;obtain⟨aQ,fD,rfl,_⟩:=iX.form;obtain⟨zW,yX,rfl,_⟩:=Oo.form;have z3:=aj.size;have z4:=aA.size;clear iX Oo;refine aa ?_;intro bq LW k9 aJ cc;have z5:=aJ.size;have DW:=(bE.ext aA).ext aJ;refine aa ?_;refine _Y DW (hA cc) ((eD.ext ay aJ z4).own bE z3) rfl (by simp[Value.oneCell']) (by omega) (by unfold maxLen;omega) (by omega) fun b9 bB tX jA=>?_;have aT:=DW.mw ((aj.trans aA).trans aJ) jA (Nat.le_refl _);refine aa ?_;exact⟨cH,aU,_,⟨rfl,trivial⟩,_,k8.snoc Br,tX,aT⟩
end Go.Proofs.R
end
section
namespace o
open Go
def LC(s:Scope)(x:Node):Prop:=x.op=3->∃v,s.vars[x.n.toNat]? = some v/\v.over≠0
theorem alG{s:Scope}{x:Node}{top:Int}(h:(iY x s top).2=0):LC s x:=by
 intro ba;unfold iY at h;rw[if_neg (by omega),if_pos (by omega)] at h;simp only at h;by_cases au:(fY (if x.op=4 then s.locals else s.vars) x.n s).2.2=false
 .rw[if_pos au] at h;cases h
 rw[if_neg au] at h;obtain⟨v,cC,cS,eT,hI,B0,B1⟩:=Zu (by simpa using au);obtain⟨bO,bV,b2⟩:=Zm B1;rw[hI] at h;simp only at h;by_cases ab:(x.op=3/\((hv v.over s).1=0\/top≠(hv v.over s).1))\/(x.op≠3/\(hv v.over s).1≠0)
 .rw[if_pos ab] at h;cases h
 .refine⟨v,?_,fun af=>ab (.inl ⟨ba,.inl ?_⟩)⟩
  .rw[if_neg (by omega)] at cS;exact cS
  .rw[b2,if_pos af]
theorem alc{e:C_ Node}{s:Scope}(h:(kind e s).2=0):∀k (hk:k<e.length),LC s e[k]:=by
 unfold kind kV at h;by_cases h1:e.length > 24
 .rw[if_pos h1] at h;cases h
 rw[if_neg h1] at h;by_cases I:e.length=0
 .exact fun k hk=>by omega
 rw[if_neg I] at h;by_cases ab:(eZ (fk s) e []).1≠0
 .rw[if_pos ab] at h;exact absurd h ab
 have ab:(eZ (fk s) e []).1=0:=by simpa using ab
 intro k hk;have rR:∀j,(eZ (fk s) (e.take j) []).1=0:=fun j=>Classical.byContradiction fun ay=>by
  have:=QE (f:=fk s) (e:=e) (k:=j) rfl ay
  rw[this] at ab;exact ay ab
 have h9:eZ (fk s) (e.take k) []=(0,(eZ (fk s) (e.take k) []).2):=Prod.ext (rR k) rfl;have aD:=yk hk h9;have aY:=rR (k+1);rw[aD] at aY;unfold stepG at aY;by_cases cV:fc e[k].op<0
 .rw[if_pos cV] at aY;cases aY
 rw[if_neg cV] at aY;by_cases dq:((eZ (fk s) (e.take k) []).2.length:Int)<fc e[k].op
 .rw[if_pos dq] at aY;cases aY
 rw[if_neg dq] at aY;by_cases dU:(fk s e[k] (eZ (fk s) (e.take k) []).2).2≠0
 .rw[if_pos dU] at aY;exact absurd aY dU
 have dU:(fk s e[k] (eZ (fk s) (e.take k) []).2).2=0:=by simpa using dU
 by_cases aM:x4 e[k].op=false
 .unfold fk at dU;rw[PZ aM] at dU;exact alG dU
 .intro ba;simp only[x4,decide_eq_false_iff_not] at aM;omega
theorem anN{m:Model}(h:(check m).cA=0){j:Nat}(aE:j<m.props.length):(kind m.props[j].expr (ey m)).2=0:=by
 obtain⟨_,_,ab⟩:=Mg h;have dC:=Kr ab j aE;rw[DF aE] at dC;refine Classical.byContradiction fun ay=>?_
 repeat' split at dC
 all_goals first | omega | (exact absurd dC ay) | skip
 all_goals contradiction
theorem YL{m:Model}{q:Nat}(h:q<(insts m).length):dj m q+1<=dW m:=by
 obtain⟨p,ar⟩:=BY h
 have:=ar.room
 omega
theorem KY{m:Model}{v:Nat}(h:v<m.vars.length):gG m v+qc m v<=dW m:=by
 have:=tz h
 rw[s7 h]
 have:=nR m
 omega
theorem U0{m:Model}{c:Nat}(h:c<m.aw.length):cq m c+(1+gN m c)<=dW m:=by
 have:=tL h
 rw[o6 h]
 have:=nR m
 omega
structure xa(m:Model)(x:Node):Prop where
 node:AD (ey m) x
 over:LC (ey m) x
theorem xa.var{m:Model}(a1:eL m){x:Node}(h:xa m x)(e:x.op=2):∃ay:x.n.toNat<m.vars.length,0<=x.n/\qc m x.n.toNat=1:=by
 obtain⟨af,v,aG,jm⟩:=h.node.var e;have fa:m.vars[x.n.toNat]? = some v:=aG;obtain⟨h1,I⟩:=List.getElem?_eq_some_iff.1 fa;refine⟨h1,af,?_⟩;rw[s7 h1,I];unfold cells;rw[if_pos jm];rfl
theorem xa.item{m:Model}(a1:eL m){x:Node}(h:xa m x)(e:x.op=3):∃ay:x.n.toNat<m.vars.length,0<=x.n/\∃aM:((m.vars[x.n.toNat]).over - 1).toNat<m.scalars.length,1<=(m.vars[x.n.toNat]).over/\(m.scalars[((m.vars[x.n.toNat]).over - 1).toNat]).size=(qc m x.n.toNat:Nat)/\qc m x.n.toNat<=4:=by
 obtain⟨af,_⟩:=h.node.item e;obtain⟨v,aG,jm⟩:=h.over e;have fa:m.vars[x.n.toNat]? = some v:=aG;obtain⟨h1,I⟩:=List.getElem?_eq_some_iff.1 fa;have di:=a1.var _ (List.getElem_mem h1);have an:size (m.vars[x.n.toNat]).over m.scalars≠0:=by
  rcases di.e4 with q | q
  .rw[I] at q;exact absurd q jm
  .exact q
 have ah:cells (m.vars[x.n.toNat]) m.scalars=size (m.vars[x.n.toNat]).over m.scalars:=by
  unfold cells;rw[if_neg (by rw[I];exact jm)]
 refine⟨h1,af,?_⟩;rw[s7 h1,ah];unfold size at an ⊢;cases hk:m.scalars[((m.vars[x.n.toNat]).over - 1).toNat]? with
 | none=>rw[hk] at an;exact absurd rfl an
 | some y =>
  rw[hk] at an;simp only at an ⊢;obtain⟨g1,g2⟩:=List.getElem?_eq_some_iff.1 hk;by_cases q:1<=(m.vars[x.n.toNat]).over/\1<=y.size/\y.size<=4
  .rw[if_pos q];refine⟨g1,q.1,?_,?_⟩
   .rw[g2];omega
   .omega
  .rw[if_neg q] at an;exact absurd rfl an
theorem aau{m:Model}(h:(check m).cA=0){j:Nat}(aE:j<m.props.length){x:Node}(ag:x∈m.props[j].expr):xa m x:=by
 obtain⟨k,hk,rfl⟩:=List.mem_iff_getElem.1 ag;exact⟨((Qc h aE).node k hk).1,alc (anN h aE) k hk⟩
theorem xa.lt{m:Model}(a1:eL m){x:Node}(h:xa m x):∀z∈gi m 0 false x,0<=z/\z<dW m:=by
 intro z bA;unfold gi at bA;by_cases I:x.op=2
 .rw[if_pos I] at bA;obtain⟨ay,_,aF⟩:=h.var a1 I
  have:=KY ay
  have:=oN.1 bA
  omega
 rw[if_neg I] at bA;by_cases ab:x.op=3
 .rw[if_pos ab] at bA;obtain⟨ay,_⟩:=h.item a1 ab
  have:=KY ay
  unfold pq at bA;rw[if_neg (by simp)] at bA
  have:=oN.1 bA
  omega
 rw[if_neg ab] at bA;by_cases aD:x.op=4
 .obtain⟨_,aY⟩:=h.node.loc aD
  have:(ey m).locals=[]:=rfl
  rw[this] at aY;cases aY
 rw[if_neg aD] at bA;by_cases bx:x.op=6
 .rw[if_pos bx] at bA;have ah:x.n.toNat<m.aw.length:=(h.node.len bx).2
  have:=U0 ah
  have:=oN.1 bA
  omega
 rw[if_neg bx] at bA;by_cases b1:x.op=7
 .rw[if_pos b1] at bA;unfold oy at bA;obtain⟨j,aE,bA⟩:=List.mem_flatMap.1 bA;split at bA
  .have:=YL (m:=m) (List.mem_range.1 aE)
   have:=oN.1 bA
   omega
  .cases bA
 .rw[if_neg b1] at bA;cases bA
theorem apl{m:Model}(h:(check m).cA=0)(a1:eL m):∀z∈qe m,0<=z/\z<dW m:=by
 intro z bA;unfold qe yf at bA;obtain⟨p,ar,Jc⟩:=List.mem_flatMap.1 bA;obtain⟨x,ag,rU⟩:=List.mem_flatMap.1 Jc;obtain⟨j,aE,rfl⟩:=List.mem_iff_getElem.1 ar;exact(aau h aE ag).lt a1 z rU
def y5(x:Nat×Nat):C_ B_:=[.slice (some ⟨x.1,0,none⟩) x.2 x.2]
def pW(m:Model)(bs:C_ Nat):C_ (Nat×Nat):=bs.zip (m.procs.map fun p=>p.b8.toNat)
theorem xJ{m:Model}{bs:C_ Nat}(h:bs.length<=m.procs.length):(pW m bs).length=bs.length:=by simp[pW];omega
theorem El{m:Model}{bs:C_ Nat}{k:Nat}(h:k<bs.length)(ar:k<m.procs.length):(pW m bs)[k]? = some (bs[k],m.procs[k].b8.toNat):=by
 simp[pW,List.getElem?_zip_eq_some,h,ar]
theorem aiQ{m:Model}{bs:C_ Nat}{b:Nat}(ar:bs.length<m.procs.length):pW m (bs++[b])=pW m bs++[(b,m.procs[bs.length].b8.toNat)]:=by
 apply List.ext_getElem?;intro i;by_cases h1:i<bs.length
 .rw[El (by simp;omega) (by omega),List.getElem?_append_left (by rw[xJ (by omega)];exact h1),El h1 (by omega)];simp[List.getElem_append_left h1]
 .by_cases I:i=bs.length
  .subst I;rw[El (by simp) ar,List.getElem?_append_right (by rw[xJ (by omega)];exact Nat.le_refl _),xJ (by omega)];simp
  .rw[List.getElem?_eq_none (by rw[xJ (by simp;omega)];simp;omega),List.getElem?_eq_none (by rw[List.length_append,xJ (by omega)];simp;omega)]
end o
namespace Go.Proofs.R
open Go Go.RowKit bb
structure nE(m:o.Model)(base:Nat)(bs:List Nat)(nb:Nat->List Int)(v:Value)(W:World):Prop where
 row:aW o.y5 T.b 1 base W v (o.pW m bs)
 low:∀b∈bs,base<=b
 nodup:bs.Nodup
 cu:∀p (h:p<bs.length),W.heap[bs[p]]? = some (.cells (nt (nb p)).toArray T.a)
theorem nE.ext{m:o.Model}{base:Nat}{bs:C_ Nat}{nb:Nat->C_ Int}{v:B_}{w w':A_}(h:nE m base bs nb v w)(he:Ext w w'):nE m base bs nb v w' :=
 ⟨h.row.ext he,h.low,h.nodup,fun p ar=>he.obj (h.cu p ar)⟩
theorem nE.mod{m:o.Model}{base:Nat}{bs:C_ Nat}{nb:Nat->C_ Int}{v:B_}{w w':A_}{A:Nat->Prop}(h:nE m base bs nb v w)(hm:Mod A w w')(dh:∀k,A k->k<base):nE m base bs nb v w' :=
 ⟨h.row.mod hm fun k hk a=>by have:=(h.row.lt k hk).1;have:=dh k a;omega,h.low,h.nodup,fun p ar=>hm.obj (fun a=>by have:=h.low _ (List.getElem_mem ar);have:=dh _ a;omega) (h.cu p ar)⟩
theorem amy{l:C_ Nat}(h:l.Nodup){i j:Nat}(U:i<l.length)(aE:j<l.length)(e:l[i]=l[j]):i=j:=by
 rcases Nat.lt_trichotomy i j with h1 | h1 | h1
 .exact absurd e (List.pairwise_iff_getElem.1 h i j U aE h1)
 .exact h1
 .exact absurd e.symm (List.pairwise_iff_getElem.1 h j i aE U h1)
theorem afy(x:Nat×Nat):∀u∈o.y5 x,u.oneCell'=true:=by simp[o.y5,Value.oneCell']
theorem nE.step{m:o.Model}{base:Nat}{bs:C_ Nat}{nb Mk:Nat->C_ Int}{v:B_}{w w':A_}{q:Nat}(h:nE m base bs nb v w)(au:q<bs.length)(hw:dn bs[q] w w')(ah:w'.heap[bs[q]]? = some (.cells (nt (Mk q)).toArray T.a))
  (an:∀p,p<bs.length->p≠q->Mk p=nb p):nE m base bs Mk v w':=by
 refine⟨h.row.mod (hw.mod (A:=fun i=>i=bs[q]) rfl) fun k hk e=>?_,h.low,h.nodup,fun p ar=>?_⟩
 .obtain⟨cur,h1⟩:=h.row.cu k hk;have I:=h.cu q au;rw[e,I] at h1;injection h1 with h1
  injection h1 with _ h1
  revert h1;decide
 .by_cases e:p=q
  .subst e;exact ah
  .rw[an p ar e];exact hw.obj (h.cu p ar) fun aI=>e (amy h.nodup ar au aI)
theorem nE.snoc{m:o.Model}{base:Nat}{bs:C_ Nat}{nb:Nat->C_ Int}{v b9:B_}{w w':A_}{b:Nat}(h:nE m base bs nb v w)(hk:bs.length<m.procs.length)(mF:aW o.y5 T.b 1 base w' b9 (o.pW m bs++[(b,m.procs[bs.length].b8.toNat)]))
  (aK:w.grownBy w' v.ownBlock)(ak:base<=b)(ajz:∀p (ar:p<bs.length),bs[p]≠b)(ah:w.heap[b]? = some (.cells (nt (nb bs.length)).toArray T.a)):nE m base (bs++[b]) nb b9 w':=by
 refine⟨by rw[o.aiQ hk];exact mF,fun x ag=>?_,?_,fun p ar=>?_⟩
 .rcases List.mem_append.1 ag with ag | ag
  .exact h.low x ag
  .rw[List.mem_singleton] at ag;omega
 .rw[List.nodup_append];refine⟨h.nodup,by simp,fun a aV c ah e=>?_⟩;rw[List.mem_singleton] at ah;obtain⟨p,ar,rfl⟩:=List.mem_iff_getElem.1 aV;exact ajz p ar (by rw[e,ah])
 .by_cases vR:p<bs.length
  .rw[List.getElem_append_left vR];exact h.row.box aK (h.cu p vR) (by decide)
  .have e:p=bs.length:=by simp at ar;omega
   subst e;rw[List.getElem_append_right (Nat.le_refl _)];simpa using h.row.box aK ah (by decide)
theorem nE.amD{m:o.Model}{base:Nat}{bs:C_ Nat}{nb:Nat->C_ Int}{v:B_}{W:A_}{L:C_ (C_ Int)}(h:nE m base bs nb v W)(ak:bs.length=m.procs.length)(cI:L.length=m.procs.length)
  (aF:∀p (ar:p<m.procs.length),(nb p).length=m.procs[p].b8.toNat/\m.procs[p].b8.toNat<=12)(ah:∀p,p<m.procs.length->L[p]? = some (nb p)):w4 W v L:=by
 obtain⟨aQ,cap,rfl,h1,I,ab,aD⟩:=(aW.jH (enc:=o.y5) (sz:=1) (fun _=>rfl) h.row).ex;have cU:=o.xJ (m:=m) (bs:=bs) (by omega);refine⟨aQ,cap,by rw[cU,ak,cI],by omega,I,fun ay=>ab (by intro e;rw[e] at cU;simp at cU;exact ay (List.eq_nil_of_length_eq_zero (by omega))),fun a aV i U=>?_⟩;have cE:i<m.procs.length:=by omega
 have aK:=o.El (m:=m) (bs:=bs) (k:=i) (by omega) cE;obtain⟨ch,N3⟩:=List.getElem?_eq_some_iff.1 aK;have gC:=aD a aV i ch 0 _ (show(o.y5 (o.pW m bs)[i])[0]? = some _ from rfl);rw[N3,add_zero] at gC;refine⟨_,gC,?_⟩;obtain⟨_,ahC⟩:=List.getElem?_eq_some_iff.1 (ah i cE);rw[ahC];exact PW (h.cu i (by omega)) (aF i cE).1.symm (by have:=aF i cE;unfold maxLen;omega)
end Go.Proofs.R
end
section
namespace bb
open Go Go.RowKit
def acx(_:A_)(cs:C_ B_)(x:Nat):Prop:=cs=tQ x
instance ati:Rel (Flat tQ) acx 1 where
 out h:=⟨_,h,rfl⟩
 n1 h k:=by cases k;exact h
 len h:=by cases h;rfl
 one h:=by cases h;exact afx _
 ext _ h:=h
end bb
end
section
namespace bb
open Go Go.RowKit
section
variable{P:Program}{aC:Value->Prop}{ty:TypeId}{cX c6:Operand}
theorem AD1{n:Nat}{k:IntKind}{t}(ay:n<64)(hk:aC (.int .u64 ((2 ^ n:Nat):Int))):gA P .shl ty cX c6 (.int .u64 1) (.int k (n:Int)) aC t:=by
 refine _N (v:=.int .u64 ((2 ^ n:Nat):Int)) (fun w=>?_) hk;have I:(2:Nat) ^ n<2 ^ 64:=Nat.pow_lt_pow_right (by decide) ay;have ab:IntKind.u64.wrap ((2:Int) ^ n)=((2 ^ n:Nat):Int):=by
  rw[show(2:Int) ^ n=((2 ^ n:Nat):Int) from by simp];generalize (2:Nat) ^ n=y at I;exact IntWalk.u64_in _ (by omega)
 have aD:¬(n:Int)<0:=by omega
 have aY:min n 64=n:=by omega
 simp[eqGuard,binOp,Op.shift,IntKind.bits,aD,aY,ab]
theorem AD2{x y:Nat}{t}(ag:x<18446744073709551616)(bS:y<18446744073709551616)(hk:aC (.int .u64 ((x ||| y:Nat):Int))):gA P .or ty cX c6 (.int .u64 (x:Int)) (.int .u64 (y:Int)) aC t:=by
 refine _N (v:=.int .u64 ((x ||| y:Nat):Int)) (fun w=>?_) hk;have h:=bits_or_u64_nat x y ag bS;rw[<-h];simp[eqGuard,binOp,Op.intBits,bits]
end
end bb
namespace o
open Go
theorem aqi{m:Model}{s:C_ Int}{k:Nat}(h:k<=8):ra m s k<256:=Nat.lt_of_lt_of_le (aqh m s k) (by
 have:=Nat.pow_le_pow_right (n:=2) (by decide) h
 exact this)
theorem anL{k:Nat}(h:k<8):2 ^ k<256:=by
 have:=Nat.pow_lt_pow_right (a:=2) (by decide) h
 exact this
theorem aqj{m:Model}{s:C_ Int}{k:Nat}(h:k<m.props.length)(aB:(eval m.props[k].expr (cr m s (-1))).2=0/\(eval m.props[k].expr (cr m s (-1))).1≠0):ra m s (k+1)=ra m s k ||| 2 ^ k:=by
 rw[abP h,if_pos];unfold Af;exact decide_eq_true aB
theorem abO{m:Model}{s:C_ Int}{k:Nat}(h:k<m.props.length)(aB:¬((eval m.props[k].expr (cr m s (-1))).2=0/\(eval m.props[k].expr (cr m s (-1))).1≠0)):ra m s (k+1)=ra m s k:=by
 rw[abP h,if_neg];unfold Af;simpa using aB
theorem amB{α:Type}(l:C_ α):nth l (-1)=none:=by unfold nth;rw[if_neg (by omega)]
theorem afJ{m:Model}(a1:eL m){s:C_ Int}(ax:Fits m s):Lr (cr m s (-1)):=by
 have e9:=Wi a1 ax;have gU:=zG a1;have e:yq m s (-1)=([],0):=by unfold yq;rw[amB]
 refine⟨fun l aF x ag=>?_,fun x ag=>?_,fun x ag=>?_,fun l aF x ag=>?_,?_⟩
 .simp only[cr,List.mem_map] at aF;obtain⟨k,_,rfl⟩:=aF;exact e9 x (List.mem_of_mem_drop (List.mem_of_mem_take ag))
 .simp only[cr,List.mem_map] at ag;obtain⟨k,_,rfl⟩:=ag;rw[List.getElem!_eq_getElem?_getD];cases hk:s[cq m k]? with
  | none=>simp[dH]
  | some y=>exact e9 y (List.mem_of_getElem? hk)
 .simp only[cr,e] at ag;cases ag
 .simp only[cr,List.mem_map] at aF;obtain⟨k,_,rfl⟩:=aF;unfold iQ at ag;obtain⟨d,_,rfl⟩:=List.mem_map.1 ag
  have:=GL m s k d (insts m).length
  unfold dH;omega
 .simp only[cr,e];unfold dH;omega
end o
end
section
namespace bb
open Go Go.RowKit
def nQ(ad:C_ Bool):C_ B_:=ad.map Value.bool
theorem arf(n:Nat):rh (Value.bool false).cells (n*1)=(nQ (List.replicate n false)).toArray:=by
 apply Array.ext_getElem?;intro i;by_cases h:i<n
 .simp[rh,nQ,Value.cells,h,Nat.mod_one]
 .simp[rh,nQ,h]
theorem AD3{cW:B_->A_->Prop}{w:A_}{e:F_}{n:Int}{t}(N:Nat)(ay:n=N)(ak:N<=1000000)(hk:∀w1 b,w.heap.size<=b->Ext w w1->w1.heap[b]? = some (.cells (nQ (List.replicate N false)).toArray e)->cW (.slice (some ⟨b,0,none⟩) N N) w1) :
  AB e 1 1 (.bool false) (.int .i64 n) (.int .i64 n) w cW t:=by
 subst ay;refine _4 ⟨by omega,by omega,by omega,by omega⟩ ?_;have h:=hk (w.alloc (.cells (nQ (List.replicate N false)).toArray e)) _ (Nat.le_refl _) ((Ext.refl w).alloc _) (heap_alloc_new w _);rw[Int.toNat_natCast,arf];exact h
theorem AD4{b c:Nat}{ad:C_ Bool}{w:A_}{e:F_}{KW:A_->Prop}{t}(h:w.heap[b]? = some (.cells (nQ ad).toArray e))(ah:c<ad.length)
  (hk:∀w1,dn b w w1->w1.heap[b]? = some (.cells (nQ (ad.set c true)).toArray e)->KW w1):qu (.pointer (some (Addr.add ⟨b,0,none⟩ (c*1)))) (.bool true) w KW t:=by
 have an:c<(nQ ad).toArray.size:=by simp[nQ];exact ah
 rw[Nat.mul_one];refine _x (fQ h (Array.getElem?_eq_getElem an)) (by rw[add_eq];simp[World.frozen?,h]) rfl (hk _ ?_ ?_)
 .have:=dn.setCell w (Addr.add ⟨b,0,none⟩ c) (.bool true)
  rwa[LM] at this
 .rw[FD h an];simp[nQ,List.map_set]
end bb
namespace Go.Proofs.R
open Go Go.RowKit bb
structure mu(w:World)(bJ b N:Nat)(L:List Int):Prop where
 box:w.heap[bJ]? = some (.cells #[.slice (some ⟨b,0,none⟩) N N] T.iP)
 row:∃ad,w.heap[b]? = some (.cells (nQ ad).toArray T.n)/\o.ov N L ad
theorem mu.ne{w:A_}{bJ b N:Nat}{L:C_ Int}(h:mu w bJ b N L):¬bJ=b:=fun e=>by
 obtain⟨ad,h1,_⟩:=h.row;subst e;have I:=h.box;rw[h1] at I;injection I with I
 injection I with _ I
 revert I;decide
theorem mu.ext{w w':A_}{bJ b N:Nat}{L:C_ Int}(h:mu w bJ b N L)(he:Ext w w'):mu w' bJ b N L:=by
 obtain⟨ad,h1,I⟩:=h.row;exact⟨he.obj h.box,ad,he.obj h1,I⟩
theorem mu.other{w:A_}{bJ b N k:Nat}{L:C_ Int}{cs:Array B_}{t:F_}(h:mu w bJ b N L)(hk:w.heap[k]? = some (.cells cs t))(aB:t≠T.n):¬k=b:=fun e=>by
 obtain⟨ad,h1,_⟩:=h.row;subst e;rw[h1] at hk;injection hk with hk
 injection hk with _ hk
 exact aB hk.symm
theorem mu.congr{w:A_}{bJ b N:Nat}{L mT:C_ Int}(h:mu w bJ b N L)(e:∀x,x∈L↔x∈mT):mu w bJ b N mT:=by
 obtain⟨ad,h1,I⟩:=h.row;exact⟨h.box,ad,h1,I.congr e⟩
theorem KF(c bJ b N:Nat)(L:C_ Int)(x:Int)(w:A_)(h:mu w bJ b N L)(ag:x=c)(ah:c<N)(fV:N<=1000000) :
  a7 Tryz.prog F.AX #[.int .i64 x,.pointer (some ⟨bJ,0,none⟩)] w fun _ w'=>mu w' bJ b N (L++o.gr c 1)/\Mod (fun k=>k=b) w w':=by
 subst ag;have cw:=h.ne;obtain⟨ad,h1,I⟩:=h.row;have nV:=h.box;have aF:=I.len;refine bn E.AX ?_;refine aa ?_;refine AD4 h1 (by omega) fun w1 ht ai=>?_;refine aa ?_;refine⟨⟨ht.obj nV cw,_,ai,?_⟩,ht.mod rfl⟩;rw[o.Cj];exact I.put ah
theorem afq(x:o.Node)(cs ys:C_ B_)(bM:B_)(bJ b:Nat)(L:C_ Int)(m:o.Model)(w0 w:A_)(h:o.dV w0 cs m)(cI:o.jN w0 ys (o.layout m))(a8:ke w0 bM (o.insts m))(he:Ext w0 w)(rH:w0.heap.size<=b)
  (bZ:mu w bJ b (o.dW m) L)(a1:o.eL m)(ag:o.xa m x)(di:x.ok) :
  a7 Tryz.prog F.Hm #[.agg cs.toArray,.agg ys.toArray,bM,.agg x.enc.toArray,.func (.func F.AX) #[] #[.pointer (some ⟨bJ,0,none⟩)]] w fun _ w'=>mu w' bJ b (o.dW m) (L++o.gi m 0 false x)/\Mod (fun k=>k=b) w w':=by
 have Pb:=di.op;have Pa:=di.n;unfold o.dH at Pb Pa;obtain⟨ff,d0,dZ,d1,eK,d2,e5,d3,fu,d4,rfl,af,h1,I,ab,aD,eU,ek,ev,ef,ew⟩:=h.form;obtain⟨cd,bw,bO,c1,bV,c2,b2,br,cj,bF,rfl,eF,eb,dG,fg,gq⟩:=cI.form;obtain⟨cx,ci,rfl,_⟩:=a8.form;obtain⟨f5,f6,f8⟩:=o.s6 m;have qK:o.dW m<=64:=o.kt a1;refine bn E.Hm ?_;refine aa ?_;intro w1 dx k9 al cc;refine aa ?_;intro aH dP fX ao b4;replace cc:=ao.obj cc;refine aa ?_;intro aP iR oC aj c4;replace cc:=aj.obj cc;replace b4:=aj.obj b4;have fv:=(al.trans ao).trans aj;have yz:=he.trans fv;have xE:=bZ.ext fv;have n5:=xE.other cc (by decide);have n6:=xE.other b4 (by decide);have n8:=xE.other c4 (by decide);unfold o.Node.enc at c4;refine aa ?_;apply I_<;>intro g2
 .obtain⟨ay,gF,aF⟩:=ag.var a1 g2;obtain⟨a0,rfl⟩:=eF.addr;have atW:=eF.ext Flat.ext yz;obtain⟨fp,iG⟩:=o.Ai ay;have aL:=o.KY ay;have h3:x.n=(x.n.toNat:Nat):=by omega
  rw[h3] at c4;have aI:o.gi m 0 false x=o.gr (o.gG m x.n.toNat) 1:=by unfold o.gi;rw[if_pos g2]
  rw[aI];refine aa ?_;refine U_ (first:=[]) (cap:=[.pointer (some ⟨bJ,0,none⟩)]) (by kernel_rfl) (KF (o.gG m x.n.toNat) bJ b _ L _ aP xE (by rw[iG]) (by omega) (by omega)) ?_;rintro _ aR ⟨lL,jB⟩;refine aa ?_;exact⟨lL,fv.mod.trans jB⟩
 refine aa ?_;apply I_<;>intro g3
 .obtain⟨ay,gF,ajP,xW,dy,asM⟩:=ag.item a1 g3;obtain⟨a0,rfl⟩:=eF.addr;obtain⟨arC,rfl⟩:=af.addr;obtain⟨arD,rfl⟩:=h1.addr;obtain⟨fp,iG⟩:=o.Ai ay;have aL:=o.KY ay;have h3:x.n=(x.n.toNat:Nat):=by omega
  have ba:o.gi m 0 false x=o.gr (o.gG m x.n.toNat) (o.qc m x.n.toNat):=by
   unfold o.gi o.pq;rw[if_neg g2,if_pos g3,if_neg (by simp)]
  rw[h3] at c4;rw[ba];refine aa ?_;refine K_ _ (by omega) ajP ?_;refine aa ?_;intro aR aA;have eA:=yz.trans aA;have DX:=xE.ext aA;have NA:=aA.obj b4;have NB:=aA.obj c4;clear b4 c4 cc;refine aa ?_;refine L_ 40 (o.qc m x.n.toNat) [4,6,8,39] (fun _:Unit=>[]) () (fun k _ W=>mu W bJ b (o.dW m) (L++o.gr (o.gG m x.n.toNat) k)/\Mod (fun k=>k=b) aR W) bc bc ⟨by rw[o.aa2,List.append_nil];exact DX,Mod.refl _ _⟩ ?_;rintro k _ S bq hk ⟨pd,lh⟩;have b4:=lh.obj n6 NA;have c4:=lh.obj n8 NB;have atX:=eF.ext Flat.ext (lh.ext eA fun i U e=>by omega);refine aa ?_;apply I_<;>intro g4
  .refine aa ?_;refine U_ (first:=[]) (cap:=[.pointer (some ⟨bJ,0,none⟩)]) (by kernel_rfl) (KF (o.gG m x.n.toNat+k) bJ b _ _ _ bq pd (by rw[iG];omega) (by omega) (by omega)) ?_;rintro _ bB ⟨BS,jC⟩;refine aa ?_;refine⟨by omega,aU,(),trivial,?_,lh.trans jC⟩;rw[o.Cj] at BS;rw[o.aaz];exact BS
  .have kq:k=o.qc m x.n.toNat:=by omega
   rw[kq] at pd;refine aa ?_;exact⟨pd,(fv.mod.trans aA.mod).trans lh⟩
 refine aa ?_;apply I_<;>intro g6
 .obtain⟨gF,fa⟩:=ag.node.len g6;have gP:x.n.toNat<m.aw.length:=fa;obtain⟨df,rfl⟩:=eb.addr;have at0:=eb.ext Flat.ext yz;obtain⟨kp,fl⟩:=o.vh gP;have aL:=o.U0 gP;have h3:x.n=(x.n.toNat:Nat):=by omega
  rw[h3] at c4;have c8:o.gi m 0 false x=o.gr (o.cq m x.n.toNat) 1:=by
   unfold o.gi;rw[if_neg g2,if_neg g3,if_neg (by omega),if_pos g6]
  rw[c8];refine aa ?_;refine U_ (first:=[]) (cap:=[.pointer (some ⟨bJ,0,none⟩)]) (by kernel_rfl) (KF (o.cq m x.n.toNat) bJ b _ L _ aP xE (by rw[fl]) (by omega) (by omega)) ?_;rintro _ aR ⟨lL,jB⟩;refine aa ?_;exact⟨lL,fv.mod.trans jB⟩
 refine aa ?_;apply I_<;>intro g7;rotate_left
 .have gm:o.gi m 0 false x=[]:=by
   unfold o.gi;by_cases g4:x.op=4
   .have:=(ag.node.loc g4).2
    have e:(o.ey m).locals=[]:=rfl;rw[e] at this;cases this
   rw[if_neg g2,if_neg g3,if_neg g4,if_neg g6,if_neg g7]
  rw[gm,List.append_nil];refine aa ?_;exact⟨xE,fv.mod⟩
 have dQ:o.gi m 0 false x=o.oy m (x.n.tdiv 16) (o.insts m).length:=by unfold o.gi;rw[if_neg g2,if_neg g3,if_neg (by omega),if_neg g6,if_pos g7]
 rw[dQ];obtain⟨gF,BQ⟩:=ag.node.at_ g7;have ajT:(x.n.tdiv 16).toNat<m.procs.length:=BQ;have aj3:=Int.tdiv_nonneg gF (show(0:Int)<=16 by omega);have ajW:=a1.procs;have aj2 : -9223372036854775808<=x.n.tdiv 16/\x.n.tdiv 16<=9223372036854775807:=by omega
 have gU:=o.zG a1;have rG:∀{W},Mod (fun k=>k=b) aP W->Ext w0 W:=fun hm=>hm.ext yz fun k hk e=>by omega
 have NA:=b4;have NB:=c4;clear b4 c4 cc;refine aa ?_;refine L_ 68 (o.insts m).length [2,4,6,8,66,67] (fun _:Unit=>[]) () (fun k _ W=>Mod (fun i=>i=b) aP W/\mu W bJ b (o.dW m) (L++o.oy m (x.n.tdiv 16) k)) bc bc ⟨Mod.refl _ _,by simpa[o.oy] using xE⟩ ?_;rintro k _ S aR hk ⟨jB,DX⟩;have b4:=jB.obj n6 NA;have c4:=jB.obj n8 NB;have WL:=a8.ext Flat.ext (rG jB);refine aa ?_;apply I_<;>intro g1
 .have cH:k<(o.insts m).length:=by omega
  obtain⟨iP,rfl⟩:=a8.addr;obtain⟨IH,sW⟩:=o.rV cH;have II:=o.YL cH;obtain⟨a2,rfl⟩:=dG.addr;have Qj:=dG.ext Flat.ext (rG jB);refine aa ?_;intro wn AV sR fm eQ;refine aa ?_;intro bq fb iC;have aJ:Ext aR bq:=fb.ext fm sR;replace b4:=aJ.obj b4;replace c4:=aJ.obj c4;replace Qj:=Qj.ext Flat.ext aJ;have pd:=DX.ext aJ;have lh:=jB.trans aJ.mod;clear DX WL;refine aa ?_;refine _J (by omega) ?_;refine aa ?_;apply I_<;>intro g2
  .refine aa ?_;refine U_ (first:=[]) (cap:=[.pointer (some ⟨bJ,0,none⟩)]) (by kernel_rfl) (KF (o.dj m k) bJ b _ _ _ bq pd (by rw[sW]) (by omega) (by omega)) ?_;rintro _ bB ⟨BS,jC⟩;refine aa ?_;refine⟨cH,aU,(),trivial,lh.trans jC,?_⟩;rw[o.Db cH,if_pos g2,<-List.append_assoc];exact BS
  .refine aa ?_;refine⟨cH,aU,(),trivial,lh,?_⟩;rw[o.Db cH,if_neg g2,List.append_nil];exact pd
 .have kq:(o.insts m).length=k:=by omega
  rw[kq];refine aa ?_;exact⟨DX,fv.mod.trans jB⟩
end Go.Proofs.R
end
section
namespace o
open Go
def ny(x y:Node):Prop:=x.op<y.op\/(x.op=y.op/\x.n<y.n)
def B8(x y:Node):Int:=if x.op=y.op/\x.n=y.n then 0 else if x.op<y.op\/(x.op=y.op/\x.n<y.n) then -1 else 1
theorem Z7{x y:Node}(h1:x.op=y.op)(I:x.n=y.n):x=y:=by cases x;cases y;simp_all
theorem ams(x:Node):¬ny x x:=by unfold ny;omega
theorem amt(x y z:Node)(h:ny x y)(k:ny y z):ny x z:=by unfold ny at *;omega
theorem Kh(x y:Node):B8 x y<0↔ny x y:=by
 unfold B8 ny;split
 .omega
 .split<;>omega
def tv (op:Int):Bool:=decide (op=2\/op=3\/op=4\/op=6\/op=7)
structure GD(e r:List Node):Prop where
 mO:r.Pairwise ny
 mem:∀x,x∈r↔x∈e/\tv x.op=true
def comp:C_ Node->C_ Node
 | []=>[]
 | [x]=>[x]
 | x :: y :: r=>if x.op=y.op/\x.n=y.n then comp (y :: r) else x :: comp (y :: r)
theorem Mp:∀(l:C_ Node) (x:Node),x∈comp l↔x∈l
 | [],x=>Iff.rfl
 | [y],x=>Iff.rfl
 | y :: z :: r,x=>by
  unfold comp;have eS:=Mp (z :: r) x;split
  .rename_i h
   have:y=z:=Z7 h.1 h.2
   subst this;rw[eS];simp
  .rw[List.mem_cons,eS,List.mem_cons (b:=y)]
theorem Vm:∀(l:C_ Node),l.Pairwise (fun x y => ¬ny y x)->(comp l).Pairwise ny
 | [],_=>List.Pairwise.nil
 | [y],_=>by unfold comp;simp
 | y :: z :: r,h=>by
  unfold comp;rw[List.pairwise_cons] at h;have eS:=Vm (z :: r) h.2;split
  .exact eS
  .rename_i cw;rw[List.pairwise_cons];refine⟨fun x ag=>?_,eS⟩;rw[Mp] at ag;have as5:=h.1 z (List.mem_cons_self ..);have ch:ny y z:=by unfold ny at *;omega
   rcases List.mem_cons.1 ag with e | e
   .rw[e];exact ch
   .have I:=h.2;rw[List.pairwise_cons] at I
    have:=I.1 x e
    unfold ny at *;omega
structure arp(l:List Int)(n:Int)(r:List Int):Prop where
 mO:r.Pairwise (· < ·)
 mem:∀x,x∈r↔x∈l\/x=n
 len:r.length<=l.length+1
structure arq(e:List Node)(op:Int)(l:List Int):Prop where
 mO:l.Pairwise (· < ·)
 mem:∀n,n∈l↔∃x∈e,x.op=op/\x.n=n
 len:l.length<=e.length
def opsL:C_ Int:=[2,3,4,6,7]
structure arz(e:List Node)(k:Nat)(r:List Node):Prop where
 mO:r.Pairwise ny
 mem:∀x,x∈r↔x∈e/\x.op∈opsL.take k
 len:r.length<=k*e.length
theorem Mq:∀(l:C_ Node) (x y:Node),comp (l++[x,y])=if x.op=y.op/\x.n=y.n then comp (l++[x]) else comp (l++[x])++[y]
 | [],x,y=>by
  by_cases h:x.op=y.op/\x.n=y.n
  .have:x=y:=Z7 h.1 h.2
   subst this;simp[comp]
  .simp[comp,h]
 | [a],x,y=>by
  have eS:=Mq [] x y;simp only[List.nil_append,List.cons_append] at eS ⊢;unfold comp;rw[eS];by_cases h:a.op=x.op/\a.n=x.n
  .simp only[if_pos h]
  .simp only[if_neg h];by_cases I:x.op=y.op/\x.n=y.n
   .simp[I,comp]
   .simp[I,comp]
 | a :: b :: l,x,y=>by
  have eS:=Mq (b :: l) x y;simp only[List.cons_append] at eS ⊢;unfold comp;rw[eS];by_cases h:a.op=b.op/\a.n=b.n
  .simp only[if_pos h]
  .simp only[if_neg h];by_cases I:x.op=y.op/\x.n=y.n
   .simp only[if_pos I]
   .simp only[if_neg I,List.cons_append]
theorem Mr{l:C_ Node}{n:Nat}(h1:1<=n)(I:n<l.length):comp (l.take (n+1))=if l[n - 1].op=l[n].op/\l[n - 1].n=l[n].n then comp (l.take n) else comp (l.take n)++[l[n]]:=by
 obtain⟨k,rfl⟩:∃k,n=k+1:=⟨n - 1,by omega⟩;have bt:l.take (k+1)=l.take k++[l[k]]:=List.take_succ_eq_append_getElem (by omega);have aI:l.take (k+1+1)=l.take k++[l[k],l[k+1]]:=by rw[List.take_succ_eq_append_getElem I,bt,List.append_assoc];rfl
 rw[aI,Mq,bt];rfl
theorem Mo:∀l:C_ Node,(comp l).length<=l.length
 | []=>Nat.le_refl _
 | [x]=>Nat.le_refl _
 | x :: y :: r=>by
  have:=Mo (y :: r)
  unfold comp;split
  .simp only[List.length_cons] at this ⊢;omega
  .simp only[List.length_cons] at this ⊢;omega
theorem Vl{l:C_ Node}(h:l.length<2):comp l=l:=by
 match l,h with
 | [],_=>rfl
 | [x],_=>rfl
 | x :: y :: r,h=>simp at h;omega
theorem aeZ{l:C_ Node}:comp (l.take 1)=l.take 1:=Vl (by rw[List.length_take];omega)
end o
namespace bb
open Go Go.RowKit
theorem QI:∀(cs:C_ B_) (w:A_) (b ad i:Nat) (cur:Array B_) (e:F_),w.heap[b]? = some (.cells cur e)->ad+i+cs.length<=cur.size ->
  ∃lD,(ic w ⟨b,ad,none⟩ cs i).heap[b]? = some (.cells lD e)/\lD.size=cur.size/\(∀j,j<ad+i\/ad+i+cs.length<=j->lD[j]? = cur[j]?)/\∀j (h:j<cs.length),lD[ad+i+j]? = some cs[j]
 | [],w,b,ad,i,cur,e,ak,_=>⟨cur,ak,rfl,fun _ _=>rfl,fun j h=>absurd h (Nat.not_lt_zero _)⟩
 | c :: cs,w,b,ad,i,cur,e,ak,aF=>by
  have aE:ad+i<cur.size:=by simp at aF;omega
  have h1:=FD ak aE c;have iT:Addr.add ⟨b,0,none⟩ (ad+i)=Addr.add ⟨b,ad,none⟩ i:=by rw[add_eq,add_eq,Nat.zero_add]
  rw[iT] at h1;obtain⟨lD,cC,cS,eT,hI⟩:=QI cs _ b ad (i+1) _ e h1 (by simp at aF ⊢;omega);refine⟨lD,cC,by simpa using cS,fun j l7=>?_,fun j h=>?_⟩
  .rw[eT j (by simp at l7 ⊢;omega),Array.getElem?_set_ne _ (by simp at l7;omega)]
  .cases j with
   | zero =>
    rw[Nat.add_zero,eT (ad+i) (by omega),Array.getElem?_set_self];rfl
   | succ j =>
    have:=hI j (by simpa using h)
    rw[show ad+i+(j+1)=ad+(i+1)+j from by omega,this];rfl
end bb
namespace Go.Proofs.R
open Go Go.RowKit bb
theorem Dr{w:A_}{b j:Nat}{c:Array B_}{t:F_}{v:B_}(h:w.heap[b]? = some (.cells c t))(aE:c[j]? = some v):w.cell? ⟨b,j,none⟩=some v:=by
 simp[World.cell?,h,aE]
structure hn(w:World)(b:Nat)(l:List o.Node):Prop where
 ex:∃cur,w.heap[b]? = some (.cells cur T.f)/\2*l.length<=cur.size/\∀i (h:i<l.length),cur[2*i]? = some (.int .i64 l[i].op)/\cur[2*i+1]? = some (.int .i64 l[i].n)
theorem hn.mod{w w':A_}{b:Nat}{l:C_ o.Node}{A:Nat->Prop}(h:hn w b l)(hm:Mod A w w')(dh:¬A b):hn w' b l:=by
 obtain⟨cur,h1,I,ab⟩:=h.ex;exact⟨cur,hm.obj dh h1,I,ab⟩
theorem hn.ext{w w':A_}{b:Nat}{l:C_ o.Node}(h:hn w b l)(he:Ext w w'):hn w' b l:=by
 obtain⟨cur,h1,I,ab⟩:=h.ex;exact⟨cur,he.obj h1,I,ab⟩
theorem hn.at_{w:A_}{b:Nat}{l:C_ o.Node}(h:hn w b l){i:Nat}(U:i<l.length):e0 w ⟨b,2*i,none⟩ l[i].enc:=by
 obtain⟨cur,h1,I,ab⟩:=h.ex;have e:(⟨b,2*i,none⟩:Addr)=Addr.add ⟨b,0,none⟩ (2*i):=by rw[add_eq,Nat.zero_add]
 intro j v aE;obtain⟨cC,cS⟩:=ab i U;rw[e,add_eq,add_eq,Nat.zero_add]
 match j,aE with
 | 0,aE =>
  have:v = .int .i64 l[i].op:=by simpa[o.Node.enc] using aE.symm
  subst this;exact Dr h1 cC
 | 1,aE =>
  have:v = .int .i64 l[i].n:=by simpa[o.Node.enc] using aE.symm
  subst this;exact Dr h1 cS
 | n+2,aE=>simp[o.Node.enc] at aE
theorem hn.take{w:A_}{b:Nat}{l:C_ o.Node}(h:hn w b l)(k:Nat):hn w b (l.take k):=by
 obtain⟨cur,h1,I,ab⟩:=h.ex;refine⟨cur,h1,by rw[List.length_take];omega,fun i U=>?_⟩;rw[List.length_take] at U
 have:=ab i (by omega)
 simpa using this
theorem hn.abv{w:A_}{b c:Nat}{l:C_ o.Node}(h:hn w b l)(ah:l.length<=c)(hm:c<=maxLen):bh 2 (Flat o.Node.enc) w (.slice (some ⟨b,0,none⟩) l.length c) l :=
 ⟨_,_,rfl,ah,hm,fun _=>rfl,fun a aV i U=>by
  injection aV with aV;subst aV
  have:=h.at_ U
  rw[show(⟨b,2*i,none⟩:Addr)=Addr.add ⟨b,0,none⟩ (i*2) from by rw[add_eq,Nat.zero_add,Nat.mul_comm]] at this;exact this⟩
theorem hn.set{w:A_}{b i:Nat}{l:C_ o.Node}(h:hn w b l)(U:i<l.length)(x:o.Node):hn (ic w ⟨b,2*i,none⟩ x.enc 0) b (l.set i x):=by
 obtain⟨cur,h1,I,ab⟩:=h.ex;obtain⟨lD,cC,cS,eT,hI⟩:=QI x.enc w b (2*i) 0 cur _ h1 (by simp[o.Node.enc];omega);refine⟨lD,cC,by rw[List.length_set,cS];exact I,fun j aE=>?_⟩;rw[List.length_set] at aE;have a0:=hI 0 (by simp[o.Node.enc]);have df:=hI 1 (by simp[o.Node.enc]);by_cases e:i=j
 .subst e;rw[List.getElem_set_self];simp only[Nat.add_zero,o.Node.enc] at a0 df;exact⟨a0,df⟩
 .rw[List.getElem_set_ne e,eT _ (by simp[o.Node.enc];omega),eT _ (by simp[o.Node.enc];omega)];exact ab j aE
theorem hn.cut{w:A_}{b k:Nat}{l:C_ o.Node}{zs:C_ B_}(h:hn w b l)(bA:2*k+zs.length<=2*l.length):hn (ic w ⟨b,2*k,none⟩ zs 0) b (l.take k):=by
 obtain⟨cur,h1,I,ab⟩:=h.ex;obtain⟨lD,cC,cS,eT,_⟩:=QI zs w b (2*k) 0 cur _ h1 (by omega);refine⟨lD,cC,by rw[List.length_take,cS];omega,fun j aE=>?_⟩;rw[List.length_take] at aE;rw[List.getElem_take,eT _ (by omega),eT _ (by omega)];exact ab j (by omega)
theorem ard{P:D_}{ty:F_}{z:B_}(h:(P.info? ty).bind (·.zero)=some z)(w:A_):(zeroValue ty).run P w = .ok z w:=by
 cases U:P.info? ty with
 | none=>rw[U] at h;cases h
 | some i =>
  rw[U] at h;have I:i.zero=some z:=h;simp[zeroValue,tt U,I]
theorem amn(x:o.Node):∀c∈x.enc.toArray.toList,c.oneCell'=true:=by simp[o.Node.enc,Value.oneCell']
theorem hn.free{w:A_}{b:Nat}{l:C_ o.Node}(h:hn w b l){j:Nat}(aE:j<2*l.length):(∃hx,w.cell? ⟨b,j,none⟩=some hx)/\w.frozen? ⟨b,j,none⟩=false:=by
 obtain⟨cur,h1,I,_⟩:=h.ex;exact⟨⟨cur[j]'(by omega),Dr h1 (Array.getElem?_eq_getElem (by omega))⟩,by simp[World.frozen?,h1]⟩
theorem AD5{w:A_}{b i:Nat}{l:C_ o.Node}{x:o.Node}{a:Addr}{KW:A_->Prop}{t}(h:hn w b l)(aV:a=⟨b,2*i,none⟩)(U:i<l.length)(hk:∀w1,dn b w w1->hn w1 b (l.set i x)->KW w1) :
  yO 2 (.pointer (some a)) (.agg x.enc.toArray) w KW t:=by
 subst aV;refine _3 rfl (fun j aE=>?_) (amn x) (hk _ (dn.ic _ w ⟨b,2*i,none⟩ 0) (h.set U x));rw[add_eq];exact h.free (by omega)
theorem AD6{S:Fr}{w:A_}{b k n cap:Nat}{l:C_ o.Node}{x:G_}{aQ:H_ Addr}{cW:B_->A_->Prop}{ty:F_}{t}(h:hn w b l)(ag:aS S x = .slice aQ n cap)(ay:k+n=l.length)(aV:0<n->aQ=some ⟨b,2*k,none⟩)
  (hk:∀v w1,Mod (fun i=>i=b) w w1->hn w1 b (l.take k)->cW v w1):sn Tryz.prog (.call ⟨.builtin .clear,#[x],#[T.u]⟩) ty S w cW t:=by
 have bA:∀w:A_,(zeroValue T.f).run Tryz.prog w = .ok (.agg #[.int .i64 0,.int .i64 0]) w:=ard (by kernel_rfl);have hu:Tryz.prog.underlying T.u=some (.slice T.f):=by kernel_rfl
 cases n with
 | zero =>
  refine _E (v:=.tuple #[]) (w':=w) ?_ (hk _ _ (Mod.refl _ _) (h.take k));cases aQ<;>simp[execOp,resolve,invoke,builtin,ag,Builtin.clear_,run_underlying hu]
 | succ n =>
  obtain rfl:=aV (by omega);refine _E (v:=.tuple #[]) (w':=ic w ⟨b,2*k,none⟩ (Builtin.zeroCells #[.int .i64 0,.int .i64 0] (n+1)).toList 0) ?_ (hk _ _ ((dn.ic _ w ⟨b,2*k,none⟩ 0).mod rfl) (h.cut ?_))
  .have an:=Fz Tryz.prog ⟨b,2*k,none⟩ (Builtin.zeroCells #[.int .i64 0,.int .i64 0] (n+1)).toList 0 w (fun j aE=>?_) ?_
   .simp[execOp,resolve,invoke,builtin,ag,Builtin.clear_,run_underlying hu,bA,Value.cells,an]
   .rw[add_eq];exact h.free (by simp[Builtin.zeroCells] at aE;omega)
   .intro c ah;simp only[Builtin.zeroCells,Array.toList_map,List.mem_map] at ah;obtain⟨i,_,rfl⟩:=ah;show((#[Value.int .i64 0,.int .i64 0]:Array B_)[i % 2]!).oneCell'=true;rcases Nat.mod_two_eq_zero_or_one i with e | e<;>rw[e]<;>rfl
  .simp[Builtin.zeroCells];omega
theorem G3(x y:Int):ry [.i,.i] [.int .i64 x,.int .i64 y]:=⟨⟨_,rfl⟩,⟨_,rfl⟩,trivial⟩
theorem VS{x y:o.Node}:x.enc=y.enc↔x.op=y.op/\x.n=y.n:=by simp[o.Node.enc]
theorem ae1(b c:Nat)(l:C_ o.Node)(w:A_)(h:hn w b l)(ah:l.length<=c)(hm:c<=maxLen) :
  a7 Tryz.prog F.v #[.slice (some ⟨b,0,none⟩) l.length c] w fun v w'=>v = .slice (some ⟨b,0,none⟩) (o.comp l).length c/\hn w' b (o.comp l)/\Mod (fun i=>i=b) w w':=by
 have dR:=o.Mo l;unfold maxLen at hm;refine u1 E.v ?_;refine nO ?_;refine aa ?_;apply I_<;>intro g1
 .have e:=o.Vl (l:=l) (by omega);refine aa ?_;exact⟨by rw[e],by rw[e];exact h,Mod.refl _ _⟩
 refine aa ?_;refine _W [0] (fun k:Nat=>[(3,.int .i64 k)]) 1 (fun k W=>1<=k/\k<=l.length/\o.comp (l.take k)=l.take k/\Ext w W) (fun k=>l.length - k) bc ⟨by omega,by omega,o.aeZ,Ext.refl _⟩ ?_;rintro k S w1 ⟨zu,cH,qO,al⟩;have mE:=h.ext al;have Bo:=mE.abv ah hm;refine aa ?_;apply I_<;>intro g2;rotate_left
 .have kq:k=l.length:=by omega
  rw[kq,List.take_length] at qO;refine aa ?_;exact⟨by rw[qO],by rw[qO];exact mE,al.mod⟩
 have nq:k<l.length:=by omega
 refine aa ?_;refine K_ (k - 1) (by omega) (by omega) ?_;refine aa ?_;refine AB0 (sig:=[.i,.i]) (by kernel_rfl) (G3 _ _) (G3 _ _) fun r aL=>?_;rw[VS] at aL;refine aa ?_;intro aH ao;have jV:=mE.ext ao;have aI:=al.trans ao;cases r with
 | false =>
  have cw:¬(l[k - 1].op=l[k].op/\l[k - 1].n=l[k].n):=fun e=>by have:=aL.2 ⟨e.1.symm,e.2.symm⟩;cases this
  have aja:o.comp (l.take (k+1))=l.take (k+1):=by rw[o.Mr zu nq,if_neg cw,qO,List.take_succ_eq_append_getElem nq]
  refine aa ?_;exact⟨k+1,⟨aU,trivial⟩,⟨by omega,by omega,aja,aI⟩,by omega⟩
 | true =>
  obtain⟨cV,dq⟩:=aL.1 rfl;have BN:o.comp (l.take (k+1))=l.take k:=by rw[o.Mr zu nq,if_pos ⟨cV.symm,dq.symm⟩,qO]
  have lH:¬c=k:=by omega
  clear Bo;refine aa ?_;refine _C k l.length c (by simp[eG,dp,bL]) (by simp[eG]) (by simp[eG]) ⟨by omega,ah,Nat.le_refl _⟩ (by simp) ?_;rw[if_neg lH,Option.map_some];refine aa ?_;refine _W [0,4] (fun x:Nat×Nat×C_ o.Node=>[(3,.int .i64 x.1),(5,.int .i64 x.2.1)]) (k,1,l) (fun x W=>1<=x.2.1/\k+x.2.1<=l.length/\1<=x.1/\x.1+1<=k+x.2.1/\x.2.2.length=l.length/\hn W b x.2.2/\Mod (fun i=>i=b) w W/\x.2.2.take x.1=o.comp (l.take (k+x.2.1))/\∀j,x.1<=j->x.2.2[j]? = l[j]?) (fun x=>l.length - (k+x.2.1)) bc ⟨Nat.le_refl _,by simp only;omega,zu,Nat.le_refl _,rfl,jV,aI.mod,BN.symm,fun _ _=>rfl⟩ ?_;rintro⟨nu,cS,R⟩ GA aP ⟨qW,mI,zI,ak8,zJ,uq,x6,qX,ur⟩;dsimp only at qW mI zI ak8 zJ uq x6 qX ur ⊢;refine aa ?_;apply I_<;>intro g3
  .have fA:k+cS<l.length:=by omega
   have mX:∀i,(Addr.add ⟨b,0,none⟩ (k*2)).add (i*2)=⟨b,2*(k+i),none⟩:=fun i=>by
    rw[add_eq,add_eq];congr 1;omega
   have j0:R[k+cS]'(by omega)=l[k+cS]:=by
    have:=ur (k+cS) (by omega)
    rw[List.getElem?_eq_getElem (by omega),List.getElem?_eq_getElem (by omega)] at this;injection this
   have kX:R[k+cS - 1]'(by omega)=l[k+cS - 1]:=by
    have:=ur (k+cS - 1) (by omega)
    rw[List.getElem?_eq_getElem (by omega),List.getElem?_eq_getElem (by omega)] at this;injection this
   have d1:e0 aP ((Addr.add ⟨b,0,none⟩ (k*2)).add (cS*2)) l[k+cS].enc:=by
    rw[mX,<-j0];exact uq.at_ _
   have d2:e0 aP ((Addr.add ⟨b,0,none⟩ (k*2)).add ((cS - 1)*2)) l[k+cS - 1].enc:=by
    rw[mX,<-kX,show k+(cS - 1)=k+cS - 1 from by omega];exact uq.at_ _
   have xI:=o.Mr (l:=l) (n:=k+cS) (by omega) fA;refine aa ?_;refine K_ (cS - 1) (by omega) (by omega) ?_;refine aa ?_;refine _7 (sig:=[.i,.i]) (by kernel_rfl) (G3 _ _) (G3 _ _) fun r aL=>?_;rw[ne_eq,VS] at aL;refine aa ?_;intro aR aA;have Za:=uq.ext aA;have arV:=d1.ext aA;cases r with
   | false =>
    have heq:l[k+cS - 1].op=l[k+cS].op/\l[k+cS - 1].n=l[k+cS].n:=Classical.byContradiction fun e=>by have:=aL.2 (fun aI=>e ⟨aI.1.symm,aI.2.symm⟩);cases this
    rw[if_pos heq] at xI;refine aa ?_;refine⟨(nu,cS+1,R),⟨aU,aU,trivial⟩,⟨by simp only;omega,by simp only;omega,zI,by simp only;omega,zJ,Za,x6.trans aA.mod,?_,ur⟩,by simp only;omega⟩;simp only;rw[<-Nat.add_assoc,xI,qX]
   | true =>
    have cw:¬(l[k+cS - 1].op=l[k+cS].op/\l[k+cS - 1].n=l[k+cS].n):=fun e=>(aL.1 rfl) ⟨e.1.symm,e.2.symm⟩;rw[if_neg cw] at xI;refine aa ?_;refine AD5 (i:=nu) Za (by rw[add_eq,Nat.zero_add,Nat.mul_comm]) (by omega) fun bq fb Om=>?_;refine aa ?_;refine⟨(nu+1,cS+1,R.set nu l[k+cS]),⟨aU,aU,trivial⟩,⟨by simp only;omega,by simp only;omega,by simp only;omega,by simp only;omega,by rw[List.length_set];exact zJ,Om,(x6.trans aA.mod).trans (fb.mod rfl),?_,fun j aE=>?_⟩,by simp only;omega⟩
    .simp only;rw[<-Nat.add_assoc,xI,<-qX,List.take_succ_eq_append_getElem (by rw[List.length_set];omega),List.getElem_set_self,List.take_set_of_le (Nat.le_refl _)]
    .simp only at aE;rw[List.getElem?_set_ne (by omega)];exact ur j (by omega)
  .have Oc:k+cS=l.length:=by omega
   rw[Oc,List.take_length] at qX;have p2:(o.comp l).length=nu:=by rw[<-qX,List.length_take];omega
   refine aa ?_;refine _C nu l.length c (by simp[eG,dp,bL]) (by simp[eG]) (by simp[eG]) ⟨by omega,ah,Nat.le_refl _⟩ (by simp) ?_;rw[if_neg (show ¬c=nu by omega),Option.map_some];refine aa ?_;refine AD6 (k:=nu) uq (by simp only[dp,bL];rfl) (by omega) (fun _=>by rw[add_eq,Nat.zero_add,Nat.mul_comm]) fun v aR jB nr=>?_;rw[qX] at nr;refine aa ?_;refine _C 0 nu c (by simp[eG]) (by simp[eG,dp,bL]) (by simp[eG]) ⟨by omega,by omega,Nat.le_refl _⟩ (by simp) ?_;rw[if_neg (show ¬c=0 by omega),Option.map_some];refine aa ?_;exact⟨by rw[p2,add_eq];rfl,nr,x6.trans jB⟩
end Go.Proofs.R
end
section
namespace Go.Proofs
open Go.Shelf
def Tryz.apH:Go.Shelf.Ren:=⟨fun | 6=>193 | 15=>245 | 14=>244 | 28=>286 | 29=>287 | 20=>278 | 21=>279 | 22=>280 | 23=>281 | 24=>282 | 25=>283 | 26=>284 | 27=>285 | 46=>306 | 47=>307 | 48=>308 | 49=>309 | 50=>310 | 57=>316 | n=>n,fun | 22=>57 | 24=>72 | 25=>260 | 3=>3 | 39=>169 | 0=>0 | 53=>337 | 55=>52 | 4=>4 | 46=>331 | 45=>330 | 50=>249 | 5=>5 | 9=>9 | 66=>346 | 70=>350 | 76=>355 | 77=>89 | n=>n,fun | n=>n⟩
theorem Tryz.abw:Go.Proofs.SlLaysF0.n6 Tryz.prog Tryz.apH:={
 mixed:=by kernel_rfl
 f6:=⟨Tryz.f193.name,by decide,Tryz.func193.trans (congrArg some (by kernel_rfl))⟩
 f14:=⟨Tryz.f244.name,by decide,Tryz.func244.trans (congrArg some (by kernel_rfl))⟩
 f15:=Tryz.func245.trans (congrArg some (by kernel_rfl))
 f20:=⟨Tryz.f278.name,by decide,Tryz.func278.trans (congrArg some (by kernel_rfl))⟩
 f21:=⟨Tryz.f279.name,by decide,Tryz.func279.trans (congrArg some (by kernel_rfl))⟩
 f22:=⟨Tryz.f280.name,by decide,Tryz.func280.trans (congrArg some (by kernel_rfl))⟩
 f23:=⟨Tryz.f281.name,by decide,Tryz.func281.trans (congrArg some (by kernel_rfl))⟩
 f24:=⟨Tryz.f282.name,by decide,Tryz.func282.trans (congrArg some (by kernel_rfl))⟩
 f25:=⟨Tryz.f283.name,by decide,Tryz.func283.trans (congrArg some (by kernel_rfl))⟩
 f26:=⟨Tryz.f284.name,by decide,Tryz.func284.trans (congrArg some (by kernel_rfl))⟩
 f27:=⟨Tryz.f285.name,by decide,Tryz.func285.trans (congrArg some (by kernel_rfl))⟩
 f28:=Tryz.func286.trans (congrArg some (by kernel_rfl))
 f29:=Tryz.func287.trans (congrArg some (by kernel_rfl))
 f46:=⟨Tryz.f306.name,by decide,Tryz.func306.trans (congrArg some (by kernel_rfl))⟩
 f47:=Tryz.func307.trans (congrArg some (by kernel_rfl))
 f48:=Tryz.func308.trans (congrArg some (by kernel_rfl))
 f49:=⟨Tryz.f309.name,by decide,Tryz.func309.trans (congrArg some (by kernel_rfl))⟩
 f50:=⟨Tryz.f310.name,by decide,Tryz.func310.trans (congrArg some (by kernel_rfl))⟩
 f57:=⟨Tryz.f316.name,by decide,Tryz.func316.trans (congrArg some (by kernel_rfl))⟩
 t0:=Tryz.underlying0
 a0:=Tryz.isAgg0
 z0:=Tryz.sizeOf0
 v0:=Tryz.zeroValue0
 t3:=Tryz.underlying3
 a3:=Tryz.isAgg3
 z3:=Tryz.sizeOf3
 v3:=Tryz.zeroValue3
 t4:=Tryz.underlying4
 a4:=Tryz.isAgg4
 z4:=Tryz.sizeOf4
 v4:=Tryz.zeroValue4
 t5:=Tryz.underlying5
 a5:=Tryz.isAgg5
 z5:=Tryz.sizeOf5
 v5:=Tryz.zeroValue5
 t9:=Tryz.underlying9
 a9:=Tryz.isAgg9
 z9:=Tryz.sizeOf9
 v9:=Tryz.zeroValue9
 t22:=Tryz.underlying57
 a22:=Tryz.isAgg57
 z22:=Tryz.sizeOf57
 v22:=Tryz.zeroValue57
 t25:=Tryz.underlying260
 a25:=Tryz.isAgg260
 z25:=Tryz.sizeOf260
 v25:=Tryz.zeroValue260
 t39:=Tryz.underlying169
 a39:=Tryz.isAgg169
 z39:=Tryz.sizeOf169
 v39:=Tryz.zeroValue169
 t45:=Tryz.underlying330
 a45:=Tryz.isAgg330
 z45:=Tryz.sizeOf330
 v45:=Tryz.zeroValue330
 t46:=Tryz.underlying331
 a46:=Tryz.isAgg331
 z46:=Tryz.sizeOf331
 v46:=Tryz.zeroValue331
 t50:=Tryz.underlying249
 a50:=Tryz.isAgg249
 z50:=Tryz.sizeOf249
 v50:=Tryz.zeroValue249
 t53:=Tryz.underlying337
 a53:=Tryz.isAgg337
 z53:=Tryz.sizeOf337
 v53:=Tryz.zeroValue337
 t55:=Tryz.underlying52
 a55:=Tryz.isAgg52
 z55:=Tryz.sizeOf52
 v55:=Tryz.zeroValue52
 t66:=Tryz.underlying346
 a66:=Tryz.isAgg346
 z66:=Tryz.sizeOf346
 v66:=Tryz.zeroValue346
 t70:=Tryz.underlying350
 a70:=Tryz.isAgg350
 z70:=Tryz.sizeOf350
 v70:=Tryz.zeroValue350
 t76:=Tryz.underlying355
 a76:=Tryz.isAgg355
 z76:=Tryz.sizeOf355
 v76:=Tryz.zeroValue355
 t77:=Tryz.underlying89
 a77:=Tryz.isAgg89
 z77:=Tryz.sizeOf89
 v77:=Tryz.zeroValue89 }
end Go.Proofs
end
section
namespace Go.Proofs.R
open Go Go.RowKit Go.Sort Go.Shelf Go.Lib
theorem aqB(x y:o.Node)(W:A_):Calls Tryz.prog 194 #[.agg #[.int .i64 x.op,.int .i64 x.n],.agg #[.int .i64 y.op,.int .i64 y.n]] W fun e w'=>e = .returned (.int .i64 (o.B8 x y))/\∃q am8,w'=grow (W.drewN q) am8:=by
 go_enter Tryz.func194,Tryz.ntmps194
 go_wp2
 all_goals go_ret
 all_goals refine⟨?_,0,_,by rw[alloc_eq_grow,alloc_eq_grow,grow_grow];rfl⟩
 all_goals (congr 2;unfold o.B8;repeat' split)
 all_goals first | omega | rfl
theorem amx:SWO (ltOf o.B8) where
 irrefl x:=by
  have:=o.ams x
  rw[<-o.Kh] at this;simpa[ltOf] using this
 trans x y z h1 I:=by
  simp only[ltOf,decide_eq_true_eq] at h1 I ⊢;rw[o.Kh] at *;exact o.amt x y z h1 I
 ntrans x y z h1 I:=by
  simp only[ltOf,decide_eq_false_iff_not] at h1 I ⊢;rw[o.Kh] at *;unfold o.ny at *;omega
instance:Inhabited o.Node:=⟨⟨0,0⟩⟩
theorem anS{w:A_}{b:Nat}{cur:Array B_}{e:F_}{d:Array B_}(h:w.heap[b]? = some (.cells cur e)):(putRow id w b 0 d).heap[b]? = some (.cells (putCells id 0 d cur) e):=by
 unfold putRow mapBlock;simp only[Array.getElem?_modify,if_true,h,Option.map_some,onCells]
theorem anT{w:A_}{b k:Nat}{d:Array B_}(h:k≠b):(putRow id w b 0 d).heap[k]? = w.heap[k]? := by
 unfold putRow mapBlock;simp only[Array.getElem?_modify];rw[if_neg (fun e=>h e.symm)]
theorem aay{w:A_}{b:Nat}{d:Array B_}:(putRow id w b 0 d).heap.size=w.heap.size:=by
 unfold putRow mapBlock;simp
theorem Wm{d:Array o.Node}{i:Nat}(h:i<d.size):(flatK o.Node.enc 2 d)[2*i]! = .int .i64 d[i].op/\(flatK o.Node.enc 2 d)[2*i+1]! = .int .i64 d[i].n:=by
 constructor
 .rw[get_flatK _ _ _ _ (by omega),show 2*i / 2=i from by omega,show 2*i % 2=0 from by omega,getElem!_pos _ i h];rfl
 .rw[get_flatK _ _ _ _ (by omega),show(2*i+1) / 2=i from by omega,show(2*i+1) % 2=1 from by omega,getElem!_pos _ i h];rfl
theorem apI{w:A_}{b n:Nat}{l:C_ o.Node}{d:Array o.Node}{os:Array Obj}(h:hn w b l)(a6:d.size=l.length):hn (sortWorldK o.Node.enc 2 w b 0 n d os) b d.toList/\bb.Mod (fun i=>i=b) w (sortWorldK o.Node.enc 2 w b 0 n d os):=by
 obtain⟨cur,h1,I,ab⟩:=h.ex;have ch:=bb.cy h1;have sP:(Sort.ahead w n).heap[b]? = some (.cells cur T.f):=h1;have aK:∀k,k<w.heap.size->(sortWorldK o.Node.enc 2 w b 0 n d os).heap[k]? = (putRow id (Sort.ahead w n) b 0 (flatK o.Node.enc 2 d)).heap[k]? := fun k hk=>by
  unfold sortWorldK grow putRowK;exact Array.getElem?_append_left (by rw[aay];exact hk)
 constructor
 .refine⟨_,(aK b ch).trans (anS sP),by simp[putCells];omega,fun i U=>?_⟩;have cE:i<d.size:=by simpa using U
  obtain⟨f1,f2⟩:=Wm cE;simp only[putCells,Array.getElem?_mapIdx,size_flatK,Array.getElem_toList];constructor
  .rw[Array.getElem?_eq_getElem (show 2*i<cur.size by omega),Option.map_some,if_pos (by omega),Nat.sub_zero,f1];rfl
  .rw[Array.getElem?_eq_getElem (show 2*i+1<cur.size by omega),Option.map_some,if_pos (by omega),Nat.sub_zero,f2];rfl
 .refine⟨rfl,rfl,rfl,?_,fun k hk ay=>(aK k hk).trans (anT ay)⟩;unfold sortWorldK grow putRowK;rw[Array.size_append,aay];exact Nat.le_add_right _ _
theorem apx{P:D_}{t:F_}{k:Nat}(h:(P.info? t).map (·.size)=some k)(w:A_):(Go.sizeOf t).run P w = .ok k w:=by
 cases U:P.info? t with
 | none=>rw[U] at h;cases h
 | some i =>
  rw[U] at h;have I:i.size=k:=by simpa using h
  simp[Go.sizeOf,bb.tt U,I]
theorem apG(b c:Nat)(l:C_ o.Node)(w:A_)(h:hn w b l)(aF:l.length<=1000000) :
  bb.a7 Tryz.prog F.gc #[.slice (some ⟨b,0,none⟩) l.length c,.func (.func F.H3) #[] #[]] w fun _ w' => ∃r:C_ o.Node,r.Perm l/\r.Pairwise (fun x y => ¬o.ny y x)/\hn w' b r/\bb.Mod (fun i=>i=b) w w':=by
 obtain⟨cur,h1,I,ab⟩:=h.ex;have NJ:=AnyQ.slices_SortFunc Tryz.abw 2 (fun w=>bb.yl (t:=T.f) (b:=true) (by kernel_rfl) w) (fun w=>apx (t:=T.f) (by kernel_rfl) w) o.Node.enc (fun _=>rfl) (fun x v aG=>by simp[o.Node.enc] at aG;rcases aG with rfl | rfl<;>rfl) o.B8 amx F.H3 #[] b 0 c l.toArray w
  (enters_of Tryz.func194 (by kernel_rfl) rfl) (fun _ _ _ _ x y=>aqB x y _) ?_ (bb.cy h1) (by simp;omega)
 .change Calls Tryz.prog F.gc _ _ _ at NJ;simp only[List.size_toArray] at NJ;refine Calls.mono NJ ?_;rintro e w' ⟨rfl,vm,n,os,ar,an,rfl⟩;have dy:vm.size=l.length:=by simpa using ar.1
  obtain⟨cC,cS⟩:=apI (n:=n) (os:=os) h dy;refine⟨_,rfl,vm.toList,?_,?_,cC,cS⟩
  .have:=ar.2.2
   rw[show vm.extract 0 l.length=vm from by rw[<-dy];simp,show l.toArray.extract 0 l.length=l.toArray from by simp] at this;simpa using this
  .rw[List.pairwise_iff_getElem];intro i j U aE BJ;have cE:i<vm.size:=by simpa using U
   have et:j<vm.size:=by simpa using aE
   have:=an i j (Nat.zero_le _) BJ (by omega)
   rw[getElem!_pos _ i cE,getElem!_pos _ j et] at this;simp only[ltOf,decide_eq_false_iff_not] at this;rw[o.Kh] at this;simpa using this
 .unfold HoldsK Holds;intro j aE;rw[size_flatK] at aE;have l7:j<2*l.length:=by simp at aE;omega
  have U:j / 2<l.length:=by omega
  obtain⟨f1,f2⟩:=Wm (d:=l.toArray) (i:=j / 2) (by simpa using U);obtain⟨g1,g2⟩:=ab (j / 2) U;have nY:w.frozen? ⟨b,0+j,none⟩=false:=by simp[World.frozen?,h1]
  refine⟨?_,nY⟩;rw[Nat.zero_add];rcases Nat.mod_two_eq_zero_or_one j with e | e
  .have rA:2*(j / 2)=j:=by omega
   rw[rA] at f1 g1;rw[f1];exact Dr h1 (by simpa using g1)
  .have rA:2*(j / 2)+1=j:=by omega
   rw[rA] at f2 g2;rw[f2];exact Dr h1 (by simpa using g2)
end Go.Proofs.R
end
section
namespace o
open Go
def yp(e:C_ Node):C_ Node:=e.filter fun x=>tv x.op
theorem apS{e:C_ Node}{k:Nat}(h:k<e.length):yp (e.take (k+1))=yp (e.take k)++if tv e[k].op then [e[k]] else []:=by
 unfold yp;rw[List.take_succ_eq_append_getElem h,List.filter_append];cases an:tv e[k].op<;>simp[an]
theorem abB(e:C_ Node):(yp e).length<=e.length:=List.length_filter_le _ _
theorem ab2{e s:C_ Node}(ar:s.Perm (yp e))(an:s.Pairwise fun x y => ¬ny y x):GD e (comp s):=by
 refine⟨Vm s an,fun x=>?_⟩;rw[Mp,ar.mem_iff];unfold yp;rw[List.mem_filter]
end o
namespace Go.Proofs.R
open Go Go.RowKit bb
theorem amv(x:o.Node):∀u∈x.enc,u.oneCell'=true:=by simp[o.Node.enc,Value.oneCell']
theorem Wk:∀(l:C_ o.Node) (i:Nat) (h:i<l.length),(l.flatMap o.Node.enc)[2*i]? = some (.int .i64 l[i].op)/\(l.flatMap o.Node.enc)[2*i+1]? = some (.int .i64 l[i].n)
 | x :: l,0,_=>⟨rfl,rfl⟩
 | x :: l,i+1,h=>by
  have eS:=Wk l i (by simpa using h);rw[show 2*(i+1)=2*i+2 from by omega,show 2*i+2+1=(2*i+1)+2 from by omega];exact eS
theorem amA{w:A_}{base:Nat}{v:B_}{l:C_ o.Node}(h:aW o.Node.enc T.f 2 base w v l)(aF:l≠[]):∃b c,v = .slice (some ⟨b,0,none⟩) l.length c/\base<=b/\hn w b l/\l.length<=c/\c<=maxLen:=by
 rcases h.2 with ⟨_,af⟩ | ⟨g,cap,cur,h1,I,ab,aD,aY,bx,b1⟩
 .exact absurd (List.eq_nil_of_length_eq_zero af) aF
 .refine⟨g,cap,h1,I,⟨cur,ab,by omega,fun i U=>?_⟩,aD,aY⟩;have get:∀j,j<2*l.length->cur[j]? = (l.flatMap o.Node.enc)[j]? := fun j aE=>by
   rw[<-b1,List.getElem?_take_of_lt (by omega),Array.getElem?_toList]
  rw[get _ (by omega),get _ (by omega)];exact Wk l i U
structure LH(w:World)(base:Nat)(v:Value)(l:List o.Node):Prop where
 ex:(l=[]/\∃p c,v = .slice p 0 c/\c<=maxLen)\/∃b c,v = .slice (some ⟨b,0,none⟩) l.length c/\base<=b/\hn w b l/\l.length<=c/\c<=maxLen
theorem apF(p:H_ Addr)(c:Nat)(w:A_):a7 Tryz.prog F.gc #[.slice p 0 c,.func (.func F.H3) #[] #[]] w fun _ w'=>Ext w w':=by
 have h:=AnyF.slices_SortFunc_none Tryz.abw p c (.func (.func F.H3) #[] #[]) w;change Calls Tryz.prog F.gc _ _ _ at h;refine Calls.mono h ?_;rintro e w' ⟨rfl,rfl⟩;exact⟨_,rfl,Ext.refl _⟩
theorem ae0(p:H_ Addr)(c:Nat)(w:A_):a7 Tryz.prog F.v #[.slice p 0 c] w fun v w'=>v = .slice p 0 c/\Ext w w':=by
 refine u1 E.v ?_;refine nO ?_;refine aa ?_;exact⟨aU,Ext.refl _⟩
theorem aqE(v:B_)(e:C_ o.Node)(w:A_)(h:o.eV w v e)(aF:e.length<=1000000) :
  a7 Tryz.prog F.ds #[v] w fun u w'=>(∃r,o.GD e r/\LH w' w.heap.size u r)/\Ext w w':=by
 obtain⟨aQ,fD,rfl,_⟩:=h.form;refine bn E.ds ?_;refine aa ?_;refine L_ 8 e.length [2,6,7] (fun u:B_=>[(3,u)]) (.slice none 0 0) (fun k u W=>aW o.Node.enc T.f 2 w.heap.size W u (o.yp (e.take k))/\Ext w W) bc bc ⟨aW.nil _ _ _ _ _,Ext.refl _⟩ ?_;rintro k u S w1 hk ⟨hu,al⟩;refine aa ?_;apply I_<;>intro g1
 .have cH:k<e.length:=by omega
  obtain⟨a,rfl⟩:=h.addr;have ag:=(h.at k cH).cells.ext al;obtain⟨Ca,rz,rfl,_⟩:=hu.form;have kQ:=o.abB (e.take k);have h9:=o.apS cH;unfold o.Node.enc at ag;rw[List.length_take] at kQ;refine eh ?_;simp -dsimp only[cB];refine eh ?_;simp -dsimp only[cB];refine eh ?_;intro aH dx k9 ao cc;have OU:=hu.ext ao;have aI:=al.trans ao;simp -dsimp only[cB];refine eh ?_;refine S_ [2,3,5,6,7,8] (fun t:Bool=>[(14,.bool t)]) (fun t W=>t=o.tv e[k].op/\W=aH) ?_ ?_
  .have sp:∀b,(b=true↔(e[k].op=2\/e[k].op=3\/e[k].op=4\/e[k].op=6\/e[k].op=7))->b=o.tv e[k].op:=fun b ak=>by
    unfold o.tv;cases b with
    | true=>exact(decide_eq_true (ak.1 rfl)).symm
    | false=>exact(decide_eq_false fun q=>by have:=ak.2 q;cases this).symm
   refine aa ?_;apply I_<;>intro g2
   .refine aa ?_;exact⟨_,⟨aU,trivial⟩,sp _ (by simp[g2]),aU⟩
   refine aa ?_;apply I_<;>intro g3
   .refine aa ?_;exact⟨_,⟨aU,trivial⟩,sp _ (by simp[g3]),aU⟩
   refine aa ?_;apply I_<;>intro g4
   .refine aa ?_;exact⟨_,⟨aU,trivial⟩,sp _ (by simp[g4]),aU⟩
   refine aa ?_;apply I_<;>intro g5
   .refine aa ?_;exact⟨_,⟨aU,trivial⟩,sp _ (by simp[g5]),aU⟩
   refine aa ?_;exact⟨_,⟨aU,trivial⟩,sp _ (by simp[g2,g3,g4,g5]),aU⟩
  rintro t kB aP ⟨rfl,rfl⟩;refine aa ?_;cases xZ:o.tv e[k].op with
  | true =>
   rw[xZ,if_pos rfl] at h9;refine aa ?_;intro aR arG asg aA Ip;refine aa ?_;refine V_ (y:=e[k]) (OU.ext aA) Ip rfl (fun _=>rfl) amv (by omega) (by unfold maxLen;omega) (by have:=aA.size;have:=aI.size;omega) fun aQ n c bq dL iE=>?_;have aJ:=aW.mw (OU.ext aA) (aI.trans aA) iE (Nat.le_refl _);refine aa ?_;refine⟨cH,aU,_,⟨rfl,trivial⟩,?_,aJ⟩;rw[h9];exact dL
  | false =>
   rw[xZ,if_neg (by simp),List.append_nil] at h9;refine aa ?_;refine⟨cH,aU,_,⟨aU,trivial⟩,?_,aI⟩;rw[h9];exact OU
 .have kq:k=e.length:=by omega
  rw[kq,List.take_length] at hu;have kQ:=o.abB e;by_cases ay:o.yp e=[]
  .rw[ay] at hu;obtain⟨Ca,rz,rfl,_⟩:=hu.form;have aiz:rz<=maxLen:=by
    obtain⟨kv,cap,h1,_,ab,_⟩:=(aW.jH (enc:=o.Node.enc) (fun _=>rfl) hu).ex;injection h1 with _ _ h1
    omega
   have aku:o.GD e (o.comp []):=o.ab2 (s:=[]) (by rw[ay]) List.Pairwise.nil;refine aa ?_;refine J_ (apF Ca rz w1) ?_;rintro _ aH ao;refine aa ?_;refine J_ (ae0 Ca rz aH) ?_;rintro _ aP ⟨rfl,aj⟩;refine aa ?_;exact⟨⟨_,aku,⟨.inl ⟨rfl,Ca,rz,rfl,aiz⟩⟩⟩,(al.trans ao).trans aj⟩
  .obtain⟨b,c,rfl,ak,aL,ah,hm⟩:=amA hu ay;refine aa ?_;refine J_ (apG b c _ w1 aL (by omega)) ?_;rintro _ aH ⟨s,ar,an,jV,fA⟩;have akq:=ar.length_eq;have dR:=o.Mo s;rw[<-akq];refine aa ?_;refine J_ (ae1 b c s aH jV (by omega) hm) ?_;rintro _ aP ⟨rfl,aj9,iW⟩;refine aa ?_;exact⟨⟨_,o.ab2 ar an,⟨.inr ⟨b,c,rfl,ak,aj9,by omega,hm⟩⟩⟩,(fA.trans iW).ext al fun i U e=>by omega⟩
end Go.Proofs.R
end
section
namespace o
open Go
theorem aqz{m:Model}{x:Node}(h:tv x.op=false):gi m 0 false x=[]:=by
 unfold tv at h;have h:=of_decide_eq_false h;unfold gi;rw[if_neg (by omega),if_neg (by omega),if_neg (by omega),if_neg (by omega),if_neg (by omega)]
theorem aqD{m:Model}{e r:C_ Node}(h:GD e r)(z:Int):z∈r.flatMap (gi m 0 false)↔z∈yf m e:=by
 unfold yf;simp only[List.mem_flatMap];constructor
 .rintro⟨x,ag,bA⟩;exact⟨x,((h.mem x).1 ag).1,bA⟩
 .rintro⟨x,ag,bA⟩;cases an:tv x.op with
  | false=>rw[aqz an] at bA;cases bA
  | true=>exact⟨x,(h.mem x).2 ⟨ag,an⟩,bA⟩
def ym(m:Model)(k:Nat):C_ Int:=(m.props.take k).flatMap fun p=>yf m p.expr
theorem api{m:Model}{k:Nat}(h:k<m.props.length):ym m (k+1)=ym m k++yf m m.props[k].expr:=by
 unfold ym;rw[List.take_succ_eq_append_getElem h,List.flatMap_append];simp
theorem aph(m:Model):ym m m.props.length=qe m:=by unfold ym qe;rw[List.take_length]
end o
namespace Go.Proofs.R
open Go Go.RowKit bb
theorem LH.form{w:A_}{base:Nat}{v:B_}{r:C_ o.Node}(h:LH w base v r):∃aQ c,v = .slice aQ r.length c/\(0<r.length->∃b,aQ=some ⟨b,0,none⟩/\base<=b/\hn w b r/\r.length<=c/\c<=maxLen):=by
 rcases h.ex with ⟨rfl,p,c,rfl,_⟩ | ⟨b,c,rfl,ak,aL,ah,hm⟩
 .exact⟨p,c,rfl,fun h=>absurd h (Nat.lt_irrefl _)⟩
 .exact⟨_,c,rfl,fun _=>⟨b,rfl,ak,aL,ah,hm⟩⟩
theorem Px{a b c d e:H_ Addr}{lq ku qd tf n5 c1 c2 br bF yW:Nat}{n:Int}:∀x∈(#[.slice a lq c1,.slice b ku c2,.slice c qd br,.int .i64 n,.slice d tf bF,.slice e n5 yW]:Array B_).toList,x.oneCell'=true:=by simp[Value.oneCell']
theorem apo(cs:C_ B_)(m:o.Model)(w:A_)(h:o.dV w cs m)(aK:m.cN)(aM:gB w) :
  a7 Tryz.prog F.rz #[.agg cs.toArray] w fun u w'=>(∃b n,((o.oc m=[]/\n=0/\u = .slice none 0 0)\/u = .slice (some ⟨b,0,none⟩) n n/\n=(o.oc m).length/\w.heap.size<=b/\w'.heap[b]? = some (.cells (nQ (o.oc m)).toArray T.n)))/\Ext w w':=by
 have dw:=h;obtain⟨cd,bw,bO,c1,bV,c2,b2,br,cj,bF,rfl,af,h1,I,ab,aD,eU,ek,ev,ef,ew⟩:=h.form;refine bn E.rz ?_;refine aa ?_;intro w1 bo cT al ai;refine aa ?_;refine J_ (x9 _ m w1 (dw.ext al) aK (aM.ext al)) ?_;rintro _ aH ⟨rfl,ao⟩;replace ai:=ao.obj ai;have aI:=al.trans ao;refine aa ?_;refine _A (v:=.int .i64 (o.check m).cA) rfl ?_;refine aa ?_;apply I_<;>intro g1;rotate_left
 .have e:o.oc m=[]:=by unfold o.oc;rw[if_neg g1]
  refine aa ?_;exact⟨⟨0,0,.inl ⟨e,rfl,aU⟩⟩,aI⟩
 have jU:=o.ir g1;have zx:o.lay m=o.layout m:=by unfold o.lay;rw[if_pos g1]
 refine eh ?_;refine S_ [1] (fun x:Nat×B_=>[(3,.pointer (some ⟨x.1,0,none⟩)),(4,x.2)]) (fun x W => ∃ys:C_ B_,W.heap[x.1]? = some (.cells ys.toArray T.h)/\o.jN W ys (o.layout m)/\ke W x.2 (o.insts m)/\Ext aH W) ?_ ?_
 .have IP:∀{W},Ext aH W->a7 Tryz.prog F.a #[.agg #[.slice cd m.scalars.length bw,.slice bO m.vars.length c1,.slice bV m.aw.length c2,.slice b2 m.procs.length br,.slice cj m.props.length bF]] W fun v w'=>(∃ff d0 dZ d1 eK d2 e5 d3 fu d4,v = .agg #[.slice ff (o.layout m).vars.length d0,.slice dZ (o.layout m).aw.length d1,.slice eK (o.layout m).insts.length d2,.int .i64 (o.layout m).cells,.slice e5 (o.layout m).aO.length d3,.slice fu (o.layout m).U.length d4]/\eD W (fun w=>o.jN w [.slice ff (o.layout m).vars.length d0,.slice dZ (o.layout m).aw.length d1,.slice eK (o.layout m).insts.length d2,.int .i64 (o.layout m).cells,.slice e5 (o.layout m).aO.length d3,.slice fu (o.layout m).U.length d4] (o.layout m)) w')/\Ext W w':=fun {W} he=>(EX _ m W (dw.ext (aI.trans he)) aK (aM.ext (aI.trans he))).mono fun v w' ⟨⟨xs,aG,ay⟩,hR⟩=>by
   rw[zx] at ay;obtain⟨ff,d0,dZ,d1,eK,d2,e5,d3,fu,d4,rfl,_⟩:=ay.here.form;exact⟨⟨ff,d0,dZ,d1,eK,d2,e5,d3,fu,d4,aG,ay⟩,hR⟩
  have vL:∀{W},Ext aH W->a7 Tryz.prog F.b #[.agg #[.slice cd m.scalars.length bw,.slice bO m.vars.length c1,.slice bV m.aw.length c2,.slice b2 m.procs.length br,.slice cj m.props.length bF]] W fun v w'=>(∃cx ci,v = .slice cx (o.insts m).length ci/\aW o.cZ.enc T.e 2 W.heap.size w' v (o.insts m))/\Ext W w':=fun {W} he=>(v7 _ m W (dw.ext (aI.trans he)) aK).mono fun v w' ⟨aG,hR⟩=>by
   obtain⟨cx,ci,rfl,_⟩:=aG.form;exact⟨⟨cx,ci,rfl,aG⟩,hR⟩
  refine eh ?_;intro aP aj;replace ai:=aj.obj ai;refine aa ?_;refine⟨?_,?_⟩
  .refine J_ (IP aj) ?_;rintro _ aR ⟨⟨ff,d0,dZ,d1,eK,d2,e5,d3,fu,d4,rfl,cI⟩,aA⟩;have bG:=aj.trans aA;refine⟨aA,?_⟩;refine aa ?_;refine⟨?_,?_⟩
   .refine J_ (vL bG) ?_;rintro _ bq ⟨⟨cx,ci,rfl,a8⟩,aJ⟩;have bU:=bG.trans aJ;refine aa ?_;intro bB b0 fW aT bu;refine⟨(aA.trans aJ).trans aT,?_⟩;refine T_ bu rfl rfl Px fun bQ dT c9=>?_;have dQ:=dT.ext aT fW;refine aa ?_;exact⟨(b0,_),⟨aU,aU,trivial⟩,_,c9,cI.here.ext (aJ.trans dQ),(aW.iv (enc:=o.cZ.enc) (fun _=>rfl) a8).ext Flat.ext dQ,bU.trans dQ⟩
   .refine O_ ?_;intro bq b0 fW aJ bu;have bU:=bG.trans aJ;have ch:=cy bu;refine⟨aA.trans aJ,?_⟩;refine aa ?_;refine J_ (vL bU) ?_;rintro _ bB ⟨⟨cx,ci,rfl,a8⟩,aT⟩;refine aa ?_;refine T_ (aT.obj bu) rfl rfl Px fun bQ dT c9=>?_;have dQ:=dT.ext (aJ.trans aT) fW;refine aa ?_;exact⟨(b0,_),⟨aU,aU,trivial⟩,_,c9,cI.here.ext dQ,aW.iv (enc:=o.cZ.enc) (fun _=>rfl) (aW.wr dT ch a8),bG.trans dQ⟩
  .refine O_ ?_;intro aR b0 fW aA bu;have bG:=aj.trans aA;have ch:=cy bu;refine⟨aA,?_⟩;refine aa ?_;refine J_ (IP bG) ?_;rintro _ bq ⟨⟨ff,d0,dZ,d1,eK,d2,e5,d3,fu,d4,rfl,cI⟩,aJ⟩;have bU:=bG.trans aJ;have z5:=aJ.size;refine⟨aA.trans aJ,?_⟩;refine aa ?_;refine J_ (vL bU) ?_;rintro _ bB ⟨⟨cx,ci,rfl,a8⟩,aT⟩;refine aa ?_;refine T_ ((aJ.trans aT).obj bu) rfl rfl Px fun bQ dT c9=>?_;have dQ:=dT.ext ((aA.trans aJ).trans aT) fW;refine aa ?_;exact⟨(b0,_),⟨aU,aU,trivial⟩,_,c9,((cI.ext aT z5).wr dT ch).here,aW.iv (enc:=o.cZ.enc) (fun _=>rfl) (aW.wr dT (by omega) a8),aj.trans dQ⟩
 rintro⟨b0,bM⟩ S aP ⟨ys,bu,cI,a8,aj⟩;dsimp only at bu cI a8 ⊢;replace ai:=aj.obj ai;have ba:=aI.trans aj;have zg:=cI;obtain⟨ff,d0,dZ,d1,eK,d2,e5,d3,fu,d4,rfl,_⟩:=cI.form;have dR:(o.layout m).cells=(o.dW m:Nat):=rfl;have qK:o.dW m<=64:=o.kt jU;have sU:=o.aat g1;refine aa ?_;refine AD3 (o.dW m) dR (by omega) fun aR b ak aA bH=>?_;refine aa ?_;intro wn bJ nV fm eQ;refine aa ?_;intro bq fb kM;have aJ:Ext aR bq:=fb.ext fm nV;clear eQ;have jM:=aA.trans aJ;have pd:mu bq bJ b (o.dW m) (o.ym m 0):=⟨kM,_,aJ.obj bH,o.ov.start _⟩;have k9:=cy (aJ.obj bH);have rG:∀{W},Mod (fun i=>i=b) bq W->Ext aP W:=fun hm=>hm.ext jM fun k hk e=>by omega
 have aiq:=jM.obj ai;have air:=jM.obj bu;clear bH kM;refine aa ?_;refine L_ 24 m.props.length [1,3,4,5,22,23] (fun _:Unit=>[]) () (fun k _ W=>mu W bJ b (o.dW m) (o.ym m k)/\Mod (fun i=>i=b) bq W) bc bc ⟨pd,Mod.refl _ _⟩ ?_;rintro k _ kB bB hk ⟨Ic,jC⟩;have xB:=rG jC;have c8:=ba.trans xB;have ah8:=Ic.box;have oD:=xB.obj ai;have aih:=xB.obj bu;clear aiq air;refine aa ?_;apply I_<;>intro g2;rotate_left
 .have kq:k=m.props.length:=by omega
  rw[kq,o.aph] at Ic;obtain⟨ad,aM,an⟩:=Ic.row;have s3:=an.apm g1;subst s3;have aF:=an.len;refine aa ?_;exact⟨⟨b,o.dW m,.inr ⟨rfl,aF.symm,by have:=ba.size;omega,aM⟩⟩,c8⟩
 have cH:k<m.props.length:=by omega
 obtain⟨a4,rfl⟩:=aD.addr;obtain⟨lM,gI,dD,hh⟩:=aD.at k cH;obtain⟨Km,ce,rfl,_⟩:=hh.form;have e9:=o.Qc g1 cH;have hle:=e9.len;unfold o.k0.enc at dD;have ajV:=dD.ext c8;refine aa ?_;intro bQ ho h6 bz c9;have dQ:=c8.trans bz;refine aa ?_;refine J_ (aqE _ m.props[k].expr bQ (hh.ext dQ) (by omega)) ?_;rintro _ de ⟨⟨r,aL,ahp⟩,bP⟩;obtain⟨aQ,c,rfl,mF⟩:=ahp.form;have vI:=bz.trans bP;have zi:=Ic.ext vI;have iF:=jC.trans vI.mod;have oC:=bz.size;have fX:b<bB.heap.size:=by have:=jC.size;omega
 clear c9 ajV ah8 oD aih;refine aa ?_;refine L_ 32 r.length [1,3,4,5,22,23,24,30,31] (fun _:Unit=>[]) () (fun i _ W=>mu W bJ b (o.dW m) (o.ym m k++(r.take i).flatMap (o.gi m 0 false))/\Mod (fun i=>i=b) de W) bc bc ⟨by simpa using zi,Mod.refl _ _⟩ ?_;rintro i _ GA dc U ⟨Ie,mB⟩;have X9:=iF.trans mB;have Ia:=rG X9;have jQ:=ba.trans Ia;have Xc:=Ie.box;have D7:=Ia.obj ai;have Xd:=Ia.obj bu;refine aa ?_;apply I_<;>intro g3;rotate_left
 .have ai5:i=r.length:=by omega
  rw[ai5,List.take_length] at Ie;refine aa ?_;refine⟨cH,aU,(),trivial,Ie.congr fun z=>?_,X9⟩;rw[o.api cH,List.mem_append,List.mem_append,o.aqD aL]
 have p0:i<r.length:=by omega
 obtain⟨o4,rfl,Nr,ajE,IZ,Yt⟩:=mF (by omega);have Bo:=(ajE.mod mB (by omega)).abv IZ Yt;obtain⟨O9,_⟩:=(aL.mem r[i]).1 (List.getElem_mem p0);have asU:r.length<=9223372036854775807:=by unfold maxLen at Yt;omega
 have di:(r[i]).ok:=by
  have Yn:=List.length_pos_of_mem O9;obtain⟨ru,rfl⟩:=hh.addr Yn;obtain⟨j,aE,rA⟩:=List.mem_iff_getElem.1 O9;rw[<-rA];exact(hh.at j aE).ok
 have ako:=o.aau g1 cH O9;refine aa ?_;intro eY j7 l4 cG dX;replace Xc:=cG.obj Xc;replace D7:=cG.obj D7;replace Xd:=cG.obj Xd;refine aa ?_;refine J_ (afq r[i] _ _ _ bJ b _ m aP eY (dw.ext ba) zg a8 (Ia.trans cG) ak (Ie.ext cG) jU ako di) ?_;rintro _ gw ⟨ahP,BO⟩;refine aa ?_;refine⟨p0,aU,(),trivial,?_,(mB.trans cG.mod).trans BO⟩;rw[List.take_succ_eq_append_getElem p0,List.flatMap_append,<-List.append_assoc];simpa using ahP
theorem Vy(cs:C_ B_)(bM:B_)(m:o.Model)(ref:Int)(q p k:Nat)(w:A_)(h:o.dV w cs m)(a8:ke w bM (o.insts m))(bC:o.eM m ref q p k)(x:o.Ref)(mG:x.inst=q)(gp:x.cmd=k) :
  a7 Tryz.prog F.g #[.agg cs.toArray,bM,.agg x.enc.toArray] w fun u w'=>(∃gu ea,u = .agg ((o.bI m p k).enc gu ea).toArray/\o.eV w gu (o.bI m p k).guard/\o.mQ w ea (o.bI m p k).bY)/\Ext w w':=by
 obtain⟨cd,bw,bO,c1,bV,c2,b2,br,cj,bF,rfl,af,h1,I,ab,aD,eU,ek,ev,ef,ew⟩:=h.form;obtain⟨cx,ci,rfl,_⟩:=a8.form;have au:=bC.at_.U;have ar:=bC.at_.ar;have oG:=bC.at_.hk;have pg:=bC.at_.ip;obtain⟨iP,rfl⟩:=a8.addr;obtain⟨a3,rfl⟩:=ab.addr;obtain⟨lM,b7,ec,dD,e2,fO⟩:=ab.at p ar;obtain⟨Fi,Dq,rfl,EY⟩:=fO.form;obtain⟨ac,rfl⟩:=fO.addr;obtain⟨eQ,gu,ea,hf,kP,iX⟩:=fO.at k oG;obtain⟨gy,ga,rfl,_⟩:=kP.form;obtain⟨wv,vi,rfl,_⟩:=iX.form;have la:=o.xl ar oG;have tR:x.enc=[.int .i64 q,.int .i64 k]:=by unfold o.Ref.enc;rw[mG,gp]
 rw[tR];unfold o.dz.enc at dD;unfold o.dI.enc at hf;refine bn E.g ?_;refine aa ?_;intro w1 b0 fW al bu;refine aa ?_;intro aH dx k9 ao cc;replace bu:=ao.obj bu;refine aa ?_;intro aP dP fX aj b4;replace bu:=aj.obj bu;replace cc:=aj.obj cc;have ba:=(al.trans ao).trans aj;have jK:=al.size;have re:=ao.size;intro aR aA;replace bu:=aA.obj bu;replace cc:=aA.obj cc;replace b4:=aA.obj b4;have bG:=ba.trans aA;have WL:=a8.ext Flat.ext bG;have asR:=dD.ext bG;have asy:=hf.ext bG;refine aa ?_;refine K_ p (by rw[pg]) ar ?_;refine aa ?_;intro bq fb aik;refine aa ?_;exact⟨⟨.slice gy (o.bI m p k).guard.length ga,.slice wv (o.bI m p k).bY.length vi,by rw[la];rfl,by rw[la];exact kP,by rw[la];exact iX⟩,fb.ext bG (by omega)⟩
structure w9(w:World)(bJ b:Nat)(ad:List Bool):Prop where
 box:w.heap[bJ]? = some (.cells #[.slice (some ⟨b,0,none⟩) ad.length ad.length] T.iP)
 row:w.heap[b]? = some (.cells (nQ ad).toArray T.n)
theorem w9.ext{w w':A_}{bJ b:Nat}{ad:C_ Bool}(h:w9 w bJ b ad)(he:Ext w w'):w9 w' bJ b ad:=⟨he.obj h.box,he.obj h.row⟩
def r7(ad:C_ Bool)(x:Int):Bool:=(ad[x.toNat]?).getD false
theorem ap3(x:Int)(bJ b:Nat)(ad:C_ Bool)(w:A_)(h:w9 w bJ b ad)(af:0<=x)(h1:x.toNat<ad.length) :
  a7 Tryz.prog F.s #[.int .i64 x,.pointer (some ⟨bJ,0,none⟩)] w fun v w'=>v = .bool (r7 ad x)/\Ext w w':=by
 have nV:=h.box;have ah:w.cell? (Addr.add ⟨b,0,none⟩ (x.toNat*1))=some (.bool (r7 ad x)):=fQ h.row (by rw[Nat.mul_one];simp[nQ,r7,h1]);refine bn E.s ?_;refine aa ?_;refine K_ x.toNat (by omega) h1 ?_;refine aa ?_;refine M_ ah ?_;refine aa ?_;exact⟨aU,Ext.refl _⟩
theorem apw(v:B_)(l:C_ Int)(bJ b:Nat)(ad:C_ Bool)(w:A_)(h:ee w v l)(bZ:0<l.length->w9 w bJ b ad)(aF:∀x∈l,0<=x/\x.toNat<ad.length) :
  a7 Tryz.prog F.p #[v,.func (.func F.s) #[] #[.pointer (some ⟨bJ,0,none⟩)]] w fun b9 w'=>b9 = .int .i64 (lE (r7 ad) l 0)/\Ext w w':=by
 obtain⟨bO,c1,rfl,bo⟩:=h.form;refine u1 E.p ?_;refine nO ?_;refine aa ?_;refine L_ 8 l.length [0,1,7] (fun _:Unit=>[]) () (fun k _ w'=>Ext w w'/\lE (r7 ad) l 0=lE (r7 ad) (l.drop k) k) bc bc ⟨Ext.refl _,by simp⟩ ?_;rintro k _ S aH hk ⟨ao,a8⟩;have I:=h.ext Flat.ext ao;refine aa ?_;apply I_<;>intro g1
 .have aZ:k<l.length:=by omega
  obtain⟨a,rfl⟩:=h.addr;obtain⟨q2,cV⟩:=aF _ (List.getElem_mem aZ);rw[MP aZ] at a8;refine aa ?_;refine U_ (first:=[]) (cap:=[.pointer (some ⟨bJ,0,none⟩)]) (by kernel_rfl) (ap3 l[k] bJ b ad aH ((bZ (by omega)).ext ao) q2 cV) ?_;rintro _ aP ⟨rfl,aj⟩;cases an:r7 ad l[k] with
  | true =>
   rw[an,if_pos rfl] at a8;refine aa ?_;exact⟨by rw[a8],ao.trans aj⟩
  | false =>
   rw[an,if_neg (by simp)] at a8;refine aa ?_;exact⟨aZ,aU,(),trivial,ao.trans aj,a8⟩
 .refine aa ?_;exact⟨by rw[a8,List.drop_eq_nil_of_le (by omega)];rfl,ao⟩
theorem apg(v:B_)(l:C_ Int)(bJ b:Nat)(ad:C_ Bool)(w:A_)(h:ee w v l)(bZ:0<l.length->w9 w bJ b ad)(aF:∀x∈l,0<=x/\x.toNat<ad.length) :
  a7 Tryz.prog F.n #[v,.func (.func F.s) #[] #[.pointer (some ⟨bJ,0,none⟩)]] w fun b9 w'=>b9 = .bool (l.any (r7 ad))/\Ext w w':=by
 refine u1 E.n ?_;refine nO ?_;refine aa ?_;refine J_ (apw v l bJ b ad w h bZ aF) ?_;rintro _ aH ⟨rfl,ao⟩;refine aa ?_;refine⟨?_,ao⟩;congr 1;exact Bool.eq_iff_iff.2 (by rw[decide_eq_true_eq];exact HL)
end Go.Proofs.R
end
section
end