/- Texts joined: DepD DepE UseP UseA SrtL UseB UseC LabE DepG DepH LabC LabH LabF LabG ModL ProcL LabI DepI DepF. -/
import Derived.Test.YtfdohkdifdemeaaGreatDoorQdtd
import Derived.Test.YtfdohkdifdemeaaGreatDoorQdtg
import Derived.Test.YtfdohkdifdemeaaGreatDoorQdth
import Derived.Test.YtfdohkdifdemeaaGreatDoorQdti
import Derived.Test.YtfdohkdifdemeaaGreatDoorQdtk
import Derived.Test.YtfdohkdifdemeaaGreatDoorQdtm
import Derived.Test.YtfdohkdifdemeaaGreatDoorQdto
import Derived.Shelf.SlGeneric
import Derived.Shelf.SlSortCmp.WholeK
import Derived.Shelf.SlSortCmp.NoneTotal
import Derived.Test.YtfdohkdifdemeaaGreatDoorChecked
set_option linter.all false
set_option maxRecDepth 8000
set_option maxHeartbeats 16000000
section
namespace o
open Go
def uu(x y:List Int×List Int):Bool:=decide (jk x.1 x.2 y.1 y.2)
def lB(L:List (List Int×List Int))(x:List Int×List Int):List Bool:=L.map (uu x)
def jo(L:List (List Int×List Int)):List (List Bool):=L.map (lB L)
theorem qT(L:List (List Int×List Int)):(jo L).length=L.length:=by simp[jo]
theorem vc(L:List (List Int×List Int))(x:List Int×List Int):(lB L x).length=L.length:=by simp[lB]
end o
namespace bt
open Go Go.RowKit
theorem akb(n:Nat):pL (Value.slice none 0 0).cells (n*1)=(List.replicate n (Value.slice none 0 0)).toArray:=by
 apply Array.ext_getElem?;intro i;by_cases h:i<n
 ·simp[pL,Value.cells,h,Nat.mod_one]
 ·simp[pL,h]
theorem K.Vy{di:Value→World→Prop}{w:World}{e:TypeId}{n:Int}{t}(N:Nat)(aH:n=N)(aB:N≤1000000)(hk:∀aq b,w.heap.size≤b→Ext w aq→aq.heap[b]? = some (.cells (List.replicate N (Value.slice none 0 0)).toArray e)→di (.slice (some ⟨b,0,none⟩) N N) aq) :
  yJ e 1 24 (.slice none 0 0) (.int .i64 n) (.int .i64 n) w di t:=by
 subst aH;refine K.pA ⟨by omega,by omega,by omega,by omega⟩ ?_;have h:=hk (w.alloc (.cells (List.replicate N (Value.slice none 0 0)).toArray e)) _ (Nat.le_refl _) ((Ext.refl w).alloc _) (heap_alloc_new w _);rw[Int.toNat_natCast,akb];exact h
theorem K.Nn{b c:Nat}{cur:Array Value}{w:World}{e:TypeId}{v:Value}{gq:World→Prop}{t}(h:w.heap[b]? = some (.cells cur e))(aw:c<cur.size)(aO:v.oneCell'=true)
  (hk:∀aq,dz b w aq→aq.heap[b]? = some (.cells (cur.set c v aw) e)→gq aq):qF (.pointer (some (Addr.add ⟨b,0,none⟩ (c*1)))) v w gq t:=by
 rw[Nat.mul_one];refine K.st (eN h (Array.getElem?_eq_getElem aw)) (by rw[add_eq];simp[World.frozen?,h]) aO (hk _ ?_ ?_)
 ·have:=dz.setCell w (Addr.add ⟨b,0,none⟩ c) v
  rwa[uZ] at this
 ·exact EH h aw v
end bt
namespace Go.Proofs.R
open Go Go.RowKit bt
structure kU(w:World)(dE n base:Nat)(b0:List Nat)(M:List (List Bool)):Prop where
 len:b0.length=M.length
 le:b0.length≤n
 row:w.heap[dE]? = some (.cells (b0.map (fun b=>Value.slice (some ⟨b,0,none⟩) n n)++List.replicate (n - b0.length) (Value.slice none 0 0)).toArray T.s)
 rows:∀j (h:j<b0.length) (bK:j<M.length),w.heap[b0[j]]? = some (.cells (im M[j]).toArray T.l)∧M[j].length=n
 low:∀b∈b0,base≤b
theorem kU.ext{w w':World}{dE n base:Nat}{b0:List Nat}{M:List (List Bool)}(h:kU w dE n base b0 M)(he:Ext w w'):kU w' dE n base b0 M :=
 ⟨h.len,h.le,he.obj h.row,fun j h1 U=>⟨he.obj (h.rows j h1 U).1,(h.rows j h1 U).2⟩,h.low⟩
theorem kU.lt{w:World}{dE n base:Nat}{b0:List Nat}{M:List (List Bool)}(h:kU w dE n base b0 M):∀b∈b0,b<w.heap.size:=fun b aB=>by
 obtain⟨j,aI,rfl⟩:=List.mem_iff_getElem.1 aB;exact cy (h.rows j aI (by have:=h.len;omega)).1
theorem kU.snoc{w w':World}{dE n base b:Nat}{b0:List Nat}{M:List (List Bool)}{r:List Bool}(h:kU w dE n base b0 M)(a1:b0.length<n)(he:dz dE w w')(aw:w'.heap[dE]? = some (.cells (b0.map (fun b=>Value.slice (some ⟨b,0,none⟩) n n)++Value.slice (some ⟨b,0,none⟩) n n :: List.replicate (n - (b0.length+1)) (Value.slice none 0 0)).toArray T.s))
  (aB:w'.heap[b]? = some (.cells (im r).toArray T.l))(bd:r.length=n)(kG:base≤b)(xo:∀c∈b0,c≠dE):kU w' dE n base (b0++[b]) (M++[r]):=by
 refine⟨by simp[h.len],by simp;omega,?_,fun j h1 U=>?_,fun c aw=>?_⟩
 ·rw[aw];simp
 ·by_cases e:j<b0.length
  ·rw[List.getElem_append_left e,List.getElem_append_left (by have:=h.len;omega)];obtain⟨dc,cY⟩:=h.rows j e (by have:=h.len;omega);exact⟨he.obj dc (xo _ (List.getElem_mem e)),cY⟩
  ·have ba:j=b0.length:=by simp at h1;omega
   subst ba;rw[List.getElem_append_right (Nat.le_refl _),List.getElem_append_right (by rw[h.len];exact Nat.le_refl _)];simp only[Nat.sub_self,h.len,List.getElem_cons_zero];exact⟨aB,bd⟩
 ·rcases List.mem_append.1 aw with aw | aw
  ·exact h.low c aw
  ·rw[List.mem_singleton] at aw;subst aw;exact kG
theorem kU.last{w w':World}{dE n base b:Nat}{b0:List Nat}{M:List (List Bool)}{r fI:List Bool}(h:kU w dE n base (b0++[b]) (M++[r]))(he:dz b w w')(aB:w'.heap[b]? = some (.cells (im fI).toArray T.l))(bd:fI.length=n)(aH:b∉b0)(xo:dE≠b) :
  kU w' dE n base (b0++[b]) (M++[fI]):=by
 have a1:=h.len;simp only[List.length_append,List.length_singleton] at a1;refine⟨by simp;omega,h.le,he.obj h.row xo,fun j h1 U=>?_,h.low⟩;by_cases e:j<b0.length
 ·obtain⟨dc,cY⟩:=h.rows j h1 (by simp;omega);rw[List.getElem_append_left e,List.getElem_append_left (by omega)] at dc;rw[List.getElem_append_left (by omega)] at cY;rw[List.getElem_append_left e,List.getElem_append_left (by omega)];exact⟨he.obj dc (fun ba=>aH (ba ▸ List.getElem_mem e)),cY⟩
 ·have ba:j=b0.length:=by simp at h1;omega
  subst ba;rw[List.getElem_append_right (Nat.le_refl _),List.getElem_append_right (by omega)];simp only[Nat.sub_self,show b0.length - M.length=0 from by omega,List.getElem_cons_zero];exact⟨aB,bd⟩
end Go.Proofs.R
namespace o
open Go
theorem iG.jx{m:Model}{ref:Int}{a b:List Int}(h:iG m ref a b):a.Pairwise (· < ·)∧b.Pairwise (· < ·):=by
 by_cases aL:Told m ref
 ·obtain⟨q,p,k,cv⟩:=rX aL;obtain⟨h1,U⟩:=h.there q p k cv;exact⟨h1.jx,U.jx⟩
 ·obtain⟨rfl,rfl⟩:=h.none aL;exact⟨List.Pairwise.nil,List.Pairwise.nil⟩
def qo(L:List (List Int×List Int))(x:List Int×List Int)(k:Nat):List Bool:=(lB L x).take k++List.replicate (L.length - k) false
theorem aid(L:List (List Int×List Int))(x:List Int×List Int):qo L x 0=List.replicate L.length false:=by simp[qo]
theorem M3{L:List (List Int×List Int)}{x:List Int×List Int}{k:Nat}(h:k≤L.length):(qo L x k).length=L.length:=by simp[qo,vc];omega
theorem aib(L:List (List Int×List Int))(x:List Int×List Int):qo L x L.length=lB L x:=by
 unfold qo;rw[List.take_of_length_le (by rw[vc];exact Nat.le_refl _),Nat.sub_self];simp
theorem aic{L:List (List Int×List Int)}{x:List Int×List Int}{k:Nat}(h:k<L.length):(qo L x k).set k (uu x L[k])=qo L x (k+1):=by
 have U:k<(lB L x).length:=by rw[vc];exact h
 have ah:(lB L x)[k]=uu x L[k]:=by simp[lB]
 unfold qo;rw[List.take_succ_eq_append_getElem U,ah,List.set_append_right _ _ (by simp;omega)]
 have:L.length - k=(L.length - (k+1))+1:=by omega
 rw[this,List.replicate_succ];simp[Nat.min_eq_left (Nat.le_of_lt U)]
end o
end
section
namespace Go.Proofs.R
open Go Go.RowKit bt
theorem aiF(l:List Value)(n:Nat)(z v:Value){i:Nat}(af:i=l.length)(aH:0<n)(h:i<(l++List.replicate n z).toArray.size):(l++List.replicate n z).toArray.set i v h=(l++v :: List.replicate (n - 1) z).toArray:=by
 subst af;obtain⟨k,rfl⟩:∃k,n=k+1:=⟨n - 1,by omega⟩;simp[List.replicate_succ]
theorem kU.cell{w:World}{dE n base b:Nat}{b0:List Nat}{M:List (List Bool)}(h:kU w dE n base (b0++[b]) M){i:Nat}(af:i=b0.length):w.cell? (Addr.add ⟨dE,0,none⟩ (i*1))=some (.slice (some ⟨b,0,none⟩) n n):=by
 subst af;refine eN h.row ?_;rw[Nat.mul_one];simp
theorem RE(cs:List Value)(m:o.Model)(w:World)(h:o.dM w cs m)(aV:m.cG)(aZ:gH w) :
  bw Tryz.prog F.a5 #[.agg cs.toArray] w fun u w'=>(((o.check m).cM≠0∧u = .slice none 0 0)∨((o.check m).cM=0∧∃L dE b0,o.iZ m (o.refs m).length L∧u = .slice (some ⟨dE,0,none⟩) L.length L.length∧kU w' dE L.length w.heap.size b0 (o.jo L)))∧Ext w w':=by
 have dk:=h;obtain⟨cz,bV,cj,c1,cq,c2,cr,bJ,cC,bW,rfl,_⟩:=h.form;refine bP E.a5 ?_;refine bM ?_;refine ad ?_;intro aq bE c8 aC ar;refine ad ?_;refine K.call (AA _ m aq (dk.ext aC) aV (aZ.ext aC)) ?_;rintro _ aU ⟨rfl,aA⟩;replace ar:=aA.obj ar;have ba:=aC.trans aA;refine ad ?_;refine K.jd (v:=.int .i64 (o.check m).cM) rfl ?_;refine ad ?_;apply K.cond<;>intro g1;rotate_left
 ·refine ad ?_;exact⟨.inl ⟨g1,bf⟩,ba⟩
 have h6:=o.mP g1;have j6:=o.oV h6.lim;refine ad ?_;refine K.call (Xu _ m aU (dk.ext ba) aV (aZ.ext ba) h6.lim) ?_;rintro _ aY ⟨⟨L,base,eJ,p4,Kl,er⟩,ax⟩;obtain⟨Mp,Jb,rfl,_⟩:=er.form;have nn:bG 2 Bv aY _ L:=er.od;have bz:=ba.trans ax;have xm:=eJ.len;have z3:=bz.size;refine ad ?_;refine K.Vy L.length rfl (by omega) fun bo dE xo aF bH=>?_;have Kd:kU bo dE L.length aY.heap.size [] ((o.jo L).take 0):=⟨rfl,Nat.zero_le _,by simpa using bH,fun j h=>absurd h (Nat.not_lt_zero _),fun b aB=>by cases aB⟩;have kG:=cy bH;clear bH;refine ad ?_;refine K.cR 18 L.length [3,4,17] (fun _:Unit=>[]) () (fun i _ W => ∃b0,kU W dE L.length aY.heap.size b0 ((o.jo L).take i)∧Ext aY W) bp bp ⟨[],Kd,aF⟩ ?_;rintro i _ S bD af ⟨b0,fj,aM⟩;have ca:=bz.trans aM;have CJ:=fj.len;rw[List.length_take,o.qT,Nat.min_eq_left af] at CJ;refine ad ?_;apply K.cond<;>intro g2;rotate_left
 ·have kl:i=L.length:=by omega
  rw[kl,List.take_of_length_le (by rw[o.qT];exact Nat.le_refl _)] at fj;refine ad ?_;exact⟨.inr ⟨g1,L,dE,b0,eJ,bf,⟨fj.len,fj.le,fj.row,fj.rows,fun b aB=>by have:=fj.low b aB;omega⟩⟩,ca⟩
 have eP:i<L.length:=by omega
 have acD:∀c∈b0,c≠dE:=fun c aw e=>by
  obtain⟨j,aI,rfl⟩:=List.mem_iff_getElem.1 aw;have dc:=(fj.rows j aI (by have:=fj.len;omega)).1;rw[e,fj.row] at dc;injection dc with dc
  injection dc with _ dc
  revert dc;decide
 have acG:=fj.lt;refine ad ?_;refine K.Mg L.length rfl (by omega) fun bQ b aB aN b5=>?_;have xk:=fj.ext aN;have alh:=cy xk.row;have alg:=cy fj.row;refine ad ?_;refine K.Nn xk.row (by simp;omega) rfl fun cd dC dq=>?_;have adG:i=b0.length:=CJ.symm;rw[aiF _ _ _ _ (by simp;omega) (by omega)] at dq;have acC:b∉b0:=fun aw=>by have:=acG b aw;omega
 have S3:dE≠b:=by omega
 have Gx:kU cd dE L.length aY.heap.size (b0++[b]) ((o.jo L).take i++[o.qo L L[i] 0]) :=
  xk.snoc (by omega) dC (by rw[dq];simp[Nat.sub_sub]) (by rw[o.aid];exact dC.obj b5 (Ne.symm S3)) (by rw[o.M3 (Nat.zero_le _)]) (by have:=aM.size;omega) acD
 have bC:Ext aY cd:=dC.ext (aM.trans aN) xo;clear xk b5 dq;refine ad ?_;refine K.cR 29 L.length [3,4,5,17,18,28] (fun _:Unit=>[]) () (fun k _ W=>kU W dE L.length aY.heap.size (b0++[b]) ((o.jo L).take i++[o.qo L L[i] k])∧Ext aY W) bp bp ⟨Gx,bC⟩ ?_;rintro k _ iH c9 hk ⟨Ke,bU⟩;have eX:=bz.trans bU;refine ad ?_;apply K.cond<;>intro g3;rotate_left
 ·have tL:k=L.length:=by omega
  rw[tL,o.aib] at Ke;refine ad ?_;refine⟨eP,bf,(),trivial,b0++[b],?_,bU⟩;rw[List.take_succ_eq_append_getElem (by rw[o.qT];exact eP)]
  have:(o.jo L)[i]'(by rw[o.qT];exact eP)=o.lB L L[i]:=by simp[o.jo]
  rw[this];exact Ke
 have cT:k<L.length:=by omega
 obtain⟨IV,rfl⟩:=nn.addr (by omega);obtain⟨jB,jC,h7,kI,kq⟩:=nn.at i eP;obtain⟨mf,lL,xv,Ho,Ab⟩:=nn.at k cT;obtain⟨MG,MH⟩:=(eJ.is i eP).jx;obtain⟨MI,MJ⟩:=(eJ.is k cT).jx;refine ad ?_;intro dF cL;have xx:=bU.trans cL;have xl:=Ke.ext cL;have iw:=xl.cell adG;have als:=h7.ext xx;have alx:=xv.ext xx;refine ad ?_;refine K.ld iw ?_;refine ad ?_;refine K.call (VP jB jC mf lL _ _ _ _ dF (kI.ext Flat.ext xx) (kq.ext Flat.ext xx) (Ho.ext Flat.ext xx) (Ab.ext Flat.ext xx) MG MH MI MJ) ?_;rintro _ fe ⟨rfl,dj⟩;have Gw:=xl.ext dj;refine⟨dj,?_⟩;have mG:=Gw.rows b0.length (by simp) (by have:=Gw.len;simp at this ⊢;omega);have aco:=Gw.len;simp only[List.length_append,List.length_singleton] at aco;rw[List.getElem_append_right (Nat.le_refl _),List.getElem_append_right (by omega)] at mG;simp only[Nat.sub_self,show b0.length - ((o.jo L).take i).length=0 from by omega,List.getElem_cons_zero] at mG;refine ad ?_;refine K.Nn mG.1 (by simp[im,o.M3 hk];exact cT) rfl fun fQ ia nR=>?_;have Dl:fQ.heap[b]? = some (.cells (im (o.qo L L[i] (k+1))).toArray T.l):=by
  rw[nR,←o.aic cT];simp[im,List.map_set,o.uu]
 have acm:=Gw.last ia Dl (by rw[o.M3 (by omega)]) acC S3;have fE:aY.heap.size≤b:=by have:=aM.size;omega
 have hn:Ext aY fQ:=ia.ext (xx.trans dj) fE;refine ad ?_;exact⟨cT,bf,(),trivial,acm,hn⟩
end Go.Proofs.R
end
section
namespace o
open Go
def l9(x y:Node):Prop:=x.op<y.op∨(x.op=y.op∧x.n<y.n)
def AH(x y:Node):Int:=if x.op=y.op∧x.n=y.n then 0 else if x.op<y.op∨(x.op=y.op∧x.n<y.n) then -1 else 1
theorem VF{x y:Node}(h1:x.op=y.op)(U:x.n=y.n):x=y:=by cases x;cases y;simp_all
theorem agi(x:Node):¬l9 x x:=by unfold l9;omega
theorem agj(x y z:Node)(h:l9 x y)(k:l9 y z):l9 x z:=by unfold l9 at *;omega
theorem HF(x y:Node):AH x y<0↔l9 x y:=by
 unfold AH l9;split
 ·omega
 ·split<;>omega
def rF (op:Int):Bool:=decide (op=2∨op=3∨op=4∨op=6∨op=7)
structure FH(e r:List Node):Prop where
 jx:r.Pairwise l9
 mem:∀x,x∈r↔x∈e∧rF x.op=true
def comp:List Node→List Node
 | []=>[]
 | [x]=>[x]
 | x :: y :: r=>if x.op=y.op∧x.n=y.n then comp (y :: r) else x :: comp (y :: r)
theorem Js:∀(l:List Node) (x:Node),x∈comp l↔x∈l
 | [],x=>Iff.rfl
 | [y],x=>Iff.rfl
 | y :: z :: r,x=>by
  unfold comp;have e6:=Js (z :: r) x;split
  ·rename_i h
   have:y=z:=VF h.1 h.2
   subst this;rw[e6];simp
  ·rw[List.mem_cons,e6,List.mem_cons (b:=y)]
theorem Rq:∀(l:List Node),l.Pairwise (fun x y => ¬l9 y x)→(comp l).Pairwise l9
 | [],_=>List.Pairwise.nil
 | [y],_=>by unfold comp;simp
 | y :: z :: r,h=>by
  unfold comp;rw[List.pairwise_cons] at h;have e6:=Rq (z :: r) h.2;split
  ·exact e6
  ·rename_i cH;rw[List.pairwise_cons];refine⟨fun x av=>?_,e6⟩;rw[Js] at av;have al5:=h.1 z (List.mem_cons_self ..);have cB:l9 y z:=by unfold l9 at *;omega
   rcases List.mem_cons.1 av with e | e
   ·rw[e];exact cB
   ·have U:=h.2;rw[List.pairwise_cons] at U
    have:=U.1 x e
    unfold l9 at *;omega
structure akl(l:List Int)(n:Int)(r:List Int):Prop where
 jx:r.Pairwise (· < ·)
 mem:∀x,x∈r↔x∈l∨x=n
 len:r.length≤l.length+1
structure akm(e:List Node)(op:Int)(l:List Int):Prop where
 jx:l.Pairwise (· < ·)
 mem:∀n,n∈l↔∃x∈e,x.op=op∧x.n=n
 len:l.length≤e.length
def opsL:List Int:=[2,3,4,6,7]
structure akr(e:List Node)(k:Nat)(r:List Node):Prop where
 jx:r.Pairwise l9
 mem:∀x,x∈r↔x∈e∧x.op∈opsL.take k
 len:r.length≤k*e.length
theorem Jt:∀(l:List Node) (x y:Node),comp (l++[x,y])=if x.op=y.op∧x.n=y.n then comp (l++[x]) else comp (l++[x])++[y]
 | [],x,y=>by
  by_cases h:x.op=y.op∧x.n=y.n
  ·have:x=y:=VF h.1 h.2
   subst this;simp[comp]
  ·simp[comp,h]
 | [a],x,y=>by
  have e6:=Jt [] x y;simp only[List.nil_append,List.cons_append] at e6 ⊢;unfold comp;rw[e6];by_cases h:a.op=x.op∧a.n=x.n
  ·simp only[if_pos h]
  ·simp only[if_neg h];by_cases U:x.op=y.op∧x.n=y.n
   ·simp[U,comp]
   ·simp[U,comp]
 | a :: b :: l,x,y=>by
  have e6:=Jt (b :: l) x y;simp only[List.cons_append] at e6 ⊢;unfold comp;rw[e6];by_cases h:a.op=b.op∧a.n=b.n
  ·simp only[if_pos h]
  ·simp only[if_neg h];by_cases U:x.op=y.op∧x.n=y.n
   ·simp only[if_pos U]
   ·simp only[if_neg U,List.cons_append]
theorem Ju{l:List Node}{n:Nat}(h1:1≤n)(U:n<l.length):comp (l.take (n+1))=if l[n - 1].op=l[n].op∧l[n - 1].n=l[n].n then comp (l.take n) else comp (l.take n)++[l[n]]:=by
 obtain⟨k,rfl⟩:∃k,n=k+1:=⟨n - 1,by omega⟩;have b2:l.take (k+1)=l.take k++[l[k]]:=List.take_succ_eq_append_getElem (by omega);have ba:l.take (k+1+1)=l.take k++[l[k],l[k+1]]:=by rw[List.take_succ_eq_append_getElem U,b2,List.append_assoc];rfl
 rw[ba,Jt,b2];rfl
theorem Jr:∀l:List Node,(comp l).length≤l.length
 | []=>Nat.le_refl _
 | [x]=>Nat.le_refl _
 | x :: y :: r=>by
  have:=Jr (y :: r)
  unfold comp;split
  ·simp only[List.length_cons] at this ⊢;omega
  ·simp only[List.length_cons] at this ⊢;omega
theorem Rp{l:List Node}(h:l.length<2):comp l=l:=by
 match l,h with
 | [],_=>rfl
 | [x],_=>rfl
 | x :: y :: r,h=>simp at h;omega
theorem Z8{l:List Node}:comp (l.take 1)=l.take 1:=Rp (by rw[List.length_take];omega)
end o
namespace bt
open Go Go.RowKit
theorem Nd:∀(cs:List Value) (w:World) (b ak i:Nat) (cur:Array Value) (e:TypeId),w.heap[b]? = some (.cells cur e)→ak+i+cs.length≤cur.size →
  ∃r0,(kv w ⟨b,ak,none⟩ cs i).heap[b]? = some (.cells r0 e)∧r0.size=cur.size∧(∀j,j<ak+i∨ak+i+cs.length≤j→r0[j]? = cur[j]?)∧∀j (h:j<cs.length),r0[ak+i+j]? = some cs[j]
 | [],w,b,ak,i,cur,e,aB,_=>⟨cur,aB,rfl,fun _ _=>rfl,fun j h=>absurd h (Nat.not_lt_zero _)⟩
 | c :: cs,w,b,ak,i,cur,e,aB,a1=>by
  have aI:ak+i<cur.size:=by simp at a1;omega
  have h1:=EH aB aI c;have jI:Addr.add ⟨b,0,none⟩ (ak+i)=Addr.add ⟨b,ak,none⟩ i:=by rw[add_eq,add_eq,Nat.zero_add]
  rw[jI] at h1;obtain⟨r0,dc,cY,gW,ic⟩:=Nd cs _ b ak (i+1) _ e h1 (by simp at a1 ⊢;omega);refine⟨r0,dc,by simpa using cY,fun j lE=>?_,fun j h=>?_⟩
  ·rw[gW j (by simp at lE ⊢;omega),Array.getElem?_set_ne _ (by simp at lE;omega)]
  ·cases j with
   | zero =>
    rw[Nat.add_zero,gW (ak+i) (by omega),Array.getElem?_set_self];rfl
   | succ j =>
    have:=ic j (by simpa using h)
    rw[show ak+i+(j+1)=ak+(i+1)+j from by omega,this];rfl
end bt
namespace Go.Proofs.R
open Go Go.RowKit bt
theorem BN{w:World}{b j:Nat}{c:Array Value}{t:TypeId}{v:Value}(h:w.heap[b]? = some (.cells c t))(aI:c[j]? = some v):w.cell? ⟨b,j,none⟩=some v:=by
 simp[World.cell?,h,aI]
structure gA(w:World)(b:Nat)(l:List o.Node):Prop where
 ex:∃cur,w.heap[b]? = some (.cells cur T.f)∧2*l.length≤cur.size∧∀i (h:i<l.length),cur[2*i]? = some (.int .i64 l[i].op)∧cur[2*i+1]? = some (.int .i64 l[i].n)
theorem gA.mod{w w':World}{b:Nat}{l:List o.Node}{A:Nat→Prop}(h:gA w b l)(hm:Mod A w w')(ed:¬A b):gA w' b l:=by
 obtain⟨cur,h1,U,ah⟩:=h.ex;exact⟨cur,hm.obj ed h1,U,ah⟩
theorem gA.ext{w w':World}{b:Nat}{l:List o.Node}(h:gA w b l)(he:Ext w w'):gA w' b l:=by
 obtain⟨cur,h1,U,ah⟩:=h.ex;exact⟨cur,he.obj h1,U,ah⟩
theorem gA.at_{w:World}{b:Nat}{l:List o.Node}(h:gA w b l){i:Nat}(af:i<l.length):eB w ⟨b,2*i,none⟩ l[i].enc:=by
 obtain⟨cur,h1,U,ah⟩:=h.ex;have e:(⟨b,2*i,none⟩:Addr)=Addr.add ⟨b,0,none⟩ (2*i):=by rw[add_eq,Nat.zero_add]
 intro j v aI;obtain⟨dc,cY⟩:=ah i af;rw[e,add_eq,add_eq,Nat.zero_add]
 match j,aI with
 | 0,aI =>
  have:v = .int .i64 l[i].op:=by simpa[o.Node.enc] using aI.symm
  subst this;exact BN h1 dc
 | 1,aI =>
  have:v = .int .i64 l[i].n:=by simpa[o.Node.enc] using aI.symm
  subst this;exact BN h1 cY
 | n+2,aI=>simp[o.Node.enc] at aI
theorem gA.take{w:World}{b:Nat}{l:List o.Node}(h:gA w b l)(k:Nat):gA w b (l.take k):=by
 obtain⟨cur,h1,U,ah⟩:=h.ex;refine⟨cur,h1,by rw[List.length_take];omega,fun i af=>?_⟩;rw[List.length_take] at af
 have:=ah i (by omega)
 simpa using this
theorem gA.W1{w:World}{b c:Nat}{l:List o.Node}(h:gA w b l)(aw:l.length≤c)(hm:c≤maxLen):bG 2 (Flat o.Node.enc) w (.slice (some ⟨b,0,none⟩) l.length c) l :=
 ⟨_,_,rfl,aw,hm,fun _=>rfl,fun a bu i af=>by
  injection bu with bu;subst bu
  have:=h.at_ af
  rw[show(⟨b,2*i,none⟩:Addr)=Addr.add ⟨b,0,none⟩ (i*2) from by rw[add_eq,Nat.zero_add,Nat.mul_comm]] at this;exact this⟩
theorem gA.set{w:World}{b i:Nat}{l:List o.Node}(h:gA w b l)(af:i<l.length)(x:o.Node):gA (kv w ⟨b,2*i,none⟩ x.enc 0) b (l.set i x):=by
 obtain⟨cur,h1,U,ah⟩:=h.ex;obtain⟨r0,dc,cY,gW,ic⟩:=Nd x.enc w b (2*i) 0 cur _ h1 (by simp[o.Node.enc];omega);refine⟨r0,dc,by rw[List.length_set,cY];exact U,fun j aI=>?_⟩;rw[List.length_set] at aI;have a0:=ic 0 (by simp[o.Node.enc]);have dG:=ic 1 (by simp[o.Node.enc]);by_cases e:i=j
 ·subst e;rw[List.getElem_set_self];simp only[Nat.add_zero,o.Node.enc] at a0 dG;exact⟨a0,dG⟩
 ·rw[List.getElem_set_ne e,gW _ (by simp[o.Node.enc];omega),gW _ (by simp[o.Node.enc];omega)];exact ah j aI
theorem gA.cut{w:World}{b k:Nat}{l:List o.Node}{zs:List Value}(h:gA w b l)(bL:2*k+zs.length≤2*l.length):gA (kv w ⟨b,2*k,none⟩ zs 0) b (l.take k):=by
 obtain⟨cur,h1,U,ah⟩:=h.ex;obtain⟨r0,dc,cY,gW,_⟩:=Nd zs w b (2*k) 0 cur _ h1 (by omega);refine⟨r0,dc,by rw[List.length_take,cY];omega,fun j aI=>?_⟩;rw[List.length_take] at aI;rw[List.getElem_take,gW _ (by omega),gW _ (by omega)];exact ah j (by omega)
theorem aj9{P:Program}{ty:TypeId}{z:Value}(h:(P.info? ty).bind (·.zero)=some z)(w:World):(zeroValue ty).run P w = .ok z w:=by
 cases af:P.info? ty with
 | none=>rw[af] at h;cases h
 | some i =>
  rw[af] at h;have U:i.zero=some z:=h;simp[zeroValue,sK af,U]
theorem agd(x:o.Node):∀c∈x.enc.toArray.toList,c.oneCell'=true:=by simp[o.Node.enc,Value.oneCell']
theorem gA.free{w:World}{b:Nat}{l:List o.Node}(h:gA w b l){j:Nat}(aI:j<2*l.length):(∃kr,w.cell? ⟨b,j,none⟩=some kr)∧w.frozen? ⟨b,j,none⟩=false:=by
 obtain⟨cur,h1,U,_⟩:=h.ex;exact⟨⟨cur[j]'(by omega),BN h1 (Array.getElem?_eq_getElem (by omega))⟩,by simp[World.frozen?,h1]⟩
theorem K.ai4{w:World}{b i:Nat}{l:List o.Node}{x:o.Node}{a:Addr}{gq:World→Prop}{t}(h:gA w b l)(bu:a=⟨b,2*i,none⟩)(af:i<l.length)(hk:∀aq,dz b w aq→gA aq b (l.set i x)→gq aq) :
  yS 2 (.pointer (some a)) (.agg x.enc.toArray) w gq t:=by
 subst bu;refine K.qs rfl (fun j aI=>?_) (agd x) (hk _ (dz.kv _ w ⟨b,2*i,none⟩ 0) (h.set af x));rw[add_eq];exact h.free (by omega)
theorem K.ZY{S:Fr}{w:World}{b k n cap:Nat}{l:List o.Node}{x:Operand}{bm:Option Addr}{di:Value→World→Prop}{ty:TypeId}{t}(h:gA w b l)(av:bj S x = .slice bm n cap)(aH:k+n=l.length)(bu:0<n→bm=some ⟨b,2*k,none⟩)
  (hk:∀v aq,Mod (fun i=>i=b) w aq→gA aq b (l.take k)→di v aq):sZ Tryz.prog (.call ⟨.builtin .clear,#[x],#[T.x]⟩) ty S w di t:=by
 have bL:∀w:World,(zeroValue T.f).run Tryz.prog w = .ok (.agg #[.int .i64 0,.int .i64 0]) w:=aj9 (by kernel_rfl);have hu:Tryz.prog.underlying T.x=some (.slice T.f):=by kernel_rfl
 cases n with
 | zero =>
  refine K.raw (v:=.tuple #[]) (w':=w) ?_ (hk _ _ (Mod.refl _ _) (h.take k));cases bm<;>simp[execOp,resolve,invoke,builtin,av,Builtin.clear_,run_underlying hu]
 | succ n =>
  obtain rfl:=bu (by omega);refine K.raw (v:=.tuple #[]) (w':=kv w ⟨b,2*k,none⟩ (Builtin.zeroCells #[.int .i64 0,.int .i64 0] (n+1)).toList 0) ?_ (hk _ _ ((dz.kv _ w ⟨b,2*k,none⟩ 0).mod rfl) (h.cut ?_))
  ·have aG:=M9 Tryz.prog ⟨b,2*k,none⟩ (Builtin.zeroCells #[.int .i64 0,.int .i64 0] (n+1)).toList 0 w (fun j aI=>?_) ?_
   ·simp[execOp,resolve,invoke,builtin,av,Builtin.clear_,run_underlying hu,bL,Value.cells,aG]
   ·rw[add_eq];exact h.free (by simp[Builtin.zeroCells] at aI;omega)
   ·intro c aw;simp only[Builtin.zeroCells,Array.toList_map,List.mem_map] at aw;obtain⟨i,_,rfl⟩:=aw;show((#[Value.int .i64 0,.int .i64 0]:Array Value)[i % 2]!).oneCell'=true;rcases Nat.mod_two_eq_zero_or_one i with e | e<;>rw[e]<;>rfl
  ·simp[Builtin.zeroCells];omega
theorem F5(x y:Int):pY [.i,.i] [.int .i64 x,.int .i64 y]:=⟨⟨_,rfl⟩,⟨_,rfl⟩,trivial⟩
theorem R3{x y:o.Node}:x.enc=y.enc↔x.op=y.op∧x.n=y.n:=by simp[o.Node.enc]
theorem aaa(b c:Nat)(l:List o.Node)(w:World)(h:gA w b l)(aw:l.length≤c)(hm:c≤maxLen) :
  bw Tryz.prog F.ac #[.slice (some ⟨b,0,none⟩) l.length c] w fun v w'=>v = .slice (some ⟨b,0,none⟩) (o.comp l).length c∧gA w' b (o.comp l)∧Mod (fun i=>i=b) w w':=by
 have gh:=o.Jr l;unfold maxLen at hm;refine bP E.ac ?_;refine bM ?_;refine ad ?_;apply K.cond<;>intro g1
 ·have e:=o.Rp (l:=l) (by omega);refine ad ?_;exact⟨by rw[e],by rw[e];exact h,Mod.refl _ _⟩
 refine ad ?_;refine K.yu [0] (fun k:Nat=>[(3,.int .i64 k)]) 1 (fun k W=>1≤k∧k≤l.length∧o.comp (l.take k)=l.take k∧Ext w W) (fun k=>l.length - k) bp ⟨by omega,by omega,o.Z8,Ext.refl _⟩ ?_;rintro k S aq ⟨xE,cT,rb,aC⟩;have hN:=h.ext aC;have vm:=hN.W1 aw hm;refine ad ?_;apply K.cond<;>intro g2;rotate_left
 ·have h8:k=l.length:=by omega
  rw[h8,List.take_length] at rb;refine ad ?_;exact⟨by rw[rb],by rw[rb];exact hN,aC.mod⟩
 have ra:k<l.length:=by omega
 refine ad ?_;refine K.dx (k - 1) (by omega) (by omega) ?_;refine ad ?_;refine K.aaL (sig:=[.i,.i]) (by kernel_rfl) (F5 _ _) (F5 _ _) fun r bd=>?_;rw[R3] at bd;refine ad ?_;intro aU aA;have ho:=hN.ext aA;have ba:=aC.trans aA;cases r with
 | false =>
  have cH:¬(l[k - 1].op=l[k].op∧l[k - 1].n=l[k].n):=fun e=>by have:=bd.2 ⟨e.1.symm,e.2.symm⟩;cases this
  have adR:o.comp (l.take (k+1))=l.take (k+1):=by rw[o.Ju xE ra,if_neg cH,rb,List.take_succ_eq_append_getElem ra]
  refine ad ?_;exact⟨k+1,⟨bf,trivial⟩,⟨by omega,by omega,adR,ba⟩,by omega⟩
 | true =>
  obtain⟨dQ,ef⟩:=bd.1 rfl;have zT:o.comp (l.take (k+1))=l.take k:=by rw[o.Ju xE ra,if_pos ⟨dQ.symm,ef.symm⟩,rb]
  have kE:¬c=k:=by omega
  clear vm;refine ad ?_;refine K.lj k l.length c (by simp[fZ,fD,b6]) (by simp[fZ]) (by simp[fZ]) ⟨by omega,aw,Nat.le_refl _⟩ (by simp) ?_;rw[if_neg kE,Option.map_some];refine ad ?_;refine K.yu [0,4] (fun x:Nat×Nat×List o.Node=>[(3,.int .i64 x.1),(5,.int .i64 x.2.1)]) (k,1,l) (fun x W=>1≤x.2.1∧k+x.2.1≤l.length∧1≤x.1∧x.1+1≤k+x.2.1∧x.2.2.length=l.length∧gA W b x.2.2∧Mod (fun i=>i=b) w W∧x.2.2.take x.1=o.comp (l.take (k+x.2.1))∧∀j,x.1≤j→x.2.2[j]? = l[j]?) (fun x=>l.length - (k+x.2.1)) bp ⟨Nat.le_refl _,by simp only;omega,xE,Nat.le_refl _,rfl,ho,ba.mod,zT.symm,fun _ _=>rfl⟩ ?_;rintro⟨ub,cY,R⟩ Bw aY ⟨DE,DF,xW,ae9,L0,DG,Hp,Af,DH⟩;dsimp only at DE DF xW ae9 L0 DG Hp Af DH ⊢;refine ad ?_;apply K.cond<;>intro g3
  ·have fa:k+cY<l.length:=by omega
   have s4:∀i,(Addr.add ⟨b,0,none⟩ (k*2)).add (i*2)=⟨b,2*(k+i),none⟩:=fun i=>by
    rw[add_eq,add_eq];congr 1;omega
   have jB:R[k+cY]'(by omega)=l[k+cY]:=by
    have:=DH (k+cY) (by omega)
    rw[List.getElem?_eq_getElem (by omega),List.getElem?_eq_getElem (by omega)] at this;injection this
   have jC:R[k+cY - 1]'(by omega)=l[k+cY - 1]:=by
    have:=DH (k+cY - 1) (by omega)
    rw[List.getElem?_eq_getElem (by omega),List.getElem?_eq_getElem (by omega)] at this;injection this
   have d1:eB aY ((Addr.add ⟨b,0,none⟩ (k*2)).add (cY*2)) l[k+cY].enc:=by
    rw[s4,←jB];exact DG.at_ _
   have d2:eB aY ((Addr.add ⟨b,0,none⟩ (k*2)).add ((cY - 1)*2)) l[k+cY - 1].enc:=by
    rw[s4,←jC,show k+(cY - 1)=k+cY - 1 from by omega];exact DG.at_ _
   have vu:=o.Ju (l:=l) (n:=k+cY) (by omega) fa;refine ad ?_;refine K.dx (cY - 1) (by omega) (by omega) ?_;refine ad ?_;refine K.VA (sig:=[.i,.i]) (by kernel_rfl) (F5 _ _) (F5 _ _) fun r bd=>?_;rw[ne_eq,R3] at bd;refine ad ?_;intro bo aF;have UQ:=DG.ext aF;have akP:=d1.ext aF;cases r with
   | false =>
    have heq:l[k+cY - 1].op=l[k+cY].op∧l[k+cY - 1].n=l[k+cY].n:=Classical.byContradiction fun e=>by have:=bd.2 (fun ba=>e ⟨ba.1.symm,ba.2.symm⟩);cases this
    rw[if_pos heq] at vu;refine ad ?_;refine⟨(ub,cY+1,R),⟨bf,bf,trivial⟩,⟨by simp only;omega,by simp only;omega,xW,by simp only;omega,L0,UQ,Hp.trans aF.mod,?_,DH⟩,by simp only;omega⟩;simp only;rw[←Nat.add_assoc,vu,Af]
   | true =>
    have cH:¬(l[k+cY - 1].op=l[k+cY].op∧l[k+cY - 1].n=l[k+cY].n):=fun e=>(bd.1 rfl) ⟨e.1.symm,e.2.symm⟩;rw[if_neg cH] at vu;refine ad ?_;refine K.ai4 (i:=ub) UQ (by rw[add_eq,Nat.zero_add,Nat.mul_comm]) (by omega) fun bD eU De=>?_;refine ad ?_;refine⟨(ub+1,cY+1,R.set ub l[k+cY]),⟨bf,bf,trivial⟩,⟨by simp only;omega,by simp only;omega,by simp only;omega,by simp only;omega,by rw[List.length_set];exact L0,De,(Hp.trans aF.mod).trans (eU.mod rfl),?_,fun j aI=>?_⟩,by simp only;omega⟩
    ·simp only;rw[←Nat.add_assoc,vu,←Af,List.take_succ_eq_append_getElem (by rw[List.length_set];omega),List.getElem_set_self,List.take_set_of_le (Nat.le_refl _)]
    ·simp only at aI;rw[List.getElem?_set_ne (by omega)];exact DH j (by omega)
  ·have tL:k+cY=l.length:=by omega
   rw[tL,List.take_length] at Af;have sh:(o.comp l).length=ub:=by rw[←Af,List.length_take];omega
   refine ad ?_;refine K.lj ub l.length c (by simp[fZ,fD,b6]) (by simp[fZ]) (by simp[fZ]) ⟨by omega,aw,Nat.le_refl _⟩ (by simp) ?_;rw[if_neg (show ¬c=ub by omega),Option.map_some];refine ad ?_;refine K.ZY (k:=ub) DG (by simp only[fD,b6];rfl) (by omega) (fun _=>by rw[add_eq,Nat.zero_add,Nat.mul_comm]) fun v bo j5 mE=>?_;rw[Af] at mE;refine ad ?_;refine K.lj 0 ub c (by simp[fZ]) (by simp[fZ,fD,b6]) (by simp[fZ]) ⟨by omega,by omega,Nat.le_refl _⟩ (by simp) ?_;rw[if_neg (show ¬c=0 by omega),Option.map_some];refine ad ?_;exact⟨by rw[sh,add_eq];rfl,mE,Hp.trans j5⟩
end Go.Proofs.R
end
section
namespace Go.Proofs
open Go.Shelf
def Tryz.aiS:Go.Shelf.Ren:=⟨fun | 6=>149 | 15=>206 | 14=>205 | 28=>250 | 29=>251 | 20=>242 | 21=>243 | 22=>244 | 23=>245 | 24=>246 | 25=>247 | 26=>248 | 27=>249 | 46=>292 | 47=>293 | 48=>294 | 49=>295 | 50=>296 | 57=>310 | n=>n,fun | 22=>50 | 24=>85 | 25=>218 | 3=>3 | 39=>186 | 0=>0 | 53=>301 | 55=>63 | 4=>4 | 46=>295 | 45=>294 | 50=>187 | 5=>5 | 9=>9 | 66=>327 | 70=>331 | 76=>339 | 77=>134 | n=>n,fun | n=>n⟩
theorem Tryz.W2:Go.Proofs.SlLaysF0.n6 Tryz.prog Tryz.aiS:={
 mixed:=by kernel_rfl
 f6:=⟨Tryz.f149.name,by decide,Tryz.func149.trans (congrArg some (by kernel_rfl))⟩
 f14:=⟨Tryz.f205.name,by decide,Tryz.func205.trans (congrArg some (by kernel_rfl))⟩
 f15:=Tryz.func206.trans (congrArg some (by kernel_rfl))
 f20:=⟨Tryz.f242.name,by decide,Tryz.func242.trans (congrArg some (by kernel_rfl))⟩
 f21:=⟨Tryz.f243.name,by decide,Tryz.func243.trans (congrArg some (by kernel_rfl))⟩
 f22:=⟨Tryz.f244.name,by decide,Tryz.func244.trans (congrArg some (by kernel_rfl))⟩
 f23:=⟨Tryz.f245.name,by decide,Tryz.func245.trans (congrArg some (by kernel_rfl))⟩
 f24:=⟨Tryz.f246.name,by decide,Tryz.func246.trans (congrArg some (by kernel_rfl))⟩
 f25:=⟨Tryz.f247.name,by decide,Tryz.func247.trans (congrArg some (by kernel_rfl))⟩
 f26:=⟨Tryz.f248.name,by decide,Tryz.func248.trans (congrArg some (by kernel_rfl))⟩
 f27:=⟨Tryz.f249.name,by decide,Tryz.func249.trans (congrArg some (by kernel_rfl))⟩
 f28:=Tryz.func250.trans (congrArg some (by kernel_rfl))
 f29:=Tryz.func251.trans (congrArg some (by kernel_rfl))
 f46:=⟨Tryz.f292.name,by decide,Tryz.func292.trans (congrArg some (by kernel_rfl))⟩
 f47:=Tryz.func293.trans (congrArg some (by kernel_rfl))
 f48:=Tryz.func294.trans (congrArg some (by kernel_rfl))
 f49:=⟨Tryz.f295.name,by decide,Tryz.func295.trans (congrArg some (by kernel_rfl))⟩
 f50:=⟨Tryz.f296.name,by decide,Tryz.func296.trans (congrArg some (by kernel_rfl))⟩
 f57:=⟨Tryz.f310.name,by decide,Tryz.func310.trans (congrArg some (by kernel_rfl))⟩
 t0:=Tryz.underlying0
 a0:=Tryz.isAgg0
 z0:=Tryz.sizeOf0
 v0:=Tryz.zeroValue0
 t3:=Tryz.underlying3
 a3:=Tryz.isAgg3
 z3:=Tryz.sizeOf3
 v3:=Tryz.zeroValue3
 t4:=Tryz.underlying4
 a4:=Tryz.isAgg4
 z4:=Tryz.sizeOf4
 v4:=Tryz.zeroValue4
 t5:=Tryz.underlying5
 a5:=Tryz.isAgg5
 z5:=Tryz.sizeOf5
 v5:=Tryz.zeroValue5
 t9:=Tryz.underlying9
 a9:=Tryz.isAgg9
 z9:=Tryz.sizeOf9
 v9:=Tryz.zeroValue9
 t22:=Tryz.underlying50
 a22:=Tryz.isAgg50
 z22:=Tryz.sizeOf50
 v22:=Tryz.zeroValue50
 t25:=Tryz.underlying218
 a25:=Tryz.isAgg218
 z25:=Tryz.sizeOf218
 v25:=Tryz.zeroValue218
 t39:=Tryz.underlying186
 a39:=Tryz.isAgg186
 z39:=Tryz.sizeOf186
 v39:=Tryz.zeroValue186
 t45:=Tryz.underlying294
 a45:=Tryz.isAgg294
 z45:=Tryz.sizeOf294
 v45:=Tryz.zeroValue294
 t46:=Tryz.underlying295
 a46:=Tryz.isAgg295
 z46:=Tryz.sizeOf295
 v46:=Tryz.zeroValue295
 t50:=Tryz.underlying187
 a50:=Tryz.isAgg187
 z50:=Tryz.sizeOf187
 v50:=Tryz.zeroValue187
 t53:=Tryz.underlying301
 a53:=Tryz.isAgg301
 z53:=Tryz.sizeOf301
 v53:=Tryz.zeroValue301
 t55:=Tryz.underlying63
 a55:=Tryz.isAgg63
 z55:=Tryz.sizeOf63
 v55:=Tryz.zeroValue63
 t66:=Tryz.underlying327
 a66:=Tryz.isAgg327
 z66:=Tryz.sizeOf327
 v66:=Tryz.zeroValue327
 t70:=Tryz.underlying331
 a70:=Tryz.isAgg331
 z70:=Tryz.sizeOf331
 v70:=Tryz.zeroValue331
 t76:=Tryz.underlying339
 a76:=Tryz.isAgg339
 z76:=Tryz.sizeOf339
 v76:=Tryz.zeroValue339
 t77:=Tryz.underlying134
 a77:=Tryz.isAgg134
 z77:=Tryz.sizeOf134
 v77:=Tryz.zeroValue134 }
end Go.Proofs
end
section
namespace Go.Proofs.R
open Go Go.RowKit Go.Sort Go.Shelf Go.Lib
theorem ajB(x y:o.Node)(W:World):Calls Tryz.prog 150 #[.agg #[.int .i64 x.op,.int .i64 x.n],.agg #[.int .i64 y.op,.int .i64 y.n]] W fun e w'=>e = .returned (.int .i64 (o.AH x y))∧∃q agQ,w'=grow (W.drewN q) agQ:=by
 go_enter Tryz.func150,Tryz.ntmps150
 go_wp2
 all_goals go_ret
 all_goals refine⟨?_,0,_,by rw[alloc_eq_grow,alloc_eq_grow,grow_grow];rfl⟩
 all_goals (congr 2;unfold o.AH;repeat' split)
 all_goals first | omega | rfl
theorem agm:SWO (ltOf o.AH) where
 irrefl x:=by
  have:=o.agi x
  rw[←o.HF] at this;simpa[ltOf] using this
 trans x y z h1 U:=by
  simp only[ltOf,decide_eq_true_eq] at h1 U ⊢;rw[o.HF] at *;exact o.agj x y z h1 U
 ntrans x y z h1 U:=by
  simp only[ltOf,decide_eq_false_iff_not] at h1 U ⊢;rw[o.HF] at *;unfold o.l9 at *;omega
instance:Inhabited o.Node:=⟨⟨0,0⟩⟩
theorem ahk{w:World}{b:Nat}{cur:Array Value}{e:TypeId}{d:Array Value}(h:w.heap[b]? = some (.cells cur e)):(putRow id w b 0 d).heap[b]? = some (.cells (putCells id 0 d cur) e):=by
 unfold putRow mapBlock;simp only[Array.getElem?_modify,if_true,h,Option.map_some,onCells]
theorem ahl{w:World}{b k:Nat}{d:Array Value}(h:k≠b):(putRow id w b 0 d).heap[k]? = w.heap[k]? := by
 unfold putRow mapBlock;simp only[Array.getElem?_modify];rw[if_neg (fun e=>h e.symm)]
theorem V4{w:World}{b:Nat}{d:Array Value}:(putRow id w b 0 d).heap.size=w.heap.size:=by
 unfold putRow mapBlock;simp
theorem Ss{d:Array o.Node}{i:Nat}(h:i<d.size):(flatK o.Node.enc 2 d)[2*i]! = .int .i64 d[i].op∧(flatK o.Node.enc 2 d)[2*i+1]! = .int .i64 d[i].n:=by
 constructor
 ·rw[get_flatK _ _ _ _ (by omega),show 2*i / 2=i from by omega,show 2*i % 2=0 from by omega,getElem!_pos _ i h];rfl
 ·rw[get_flatK _ _ _ _ (by omega),show(2*i+1) / 2=i from by omega,show(2*i+1) % 2=1 from by omega,getElem!_pos _ i h];rfl
theorem aiT{w:World}{b n:Nat}{l:List o.Node}{d:Array o.Node}{os:Array Obj}(h:gA w b l)(bx:d.size=l.length):gA (sortWorldK o.Node.enc 2 w b 0 n d os) b d.toList∧bt.Mod (fun i=>i=b) w (sortWorldK o.Node.enc 2 w b 0 n d os):=by
 obtain⟨cur,h1,U,ah⟩:=h.ex;have cB:=bt.cy h1;have qY:(Sort.ahead w n).heap[b]? = some (.cells cur T.f):=h1;have aV:∀k,k<w.heap.size→(sortWorldK o.Node.enc 2 w b 0 n d os).heap[k]? = (putRow id (Sort.ahead w n) b 0 (flatK o.Node.enc 2 d)).heap[k]? := fun k hk=>by
  unfold sortWorldK grow putRowK;exact Array.getElem?_append_left (by rw[V4];exact hk)
 constructor
 ·refine⟨_,(aV b cB).trans (ahk qY),by simp[putCells];omega,fun i af=>?_⟩;have cS:i<d.size:=by simpa using af
  obtain⟨f1,f2⟩:=Ss cS;simp only[putCells,Array.getElem?_mapIdx,size_flatK,Array.getElem_toList];constructor
  ·rw[Array.getElem?_eq_getElem (show 2*i<cur.size by omega),Option.map_some,if_pos (by omega),Nat.sub_zero,f1];rfl
  ·rw[Array.getElem?_eq_getElem (show 2*i+1<cur.size by omega),Option.map_some,if_pos (by omega),Nat.sub_zero,f2];rfl
 ·refine⟨rfl,rfl,rfl,?_,fun k hk aH=>(aV k hk).trans (ahl aH)⟩;unfold sortWorldK grow putRowK;rw[Array.size_append,V4];exact Nat.le_add_right _ _
theorem aiI{P:Program}{t:TypeId}{k:Nat}(h:(P.info? t).map (·.size)=some k)(w:World):(Go.sizeOf t).run P w = .ok k w:=by
 cases af:P.info? t with
 | none=>rw[af] at h;cases h
 | some i =>
  rw[af] at h;have U:i.size=k:=by simpa using h
  simp[Go.sizeOf,bt.sK af,U]
theorem aiR(b c:Nat)(l:List o.Node)(w:World)(h:gA w b l)(a1:l.length≤1000000) :
  bt.bw Tryz.prog F.bz #[.slice (some ⟨b,0,none⟩) l.length c,.func (.func F.bX) #[] #[]] w fun _ w' => ∃r:List o.Node,r.Perm l∧r.Pairwise (fun x y => ¬o.l9 y x)∧gA w' b r∧bt.Mod (fun i=>i=b) w w':=by
 obtain⟨cur,h1,U,ah⟩:=h.ex;have KE:=AnyQ.slices_SortFunc Tryz.W2 2 (fun w=>bt.vZ (t:=T.f) (b:=true) (by kernel_rfl) w) (fun w=>aiI (t:=T.f) (by kernel_rfl) w) o.Node.enc (fun _=>rfl) (fun x v aO=>by simp[o.Node.enc] at aO;rcases aO with rfl | rfl<;>rfl) o.AH agm F.bX #[] b 0 c l.toArray w
  (enters_of Tryz.func150 (by kernel_rfl) rfl) (fun _ _ _ _ x y=>ajB x y _) ?_ (bt.cy h1) (by simp;omega)
 ·change Calls Tryz.prog F.bz _ _ _ at KE;simp only[List.size_toArray] at KE;refine Calls.mono KE ?_;rintro e w' ⟨rfl,tf,n,os,aW,aG,rfl⟩;have dn:tf.size=l.length:=by simpa using aW.1
  obtain⟨dc,cY⟩:=aiT (n:=n) (os:=os) h dn;refine⟨_,rfl,tf.toList,?_,?_,dc,cY⟩
  ·have:=aW.2.2
   rw[show tf.extract 0 l.length=tf from by rw[←dn];simp,show l.toArray.extract 0 l.length=l.toArray from by simp] at this;simpa using this
  ·rw[List.pairwise_iff_getElem];intro i j af aI C4;have cS:i<tf.size:=by simpa using af
   have eQ:j<tf.size:=by simpa using aI
   have:=aG i j (Nat.zero_le _) C4 (by omega)
   rw[getElem!_pos _ i cS,getElem!_pos _ j eQ] at this;simp only[ltOf,decide_eq_false_iff_not] at this;rw[o.HF] at this;simpa using this
 ·unfold HoldsK Holds;intro j aI;rw[size_flatK] at aI;have lE:j<2*l.length:=by simp at aI;omega
  have af:j / 2<l.length:=by omega
  obtain⟨f1,f2⟩:=Ss (d:=l.toArray) (i:=j / 2) (by simpa using af);obtain⟨g1,g2⟩:=ah (j / 2) af;have sg:w.frozen? ⟨b,0+j,none⟩=false:=by simp[World.frozen?,h1]
  refine⟨?_,sg⟩;rw[Nat.zero_add];rcases Nat.mod_two_eq_zero_or_one j with e | e
  ·have w9:2*(j / 2)=j:=by omega
   rw[w9] at f1 g1;rw[f1];exact BN h1 (by simpa using g1)
  ·have w9:2*(j / 2)+1=j:=by omega
   rw[w9] at f2 g2;rw[f2];exact BN h1 (by simpa using g2)
end Go.Proofs.R
end
section
namespace o
open Go
def we(e:List Node):List Node:=e.filter fun x=>rF x.op
theorem ai3{e:List Node}{k:Nat}(h:k<e.length):we (e.take (k+1))=we (e.take k)++if rF e[k].op then [e[k]] else []:=by
 unfold we;rw[List.take_succ_eq_append_getElem h,List.filter_append];cases aG:rF e[k].op<;>simp[aG]
theorem W7(e:List Node):(we e).length≤e.length:=List.length_filter_le _ _
theorem Xw{e s:List Node}(aW:s.Perm (we e))(aG:s.Pairwise fun x y => ¬l9 y x):FH e (comp s):=by
 refine⟨Rq s aG,fun x=>?_⟩;rw[Js,aW.mem_iff];unfold we;rw[List.mem_filter]
end o
namespace Go.Proofs.R
open Go Go.RowKit bt
theorem agl(x:o.Node):∀u∈x.enc,u.oneCell'=true:=by simp[o.Node.enc,Value.oneCell']
theorem Sr:∀(l:List o.Node) (i:Nat) (h:i<l.length),(l.flatMap o.Node.enc)[2*i]? = some (.int .i64 l[i].op)∧(l.flatMap o.Node.enc)[2*i+1]? = some (.int .i64 l[i].n)
 | x :: l,0,_=>⟨rfl,rfl⟩
 | x :: l,i+1,h=>by
  have e6:=Sr l i (by simpa using h);rw[show 2*(i+1)=2*i+2 from by omega,show 2*i+2+1=(2*i+1)+2 from by omega];exact e6
theorem ago{w:World}{base:Nat}{v:Value}{l:List o.Node}(h:bg o.Node.enc T.f 2 base w v l)(a1:l≠[]):∃b c,v = .slice (some ⟨b,0,none⟩) l.length c∧base≤b∧gA w b l∧l.length≤c∧c≤maxLen:=by
 rcases h.2 with ⟨_,ao⟩ | ⟨g,cap,cur,h1,U,ah,aJ,bk,bY,cO⟩
 ·exact absurd (List.eq_nil_of_length_eq_zero ao) a1
 ·refine⟨g,cap,h1,U,⟨cur,ah,by omega,fun i af=>?_⟩,aJ,bk⟩;have get:∀j,j<2*l.length→cur[j]? = (l.flatMap o.Node.enc)[j]? := fun j aI=>by
   rw[←cO,List.getElem?_take_of_lt (by omega),Array.getElem?_toList]
  rw[get _ (by omega),get _ (by omega)];exact Sr l i af
structure IT(w:World)(base:Nat)(v:Value)(l:List o.Node):Prop where
 ex:(l=[]∧∃p c,v = .slice p 0 c∧c≤maxLen)∨∃b c,v = .slice (some ⟨b,0,none⟩) l.length c∧base≤b∧gA w b l∧l.length≤c∧c≤maxLen
theorem aiQ(p:Option Addr)(c:Nat)(w:World):bw Tryz.prog F.bz #[.slice p 0 c,.func (.func F.bX) #[] #[]] w fun _ w'=>Ext w w':=by
 have h:=AnyF.slices_SortFunc_none Tryz.W2 p c (.func (.func F.bX) #[] #[]) w;change Calls Tryz.prog F.bz _ _ _ at h;refine Calls.mono h ?_;rintro e w' ⟨rfl,rfl⟩;exact⟨_,rfl,Ext.refl _⟩
theorem Z9(p:Option Addr)(c:Nat)(w:World):bw Tryz.prog F.ac #[.slice p 0 c] w fun v w'=>v = .slice p 0 c∧Ext w w':=by
 refine bP E.ac ?_;refine bM ?_;refine ad ?_;exact⟨bf,Ext.refl _⟩
theorem ajD(v:Value)(e:List o.Node)(w:World)(h:o.fY w v e)(a1:e.length≤1000000) :
  bw Tryz.prog F.wY #[v] w fun u w'=>(∃r,o.FH e r∧IT w' w.heap.size u r)∧Ext w w':=by
 obtain⟨bm,gJ,rfl,_⟩:=h.form;refine bP E.wY ?_;refine bM ?_;refine ad ?_;refine K.cR 8 e.length [2,6,7] (fun u:Value=>[(3,u)]) (.slice none 0 0) (fun k u W=>bg o.Node.enc T.f 2 w.heap.size W u (o.we (e.take k))∧Ext w W) bp bp ⟨bg.nil _ _ _ _ _,Ext.refl _⟩ ?_;rintro k u S aq hk ⟨hu,aC⟩;refine ad ?_;apply K.cond<;>intro g1
 ·have cT:k<e.length:=by omega
  obtain⟨a,rfl⟩:=h.addr (by omega);have av:=(h.at k cT).cells.ext aC;obtain⟨sH,qS,rfl,_⟩:=hu.form;have j7:=o.W7 (e.take k);have kH:=o.ai3 cT;unfold o.Node.enc at av;rw[List.length_take] at j7;refine eh ?_;simp -dsimp only[cA];refine eh ?_;simp -dsimp only[cA];refine eh ?_;intro aU dX jf aA b3;have LC:=hu.ext aA;have ba:=aC.trans aA;simp -dsimp only[cA];refine eh ?_;refine K.gK [2,3,5,6,7,8] (fun t:Bool=>[(14,.bool t)]) (fun t W=>t=o.rF e[k].op∧W=aU) ?_ ?_
  ·have sp:∀b,(b=true↔(e[k].op=2∨e[k].op=3∨e[k].op=4∨e[k].op=6∨e[k].op=7))→b=o.rF e[k].op:=fun b aB=>by
    unfold o.rF;cases b with
    | true=>exact(decide_eq_true (aB.1 rfl)).symm
    | false=>exact(decide_eq_false fun q=>by have:=aB.2 q;cases this).symm
   refine ad ?_;apply K.cond<;>intro g2
   ·refine ad ?_;exact⟨_,⟨bf,trivial⟩,sp _ (by simp[g2]),bf⟩
   refine ad ?_;apply K.cond<;>intro g3
   ·refine ad ?_;exact⟨_,⟨bf,trivial⟩,sp _ (by simp[g3]),bf⟩
   refine ad ?_;apply K.cond<;>intro g4
   ·refine ad ?_;exact⟨_,⟨bf,trivial⟩,sp _ (by simp[g4]),bf⟩
   refine ad ?_;apply K.cond<;>intro g5
   ·refine ad ?_;exact⟨_,⟨bf,trivial⟩,sp _ (by simp[g5]),bf⟩
   refine ad ?_;exact⟨_,⟨bf,trivial⟩,sp _ (by simp[g2,g3,g4,g5]),bf⟩
  rintro t iH aY ⟨rfl,rfl⟩;refine ad ?_;cases vF:o.rF e[k].op with
  | true =>
   rw[vF,if_pos rfl] at kH;refine ad ?_;intro bo Q3 S1 aF pn;refine ad ?_;refine K.ki (y:=e[k]) (LC.ext aF) pn rfl (fun _=>rfl) agl (by omega) (by unfold maxLen;omega) (by have:=aF.size;have:=ba.size;omega) fun bm n c bD eF l1=>?_;have aM:=bg.j2 (LC.ext aF) (ba.trans aF) l1 (Nat.le_refl _);refine ad ?_;refine⟨cT,bf,_,⟨rfl,trivial⟩,?_,aM⟩;rw[kH];exact eF
  | false =>
   rw[vF,if_neg (by simp),List.append_nil] at kH;refine ad ?_;refine⟨cT,bf,_,⟨bf,trivial⟩,?_,ba⟩;rw[kH];exact LC
 ·have h8:k=e.length:=by omega
  rw[h8,List.take_length] at hu;have j7:=o.W7 e;by_cases aH:o.we e=[]
  ·rw[aH] at hu;obtain⟨sH,qS,rfl,_⟩:=hu.form;have adf:qS≤maxLen:=by
    obtain⟨iR,cap,h1,_,ah,_⟩:=(bg.od (enc:=o.Node.enc) (fun _=>rfl) hu).ex;injection h1 with _ _ h1
    omega
   have aeG:o.FH e (o.comp []):=o.Xw (s:=[]) (by rw[aH]) List.Pairwise.nil;refine ad ?_;refine K.call (aiQ sH qS aq) ?_;rintro _ aU aA;refine ad ?_;refine K.call (Z9 sH qS aU) ?_;rintro _ aY ⟨rfl,ax⟩;refine ad ?_;exact⟨⟨_,aeG,⟨.inl ⟨rfl,sH,qS,rfl,adf⟩⟩⟩,(aC.trans aA).trans ax⟩
  ·obtain⟨b,c,rfl,aB,bd,aw,hm⟩:=ago hu aH;refine ad ?_;refine K.call (aiR b c _ aq bd (by omega)) ?_;rintro _ aU ⟨s,aW,aG,ho,fa⟩;have aez:=aW.length_eq;have gh:=o.Jr s;rw[←aez];refine ad ?_;refine K.call (aaa b c s aU ho (by omega) hm) ?_;rintro _ aY ⟨rfl,zZ,h9⟩;refine ad ?_;exact⟨⟨_,o.Xw aW aG,⟨.inr ⟨b,c,rfl,aB,zZ,by omega,hm⟩⟩⟩,(fa.trans h9).ext aC fun i af e=>by omega⟩
end Go.Proofs.R
end
section
namespace o
open Go
theorem ajz{m:Model}{x:Node}(h:rF x.op=false):dI m 0 false x=[]:=by
 unfold rF at h;have h:=of_decide_eq_false h;unfold dI;rw[if_neg (by omega),if_neg (by omega),if_neg (by omega),if_neg (by omega),if_neg (by omega)]
theorem ajC{m:Model}{e r:List Node}(h:FH e r)(z:Int):z∈r.flatMap (dI m 0 false)↔z∈uw m e:=by
 unfold uw;simp only[List.mem_flatMap];constructor
 ·rintro⟨x,av,bL⟩;exact⟨x,((h.mem x).1 av).1,bL⟩
 ·rintro⟨x,av,bL⟩;cases aG:rF x.op with
  | false=>rw[ajz aG] at bL;cases bL
  | true=>exact⟨x,(h.mem x).2 ⟨av,aG⟩,bL⟩
def v8(m:Model)(k:Nat):List Int:=(m.props.take k).flatMap fun p=>uw m p.expr
theorem aiA{m:Model}{k:Nat}(h:k<m.props.length):v8 m (k+1)=v8 m k++uw m m.props[k].expr:=by
 unfold v8;rw[List.take_succ_eq_append_getElem h,List.flatMap_append];simp
theorem aiz(m:Model):v8 m m.props.length=qp m:=by unfold v8 qp;rw[List.take_length]
end o
namespace Go.Proofs.R
open Go Go.RowKit bt
theorem IT.form{w:World}{base:Nat}{v:Value}{r:List o.Node}(h:IT w base v r):∃bm c,v = .slice bm r.length c∧(0<r.length→∃b,bm=some ⟨b,0,none⟩∧base≤b∧gA w b r∧r.length≤c∧c≤maxLen):=by
 rcases h.ex with ⟨rfl,p,c,rfl,_⟩ | ⟨b,c,rfl,aB,bd,aw,hm⟩
 ·exact⟨p,c,rfl,fun h=>absurd h (Nat.lt_irrefl _)⟩
 ·exact⟨_,c,rfl,fun _=>⟨b,rfl,aB,bd,aw,hm⟩⟩
theorem L9{a b c d e:Option Addr}{ka jw mQ rv n5 c1 c2 bJ bW pd:Nat}{n:Int}:∀x∈(#[.slice a ka c1,.slice b jw c2,.slice c mQ bJ,.int .i64 n,.slice d rv bW,.slice e n5 pd]:Array Value).toList,x.oneCell'=true:=by simp[Value.oneCell']
theorem aiD(cs:List Value)(m:o.Model)(w:World)(h:o.dM w cs m)(aV:m.cG)(aZ:gH w) :
  bw Tryz.prog F.c3 #[.agg cs.toArray] w fun u w'=>(∃b n,((o.il m=[]∧n=0∧u = .slice none 0 0)∨u = .slice (some ⟨b,0,none⟩) n n∧n=(o.il m).length∧w.heap.size≤b∧w'.heap[b]? = some (.cells (im (o.il m)).toArray T.l)))∧Ext w w':=by
 have dk:=h;obtain⟨cz,bV,cj,c1,cq,c2,cr,bJ,cC,bW,rfl,ao,h1,U,ah,aJ,eH,dB,dH,ee,ei⟩:=h.form;refine bP E.c3 ?_;refine bM ?_;refine ad ?_;intro aq bE c8 aC ar;refine ad ?_;refine K.call (AA _ m aq (dk.ext aC) aV (aZ.ext aC)) ?_;rintro _ aU ⟨rfl,aA⟩;replace ar:=aA.obj ar;have ba:=aC.trans aA;refine ad ?_;refine K.jd (v:=.int .i64 (o.check m).cM) rfl ?_;refine ad ?_;apply K.cond<;>intro g1;rotate_left
 ·have e:o.il m=[]:=by unfold o.il;rw[if_neg g1]
  refine ad ?_;exact⟨⟨0,0,.inl ⟨e,rfl,bf⟩⟩,ba⟩
 have h6:=o.mP g1;have K5:o.lay m=o.layout m:=by unfold o.lay;rw[if_pos g1]
 refine eh ?_;refine K.gK [1] (fun x:Nat×Value=>[(3,.pointer (some ⟨x.1,0,none⟩)),(4,x.2)]) (fun x W => ∃ys:List Value,W.heap[x.1]? = some (.cells ys.toArray T.h)∧o.kf W ys (o.layout m)∧jX W x.2 (o.insts m)∧Ext aU W) ?_ ?_
 ·have TU:∀{W},Ext aU W→bw Tryz.prog F.y #[.agg #[.slice cz m.scalars.length bV,.slice cj m.vars.length c1,.slice cq m.a7.length c2,.slice cr m.procs.length bJ,.slice cC m.props.length bW]] W fun v w'=>(∃jT d0 gb d1 hQ d2 iT d3 kL d4,v = .agg #[.slice jT (o.layout m).vars.length d0,.slice gb (o.layout m).a7.length d1,.slice hQ (o.layout m).insts.length d2,.int .i64 (o.layout m).cells,.slice iT (o.layout m).bA.length d3,.slice kL (o.layout m).af.length d4]∧e7 W (fun w=>o.kf w [.slice jT (o.layout m).vars.length d0,.slice gb (o.layout m).a7.length d1,.slice hQ (o.layout m).insts.length d2,.int .i64 (o.layout m).cells,.slice iT (o.layout m).bA.length d3,.slice kL (o.layout m).af.length d4] (o.layout m)) w')∧Ext W w':=fun {W} he=>(Vf _ m W (dk.ext (ba.trans he)) aV (aZ.ext (ba.trans he))).mono fun v w' ⟨⟨xs,aO,aH⟩,gx⟩=>by
   rw[K5] at aH;obtain⟨jT,d0,gb,d1,hQ,d2,iT,d3,kL,d4,rfl,_⟩:=aH.here.form;exact⟨⟨jT,d0,gb,d1,hQ,d2,iT,d3,kL,d4,aO,aH⟩,gx⟩
  have p6:∀{W},Ext aU W→bw Tryz.prog F.a #[.agg #[.slice cz m.scalars.length bV,.slice cj m.vars.length c1,.slice cq m.a7.length c2,.slice cr m.procs.length bJ,.slice cC m.props.length bW]] W fun v w'=>(∃dd ci,v = .slice dd (o.insts m).length ci∧bg o.cU.enc T.n 2 W.heap.size w' v (o.insts m))∧Ext W w':=fun {W} he=>(Ae _ m W (dk.ext (ba.trans he)) aV).mono fun v w' ⟨aO,gx⟩=>by
   obtain⟨dd,ci,rfl,_⟩:=aO.form;exact⟨⟨dd,ci,rfl,aO⟩,gx⟩
  refine eh ?_;intro aY ax;replace ar:=ax.obj ar;refine ad ?_;refine⟨?_,?_⟩
  ·refine K.call (TU ax) ?_;rintro _ bo ⟨⟨jT,d0,gb,d1,hQ,d2,iT,d3,kL,d4,rfl,dg⟩,aF⟩;have bX:=ax.trans aF;refine⟨aF,?_⟩;refine ad ?_;refine⟨?_,?_⟩
   ·refine K.call (p6 bX) ?_;rintro _ bD ⟨⟨dd,ci,rfl,bs⟩,aM⟩;have ca:=bX.trans aM;refine ad ?_;intro bQ ch fE aN bB;refine⟨(aF.trans aM).trans aN,?_⟩;refine K.hT bB rfl rfl L9 fun cd dC dq=>?_;have dw:=dC.ext aN fE;refine ad ?_;exact⟨(ch,_),⟨bf,bf,trivial⟩,_,dq,dg.here.ext (aM.trans dw),(bg.fB (enc:=o.cU.enc) (fun _=>rfl) bs).ext Flat.ext dw,ca.trans dw⟩
   ·refine K.new ?_;intro bD ch fE aM bB;have ca:=bX.trans aM;have cB:=cy bB;refine⟨aF.trans aM,?_⟩;refine ad ?_;refine K.call (p6 ca) ?_;rintro _ bQ ⟨⟨dd,ci,rfl,bs⟩,aN⟩;refine ad ?_;refine K.hT (aN.obj bB) rfl rfl L9 fun cd dC dq=>?_;have dw:=dC.ext (aM.trans aN) fE;refine ad ?_;exact⟨(ch,_),⟨bf,bf,trivial⟩,_,dq,dg.here.ext dw,bg.fB (enc:=o.cU.enc) (fun _=>rfl) (bg.wr dC cB bs),bX.trans dw⟩
  ·refine K.new ?_;intro bo ch fE aF bB;have bX:=ax.trans aF;have cB:=cy bB;refine⟨aF,?_⟩;refine ad ?_;refine K.call (TU bX) ?_;rintro _ bD ⟨⟨jT,d0,gb,d1,hQ,d2,iT,d3,kL,d4,rfl,dg⟩,aM⟩;have ca:=bX.trans aM;have z5:=aM.size;refine⟨aF.trans aM,?_⟩;refine ad ?_;refine K.call (p6 ca) ?_;rintro _ bQ ⟨⟨dd,ci,rfl,bs⟩,aN⟩;refine ad ?_;refine K.hT ((aM.trans aN).obj bB) rfl rfl L9 fun cd dC dq=>?_;have dw:=dC.ext ((aF.trans aM).trans aN) fE;refine ad ?_;exact⟨(ch,_),⟨bf,bf,trivial⟩,_,dq,((dg.ext aN z5).wr dC cB).here,bg.fB (enc:=o.cU.enc) (fun _=>rfl) (bg.wr dC (by omega) bs),ax.trans dw⟩
 rintro⟨ch,cw⟩ S aY ⟨ys,bB,dg,bs,ax⟩;dsimp only at bB dg bs ⊢;replace ar:=ax.obj ar;have bz:=ba.trans ax;have Cx:=dg;obtain⟨jT,d0,gb,d1,hQ,d2,iT,d3,kL,d4,rfl,_⟩:=dg.form;have gh:(o.layout m).cells=(o.fx m:Nat):=rfl;have nS:o.fx m≤64:=o.sA h6;have q7:=o.V0 g1;refine ad ?_;refine K.Mg (o.fx m) gh (by omega) fun bo b aB aF bH=>?_;refine ad ?_;intro wn bR mC fF fT;refine ad ?_;intro bD eU h7;have aM:Ext bo bD:=eU.ext fF mC;clear fT;have hg:=aF.trans aM;have mB:lv bD bR b (o.fx m) (o.v8 m 0):=⟨h7,_,aM.obj bH,o.mn.start _⟩;have jf:=cy (aM.obj bH);have nO:∀{W},Mod (fun i=>i=b) bD W→Ext aY W:=fun hm=>hm.ext hg fun k hk e=>by omega
 have ac4:=hg.obj ar;have GJ:=hg.obj bB;clear bH h7;refine ad ?_;refine K.cR 24 m.props.length [1,3,4,5,22,23] (fun _:Unit=>[]) () (fun k _ W=>lv W bR b (o.fx m) (o.v8 m k)∧Mod (fun i=>i=b) bD W) bp bp ⟨mB,Mod.refl _ _⟩ ?_;rintro k _ iH bQ hk ⟨vp,p9⟩;have zA:=nO p9;have c7:=bz.trans zA;have acI:=vp.box;have q4:=zA.obj ar;have acS:=zA.obj bB;clear ac4 GJ;refine ad ?_;apply K.cond<;>intro g2;rotate_left
 ·have h8:k=m.props.length:=by omega
  rw[h8,o.aiz] at vp;obtain⟨ak,aZ,aG⟩:=vp.row;have Lv:=aG.WQ g1;subst Lv;have a1:=aG.len;refine ad ?_;exact⟨⟨b,o.fx m,.inr ⟨rfl,a1.symm,by have:=bz.size;omega,aZ⟩⟩,c7⟩
 have cT:k<m.props.length:=by omega
 obtain⟨a4,rfl⟩:=aJ.addr (by omega);obtain⟨mI,hV,dU,gU⟩:=aJ.at k cT;obtain⟨HI,ce,rfl,_⟩:=gU.form;have e5:=o.ME g1 cT;have hle:=e5.len;unfold o.kg.enc at dU;have tS:=dU.ext c7;refine ad ?_;intro cd kX iM bC dq;have dw:=c7.trans bC;refine ad ?_;refine K.call (ajD _ m.props[k].expr cd (gU.ext dw) (by omega)) ?_;rintro _ c9 ⟨⟨r,bd,abX⟩,bU⟩;obtain⟨bm,c,rfl,mG⟩:=abX.form;have tG:=bC.trans bU;have pk:=vp.ext tG;have ad2:=p9.trans tG.mod;have oE:=bC.size;have eK:b<bQ.heap.size:=by have:=p9.size;omega
 clear dq tS acI q4 acS;refine ad ?_;refine K.cR 32 r.length [1,3,4,5,22,23,24,30,31] (fun _:Unit=>[]) () (fun i _ W=>lv W bR b (o.fx m) (o.v8 m k++(r.take i).flatMap (o.dI m 0 false))∧Mod (fun i=>i=b) c9 W) bp bp ⟨by simpa using pk,Mod.refl _ _⟩ ?_;rintro i _ Bw dF af ⟨zF,re⟩;have TY:=ad2.trans re;have Gs:=nO TY;have gu:=bz.trans Gs;have S5:=zF.box;have CL:=Gs.obj ar;have S9:=Gs.obj bB;refine ad ?_;apply K.cond<;>intro g3;rotate_left
 ·have adI:i=r.length:=by omega
  rw[adI,List.take_length] at zF;refine ad ?_;refine⟨cT,bf,(),trivial,zF.congr fun z=>?_,TY⟩;rw[o.aiA cT,List.mem_append,List.mem_append,o.ajC bd]
 have eP:i<r.length:=by omega
 obtain⟨ng,rfl,Kn,ad9,Hd,Uf⟩:=mG (by omega);have vm:=(ad9.mod re (by omega)).W1 Hd Uf;obtain⟨LQ,_⟩:=(bd.mem r[i]).1 (List.getElem_mem eP);have alU:r.length≤9223372036854775807:=by unfold maxLen at Uf;omega
 have dA:(r[i]).ok:=by
  have T8:=List.length_pos_of_mem LQ;obtain⟨s5,rfl⟩:=gU.addr T8;obtain⟨j,aI,w9⟩:=List.mem_iff_getElem.1 LQ;rw[←w9];exact(gU.at j aI).ok
 have He:=o.V1 g1 cT LQ;refine ad ?_;intro fe b9 lX dj dm;replace S5:=dj.obj S5;replace CL:=dj.obj CL;replace S9:=dj.obj S9;refine ad ?_;refine K.call (aas r[i] _ _ _ bR b _ m aY fe (dk.ext bz) Cx bs (Gs.trans dj) aB (zF.ext dj) h6 He dA) ?_;rintro _ fQ ⟨acj,ad1⟩;refine ad ?_;refine⟨eP,bf,(),trivial,?_,(re.trans dj.mod).trans ad1⟩;rw[List.take_succ_eq_append_getElem eP,List.flatMap_append,←List.append_assoc];simpa using acj
theorem RC(cs:List Value)(cw:Value)(m:o.Model)(ref:Int)(q p k:Nat)(w:World)(h:o.dM w cs m)(bs:jX w cw (o.insts m))(cv:o.hf m ref q p k)(x:o.Ref)(kI:x.inst=q)(kq:x.cmd=k) :
  bw Tryz.prog F.k #[.agg cs.toArray,cw,.agg x.enc.toArray] w fun u w'=>(∃fV va,u = .agg ((o.da m p k).enc fV va).toArray∧o.fY w fV (o.da m p k).guard∧o.oi w va (o.da m p k).cn)∧Ext w w':=by
 obtain⟨cz,bV,cj,c1,cq,c2,cr,bJ,cC,bW,rfl,ao,h1,U,ah,aJ,eH,dB,dH,ee,ei⟩:=h.form;obtain⟨dd,ci,rfl,_⟩:=bs.form;have aR:=cv.at_.af;have aW:=cv.at_.aW;have k1:=cv.at_.hk;have mD:=cv.at_.ip;obtain⟨gB,rfl⟩:=bs.addr (by omega);obtain⟨a3,rfl⟩:=ah.addr (by omega);obtain⟨mI,cx,eg,dU,eL,fU⟩:=ah.at p aW;obtain⟨En,BM,rfl,DM⟩:=fU.form;obtain⟨ac,rfl⟩:=fU.addr (by omega);obtain⟨fT,fV,va,fS,kn,hM⟩:=fU.at k k1;obtain⟨hq,gl,rfl,_⟩:=kn.form;obtain⟨ur,ta,rfl,_⟩:=hM.form;have nU:=o.w2 aW k1;have tj:x.enc=[.int .i64 q,.int .i64 k]:=by unfold o.Ref.enc;rw[kI,kq]
 rw[tj];unfold o.dt.enc at dU;unfold o.dL.enc at fS;refine bP E.k ?_;refine bM ?_;refine ad ?_;intro aq ch fE aC bB;refine ad ?_;intro aU dX jf aA b3;replace bB:=aA.obj bB;refine ad ?_;intro aY dY eK ax b5;replace bB:=ax.obj bB;replace b3:=ax.obj b3;have bz:=(aC.trans aA).trans ax;have lL:=aC.size;have yv:=aA.size;intro bo aF;replace bB:=aF.obj bB;replace b3:=aF.obj b3;replace b5:=aF.obj b5;have bX:=bz.trans aF;have Gt:=bs.ext Flat.ext bX;have T6:=dU.ext bX;have alo:=fS.ext bX;refine ad ?_;refine K.dx p (by rw[mD]) aW ?_;refine ad ?_;intro bD eU acW;refine ad ?_;exact⟨⟨.slice hq (o.da m p k).guard.length gl,.slice ur (o.da m p k).cn.length ta,by rw[nU];rfl,by rw[nU];exact kn,by rw[nU];exact hM⟩,eU.ext bX (by omega)⟩
structure uX(w:World)(bR b:Nat)(ak:List Bool):Prop where
 box:w.heap[bR]? = some (.cells #[.slice (some ⟨b,0,none⟩) ak.length ak.length] T.s)
 row:w.heap[b]? = some (.cells (im ak).toArray T.l)
theorem uX.ext{w w':World}{bR b:Nat}{ak:List Bool}(h:uX w bR b ak)(he:Ext w w'):uX w' bR b ak:=⟨he.obj h.box,he.obj h.row⟩
def nu(ak:List Bool)(x:Int):Bool:=(ak[x.toNat]?).getD false
theorem ai8(x:Int)(bR b:Nat)(ak:List Bool)(w:World)(h:uX w bR b ak)(ao:0≤x)(h1:x.toNat<ak.length) :
  bw Tryz.prog F.w #[.int .i64 x,.pointer (some ⟨bR,0,none⟩)] w fun v w'=>v = .bool (nu ak x)∧Ext w w':=by
 have mC:=h.box;have aw:w.cell? (Addr.add ⟨b,0,none⟩ (x.toNat*1))=some (.bool (nu ak x)):=eN h.row (by rw[Nat.mul_one];simp[im,nu,h1]);refine bP E.w ?_;refine bM ?_;refine ad ?_;refine K.dx x.toNat (by omega) h1 ?_;refine ad ?_;refine K.ld aw ?_;refine ad ?_;exact⟨bf,Ext.refl _⟩
theorem aiH(v:Value)(l:List Int)(bR b:Nat)(ak:List Bool)(w:World)(h:h0 w v l)(cm:0<l.length→uX w bR b ak)(a1:∀x∈l,0≤x∧x.toNat<ak.length) :
  bw Tryz.prog F.p0 #[v,.func (.func F.w) #[] #[.pointer (some ⟨bR,0,none⟩)]] w fun ck w'=>ck = .int .i64 (p1 (nu ak) l 0)∧Ext w w':=by
 obtain⟨cj,c1,rfl,bE⟩:=h.form;refine bP E.p0 ?_;refine bM ?_;refine ad ?_;refine K.cR 8 l.length [0,1,7] (fun _:Unit=>[]) () (fun k _ w'=>Ext w w'∧p1 (nu ak) l 0=p1 (nu ak) (l.drop k) k) bp bp ⟨Ext.refl _,by simp⟩ ?_;rintro k _ S aU hk ⟨aA,bs⟩;have U:=h.ext Flat.ext aA;refine ad ?_;apply K.cond<;>intro g1
 ·have br:k<l.length:=by omega
  obtain⟨a,rfl⟩:=h.addr (by omega);obtain⟨Eu,dQ⟩:=a1 _ (List.getElem_mem br);rw[Sk br] at bs;refine ad ?_;refine K.mv (first:=[]) (cap:=[.pointer (some ⟨bR,0,none⟩)]) (by kernel_rfl) (ai8 l[k] bR b ak aU ((cm (by omega)).ext aA) Eu dQ) ?_;rintro _ aY ⟨rfl,ax⟩;cases aG:nu ak l[k] with
  | true =>
   rw[aG,if_pos rfl] at bs;refine ad ?_;exact⟨by rw[bs],aA.trans ax⟩
  | false =>
   rw[aG,if_neg (by simp)] at bs;refine ad ?_;exact⟨br,bf,(),trivial,aA.trans ax,bs⟩
 ·refine ad ?_;exact⟨by rw[bs,List.drop_eq_nil_of_le (by omega)];rfl,aA⟩
theorem aiw(v:Value)(l:List Int)(bR b:Nat)(ak:List Bool)(w:World)(h:h0 w v l)(cm:0<l.length→uX w bR b ak)(a1:∀x∈l,0≤x∧x.toNat<ak.length) :
  bw Tryz.prog F.y3 #[v,.func (.func F.w) #[] #[.pointer (some ⟨bR,0,none⟩)]] w fun ck w'=>ck = .bool (l.any (nu ak))∧Ext w w':=by
 refine bP E.y3 ?_;refine bM ?_;refine ad ?_;refine K.call (aiH v l bR b ak w h cm a1) ?_;rintro _ aU ⟨rfl,aA⟩;refine ad ?_;refine⟨?_,aA⟩;congr 1;exact Bool.eq_iff_iff.2 (by rw[decide_eq_true_eq];exact JQ)
end Go.Proofs.R
end
section
namespace o
open Go
theorem Zv{m:Model}{v:Nat}(bq:ff m)(h:v<m.vars.length):cells m.vars[v] m.scalars=(lb m v:Nat)∧lb m v≤64:=by
 have bd:=EZ bq h;rw[uf h] at bd ⊢;have dA:=(bq.var _ (List.getElem_mem h)).fz
 have:0≤cells m.vars[v] m.scalars:=by
  unfold cells size;split
  ·omega
  ·split
   ·split<;>omega
   ·omega
 omega
end o
namespace Go.Proofs.R
open Go Go.RowKit bt
theorem ahB(x:o.Node)(cs ys:List Value)(m:o.Model)(w:World)(h:o.dM w cs m)(aV:m.cG)(dg:o.kf w ys (o.layout m))(bq:o.ff m)(av:o.s0 m x)(dA:x.ok) :
  bw Tryz.prog F.Ec #[.agg cs.toArray,.agg ys.toArray,.agg x.enc.toArray] w fun u w'=>bg c4 T.a 1 w.heap.size w' u (o.dI m 0 false x)∧Ext w w':=by
 have dk:=h;have xR:=dA.op;have xQ:=dA.n;unfold o.eM at xR xQ;obtain⟨cz,bV,cj,c1,cq,c2,cr,bJ,cC,bW,rfl,ao,h1,U,ah,aJ,eH,dB,dH,ee,ei⟩:=h.form;obtain⟨jT,d0,gb,d1,hQ,d2,iT,d3,kL,d4,rfl,gG,eO,fc,mb,sJ⟩:=dg.form;obtain⟨f5,f6,f8⟩:=o.Ai m;have nS:o.fx m≤64:=o.sA bq;refine bP E.Ec ?_;refine bM ?_;refine ad ?_;intro aq ch fE aC bB;refine ad ?_;intro aU db gw aA bH;replace bB:=aA.obj bB;refine ad ?_;intro aY dX jf ax b3;replace bB:=ax.obj bB;replace bH:=ax.obj bH;have bz:=(aC.trans aA).trans ax;have z3:=bz.size;unfold o.Node.enc at b3;refine ad ?_;apply K.cond<;>intro g2
 ·obtain⟨aH,fv,a1⟩:=av.var bq g2;obtain⟨a0,rfl⟩:=gG.addr (by omega);have ahu:=gG.ext Flat.ext bz;obtain⟨fq,lF⟩:=o.wg aH;have bd:=o.A1 aH;have fR:x.n=(x.n.toNat:Nat):=by omega
  rw[fR] at b3;have ba:o.dI m 0 false x=[(o.iD m x.n.toNat:Int)]:=by unfold o.dI;rw[if_pos g2,o.lJ]
  rw[ba];refine ad ?_;intro bo Q3 S1 aF pn;rw[lF] at pn;refine ad ?_;refine K.ki (y:=(o.iD m x.n.toNat:Int)) (bg.nil c4 T.a 1 w.heap.size bo) pn rfl (fun _=>rfl) j1 (by simp) (by simp[maxLen]) (by have:=aF.size;omega) fun bm n c bD eF l1=>?_;have aM:=bg.j2 (bg.nil c4 T.a 1 w.heap.size bo) (bz.trans aF) l1 (Nat.le_refl _);refine ad ?_;exact⟨eF,aM⟩
 refine ad ?_;apply K.cond<;>intro g3
 ·obtain⟨aH,fv,_⟩:=av.item bq g3;obtain⟨a0,rfl⟩:=gG.addr (by omega);obtain⟨Ym,rfl⟩:=h1.addr (by omega);obtain⟨fq,lF⟩:=o.wg aH;obtain⟨e9,alK⟩:=o.Zv bq aH;have bd:=o.A1 aH;have fR:x.n=(x.n.toNat:Nat):=by omega
  have Ge:o.dI m 0 false x=o.fO (o.iD m x.n.toNat) (o.lb m x.n.toNat):=by
   unfold o.dI o.k8;rw[if_neg g2,if_pos g3,if_neg (by simp)]
  rw[fR] at b3;rw[Ge];have acR:=bB;have GH:=bH;have CN:=b3;clear bB bH b3;refine ad ?_;refine K.cR 8 (o.lb m x.n.toNat) [3,4,5] (fun u:Value=>[(7,u)]) (.slice none 0 0) (fun k u W=>bg c4 T.a 1 aY.heap.size W u (o.fO (o.iD m x.n.toNat) k)∧Ext aY W) bp bp ⟨bg.nil _ _ _ _ _,Ext.refl _⟩ ?_;rintro k u S bo hk ⟨hu,aF⟩;have bX:=bz.trans aF;obtain⟨sH,qS,rfl,_⟩:=hu.form;have aeF:=o.HU (o.iD m x.n.toNat) k;have bB:=aF.obj acR;have bH:=aF.obj GH;have b3:=aF.obj CN;have MO:=gG.ext Flat.ext bX;have zv:=h1.ext bX;have k5:=ao.ext bX;refine ad ?_;refine K.gm (.int .i64 (o.cells m.vars[x.n.toNat] m.scalars)) (fun w' gx=>MW m.vars[x.n.toNat] _ m.scalars w' (k5.ext gx)) ?_;refine ad ?_;intro bD aM;have ca:=bX.trans aM;replace bH:=aM.obj bH;replace b3:=aM.obj b3;have HO:=MO.ext Flat.ext aM;have LD:=hu.ext aM;clear MO zv;refine ad ?_;apply K.cond<;>intro g4
  ·refine ad ?_;intro bQ akB eK aN b5;rw[lF] at b5;refine ad ?_;refine K.ki (y:=((o.iD m x.n.toNat+k:Nat):Int)) (LD.ext aN) b5 (by unfold c4;rw[Int.natCast_add];rfl) (fun _=>rfl) j1 (by omega) (by unfold maxLen;omega) (by have:=aN.size;have:=aM.size;have:=aF.size;omega) fun bm n c cd eR ix=>?_;have bC:=bg.j2 (LD.ext aN) ((aF.trans aM).trans aN) ix (Nat.le_refl _);refine ad ?_;refine⟨by omega,bf,_,⟨rfl,trivial⟩,?_,bC⟩;rw[o.M1];exact eR
  ·have h8:k=o.lb m x.n.toNat:=by omega
   refine ad ?_;exact⟨by rw[←h8];exact bg.low z3 LD,ca⟩
 refine ad ?_;apply K.cond<;>intro g6
 ·obtain⟨fv,dV⟩:=av.node.len g6;have eA:x.n.toNat<m.a7.length:=dV;obtain⟨dG,rfl⟩:=eO.addr (by omega);have ahw:=eO.ext Flat.ext bz;obtain⟨p5,e9⟩:=o.u3 eA;have fR:x.n=(x.n.toNat:Nat):=by omega
  rw[fR] at b3;have c7:o.dI m 0 false x=[(o.h3 m x.n.toNat:Int)]:=by
   unfold o.dI;rw[if_neg g2,if_neg g3,if_neg (by omega),if_pos g6,o.lJ]
  rw[c7];refine ad ?_;intro bo Q3 S1 aF pn;rw[e9] at pn;refine ad ?_;refine K.ki (y:=(o.h3 m x.n.toNat:Int)) (bg.nil c4 T.a 1 w.heap.size bo) pn rfl (fun _=>rfl) j1 (by simp) (by simp[maxLen]) (by have:=aF.size;omega) fun bm n c bD eF l1=>?_;have aM:=bg.j2 (bg.nil c4 T.a 1 w.heap.size bo) (bz.trans aF) l1 (Nat.le_refl _);refine ad ?_;exact⟨eF,aM⟩
 refine ad ?_;apply K.cond<;>intro g7;rotate_left
 ·have eX:o.dI m 0 false x=[]:=by
   unfold o.dI;by_cases g4:x.op=4
   ·have:=(av.node.loc g4).2
    have e:(o.ez m).locals=[]:=rfl;rw[e] at this;cases this
   rw[if_neg g2,if_neg g3,if_neg g4,if_neg g6,if_neg g7]
  rw[eX];refine ad ?_;exact⟨bg.nil _ _ _ _ _,bz⟩
 have dw:o.dI m 0 false x=o.lQ m (x.n.tdiv 16) (o.insts m).length:=by unfold o.dI;rw[if_neg g2,if_neg g3,if_neg (by omega),if_neg g6,if_pos g7]
 rw[dw];obtain⟨fv,xK⟩:=av.node.at_ g7;have Lo:=Int.tdiv_nonneg fv (show(0:Int)≤16 by omega);have Lj:(x.n.tdiv 16).toNat<m.procs.length:=xK;have Ll:=bq.procs;have Ub : -9223372036854775808≤x.n.tdiv 16∧x.n.tdiv 16≤9223372036854775807:=by omega
 have jq:=o.DC bq;refine ad ?_;refine K.call (vW _ m aY (dk.ext bz) aV) ?_;rintro cw bo ⟨fq,aF⟩;obtain⟨dd,ci,rfl,_⟩:=fq.form;have e5:jX bo _ _:=bg.fB (enc:=o.cU.enc) (fun _=>rfl) fq;have acU:=aF.obj bH;have acV:=aF.obj b3;have bX:=bz.trans aF;clear bB bH b3 fq;refine ad ?_;refine K.cR 10 (o.insts m).length [4,5,9] (fun u:Value=>[(7,u)]) (.slice none 0 0) (fun k u W=>bg c4 T.a 1 bo.heap.size W u (o.lQ m (x.n.tdiv 16) k)∧Ext bo W) bp bp ⟨by simpa[o.lQ] using bg.nil _ _ _ _ _,Ext.refl _⟩ ?_;rintro k u S bD hk ⟨hu,aM⟩;obtain⟨sH,qS,rfl,_⟩:=hu.form;have aeF:=(o.FN bq (x.n.tdiv 16) k hk).len;have bH:=aM.obj acU;have b3:=aM.obj acV;have ca:=bX.trans aM;have KZ:=e5.ext Flat.ext aM;have qn:=fc.ext Flat.ext ca;refine ad ?_;apply K.cond<;>intro g1
 ·have cT:k<(o.insts m).length:=by omega
  obtain⟨gB,rfl⟩:=e5.addr (by omega);obtain⟨xD,kl⟩:=o.xT cT;obtain⟨a2,rfl⟩:=fc.addr (by omega);have je:=o.wR (m:=m) (p:=x.n.tdiv 16) cT;refine ad ?_;refine K.quo (by omega) ?_;refine ad ?_;intro bQ aN;replace bH:=aN.obj bH;have LF:=hu.ext aN;have HP:=qn.ext Flat.ext aN;have kP:=aM.trans aN;clear KZ qn;refine ad ?_;apply K.cond<;>intro g2
  ·rw[if_pos g2,o.lJ] at je;refine ad ?_;intro cd akD iM bC dq;rw[kl] at dq;refine ad ?_;refine K.ki (y:=(o.fl m k:Int)) (LF.ext bC) dq rfl (fun _=>rfl) j1 (by omega) (by unfold maxLen;omega) (by have:=bC.size;have:=kP.size;omega) fun bm n c c9 kp vz=>?_;have bU:=bg.j2 (LF.ext bC) (kP.trans bC) vz (Nat.le_refl _);refine ad ?_;refine⟨cT,bf,_,⟨rfl,trivial⟩,?_,bU⟩;rw[je];exact kp
  ·rw[if_neg g2,List.append_nil] at je;refine ad ?_;refine⟨cT,bf,_,⟨bf,trivial⟩,?_,kP⟩;rw[je];exact LF
 ·have h8:(o.insts m).length=k:=by omega
  rw[h8];refine ad ?_;exact⟨bg.low bX.size hu,ca⟩
end Go.Proofs.R
end
section
namespace o
open Go
def vT(m:Model)(e:List Node)(k:Nat):List Int:=(e.take k).flatMap (dI m 0 false)
theorem ahf{m:Model}{e:List Node}{k:Nat}(h:k<e.length):vT m e (k+1)=vT m e k++dI m 0 false e[k]:=by
 unfold vT;rw[List.take_succ_eq_append_getElem h,List.flatMap_append];simp
theorem ahe(m:Model)(e:List Node):vT m e e.length=uw m e:=by unfold vT uw;rw[List.take_length]
def uD(m:Model)(k:Nat):List Int:=(m.props.take k).flatMap fun p=>uw m p.expr
theorem aiy{m:Model}{k:Nat}(h:k<m.props.length):uD m (k+1)=uD m k++uw m m.props[k].expr:=by
 unfold uD;rw[List.take_succ_eq_append_getElem h,List.flatMap_append];simp
theorem aix(m:Model):uD m m.props.length=qp m:=by unfold uD qp;rw[List.take_length]
end o
namespace Go.Proofs.R
open Go Go.RowKit bt
structure wN(w:World)(b N:Nat)(L:List Int):Prop where
 row:∃ak,w.heap[b]? = some (.cells (im ak).toArray T.l)∧o.mn N L ak
theorem wN.ext{w w':World}{b N:Nat}{L:List Int}(h:wN w b N L)(he:Ext w w'):wN w' b N L:=by
 obtain⟨ak,h1,U⟩:=h.row;exact⟨ak,he.obj h1,U⟩
theorem aih(cs:List Value)(m:o.Model)(w:World)(h:o.dM w cs m)(aV:m.cG) :
  bw Tryz.prog F.Eb #[.agg cs.toArray] w fun u w'=>(∃b n,((o.il m=[]∧n=0∧u = .slice none 0 0)∨u = .slice (some ⟨b,0,none⟩) n n∧n=(o.il m).length∧w.heap.size≤b∧w'.heap[b]? = some (.cells (im (o.il m)).toArray T.l)))∧Ext w w':=by
 have dk:=h;obtain⟨cz,bV,cj,c1,cq,c2,cr,bJ,cC,bW,rfl,ao,h1,U,ah,aJ,eH,dB,dH,ee,ei⟩:=h.form;refine bP E.Eb ?_;refine bM ?_;refine ad ?_;intro aq bE c8 aC ar;refine ad ?_;refine K.call (HB _ m aq (dk.ext aC) aV) ?_;rintro _ aU ⟨rfl,aA⟩;replace ar:=aA.obj ar;have ba:=aC.trans aA;refine ad ?_;apply K.cond<;>intro g1;rotate_left
 ·have e:o.il m=[]:=by unfold o.il;rw[if_neg g1]
  refine ad ?_;exact⟨⟨0,0,.inl ⟨e,rfl,bf⟩⟩,ba⟩
 have h6:=o.mP g1;have K5:o.lay m=o.layout m:=by unfold o.lay;rw[if_pos g1]
 have nS:o.fx m≤64:=o.sA h6;have q7:=o.V0 g1;refine ad ?_;refine K.call (ahS _ m aU (dk.ext ba) aV) ?_;rintro _ aY ⟨⟨ys,rfl,dg⟩,ax⟩;have bz:=ba.trans ax;replace ar:=ax.obj ar;rw[K5] at dg;have SP:=dg.here;have Cx:=SP;obtain⟨jT,d0,gb,d1,hQ,d2,iT,d3,kL,d4,rfl,_⟩:=SP.form;have gh:(o.layout m).cells=(o.fx m:Nat):=rfl;refine ad ?_;intro bo ch fE aF bB;replace ar:=aF.obj ar;have bX:=bz.trans aF;have ab7:=Cx.ext aF;refine ad ?_;refine K.Mg (o.fx m) gh (by omega) fun bD b aB aM b3=>?_;have mB:wN bD b (o.fx m) (o.uD m 0):=⟨_,b3,o.mn.start _⟩;have jf:=cy b3;have nO:∀{W},Mod (fun i=>i=b) bD W→Ext bo W:=fun hm=>hm.ext aM fun k hk e=>by omega
 clear b3;refine ad ?_;refine K.cR 5 m.props.length [1,3,4] (fun _:Unit=>[]) () (fun k _ W=>wN W b (o.fx m) (o.uD m k)∧Mod (fun i=>i=b) bD W) bp bp ⟨mB,Mod.refl _ _⟩ ?_;rintro k _ iH bQ hk ⟨vp,p9⟩;have zA:=nO p9;have c7:=bX.trans zA;have q4:=zA.obj ar;refine ad ?_;apply K.cond<;>intro g2;rotate_left
 ·have h8:k=m.props.length:=by omega
  rw[h8,o.aix] at vp;obtain⟨ak,aZ,aG⟩:=vp.row;have Lv:=aG.WQ g1;subst Lv;have a1:=aG.len;refine ad ?_;exact⟨⟨b,o.fx m,.inr ⟨rfl,a1.symm,by have:=bX.size;omega,aZ⟩⟩,c7⟩
 have cT:k<m.props.length:=by omega
 obtain⟨a4,rfl⟩:=aJ.addr (by omega);obtain⟨mI,hV,dU,gU⟩:=aJ.at k cT;obtain⟨HI,ce,rfl,_⟩:=gU.form;have e5:=o.ME g1 cT;have hle:=e5.len;unfold o.kg.enc at dU;have tS:=dU.ext c7;refine ad ?_;refine K.cR 7 m.props[k].expr.length [1,3,4,5,6] (fun _:Unit=>[]) () (fun i _ W=>wN W b (o.fx m) (o.uD m k++o.vT m m.props[k].expr i)∧Mod (fun i=>i=b) bD W) bp bp ⟨by simpa[o.vT] using vp,p9⟩ ?_;rintro i _ Bw cd af ⟨Cz,sj⟩;have Gr:=nO sj;have dw:=bX.trans Gr;have S7:=Gr.obj ar;have S8:=Gr.obj bB;refine ad ?_;apply K.cond<;>intro g3;rotate_left
 ·have kl:i=m.props[k].expr.length:=by omega
  rw[kl,o.ahe] at Cz;refine ad ?_;refine⟨cT,bf,(),trivial,?_,sj⟩;rw[o.aiy cT];exact Cz
 have eP:i<m.props[k].expr.length:=by omega
 obtain⟨s5,rfl⟩:=gU.addr (by omega);have jQ:=gU.at i eP;have He:=o.V1 g1 cT (List.getElem_mem eP);have Hb:=jQ.cells.ext dw;refine ad ?_;intro c9 bU;replace S7:=bU.obj S7;replace S8:=bU.obj S8;replace Hb:=Hb.ext bU;refine ad ?_;refine K.call (ahB m.props[k].expr[i] _ _ m c9 (dk.ext (dw.trans bU)) aV (ab7.ext (Gr.trans bU)) h6 He jQ.ok) ?_;rintro _ dF ⟨fN,cL⟩;obtain⟨on,w3,rfl,_⟩:=fN.form;have acb:bG 1 (Flat c4) dF _ _:=bg.fB (enc:=c4) (fun _=>rfl) fN;have xy:=bU.trans cL;have zF:=Cz.ext xy;have re:=sj.trans xy.mod;have cB:=He.lt h6;have oE:b<c9.heap.size:=by have:=sj.size;have:=bU.size;omega
 have alX:(o.dI m 0 false m.props[k].expr[i]).length≤9223372036854775807:=by
  obtain⟨_,_,e,h1,U,_⟩:=acb.ex;unfold maxLen at U;omega
 refine ad ?_;refine K.cR 9 (o.dI m 0 false m.props[k].expr[i]).length [1,3,4,5,6,7,8] (fun _:Unit=>[]) () (fun j _ W=>wN W b (o.fx m) (o.uD m k++o.vT m m.props[k].expr i++(o.dI m 0 false m.props[k].expr[i]).take j)∧Mod (fun i=>i=b) dF W) bp bp ⟨by simpa using zF,Mod.refl _ _⟩ ?_;rintro j _ pR fe aI ⟨Kc,xG⟩;have aca:=bg.mod fN xG (fun q aR e=>by have:=(bg.lt fN q aR).1;omega);have vm:=bg.fB (enc:=c4) (fun _=>rfl) aca;refine ad ?_;apply K.cond<;>intro g4;rotate_left
 ·have adO:j=(o.dI m 0 false m.props[k].expr[i]).length:=by omega
  rw[adO,List.take_length] at Kc;refine ad ?_;refine⟨eP,bf,(),trivial,?_,re.trans xG⟩;rw[o.ahf eP,←List.append_assoc];exact Kc
 have lE:j<(o.dI m 0 false m.props[k].expr[i]).length:=by omega
 obtain⟨pa,rfl⟩:=vm.addr (by omega);obtain⟨z0,fC⟩:=cB _ (List.getElem_mem lE);obtain⟨ak,aZ,aG⟩:=Kc.row;have aeb:=aG.len;have bL:(o.dI m 0 false m.props[k].expr[i])[j]=(((o.dI m 0 false m.props[k].expr[i])[j]).toNat:Nat):=by omega
 have Ua:=aG.put (c:=((o.dI m 0 false m.props[k].expr[i])[j]).toNat) (by omega);rw[←bL] at Ua;refine ad ?_;refine K.dx ((o.dI m 0 false m.props[k].expr[i])[j]).toNat bL (by omega) ?_;refine ad ?_;refine K.Xa aZ (by omega) fun fQ ia nR=>?_;refine ad ?_;refine⟨lE,bf,(),trivial,⟨_,nR,?_⟩,xG.trans (ia.mod rfl)⟩;rw[List.take_succ_eq_append_getElem lE,←List.append_assoc];exact Ua
end Go.Proofs.R
end
section
namespace o
structure Pm(m:Model):Prop where
 s:m.scalars.length≤8
 v:m.vars.length≤20
 c:m.a7.length≤8
 p:m.procs.length≤10
 q:m.props.length≤16
 i:∀(j:Nat) (h:j<m.procs.length),m.procs[j].vars.length≤10∧m.procs[j].cE.length≤16
end o
namespace Go.Proofs.R
open Go Go.RowKit bt
theorem afK(cs:List Value)(c:o.dL)(w:World)(h:o.wu w cs c) :
  bw Tryz.prog F.D5 #[.agg cs.toArray] w fun v w'=>(∃b:Bool,v = .bool b)∧Ext w w':=by
 obtain⟨ao,_,_,rfl,aV,bu⟩:=h;obtain⟨_,_,rfl,_⟩:=aV.form;obtain⟨bm,gJ,rfl,ns⟩:=bu.form;unfold o.dL.enc;refine bP E.D5 ?_;refine bM ?_;refine aa ?_;intro aq bE c8 aC ar;refine aa ?_;apply K.cond<;>intro g0
 ·refine aa ?_;exact⟨⟨_,rfl⟩,aC⟩
 refine aa ?_;apply K.cond<;>intro g1
 ·refine aa ?_;exact⟨⟨_,rfl⟩,aC⟩
 refine aa ?_;apply K.cond<;>intro g2
 ·refine aa ?_;exact⟨⟨_,rfl⟩,aC⟩
 refine aa ?_;refine K.cR 3 c.cn.length [1] (fun _=>[]) () (fun k _ w'=>w'=aq) bp bp rfl ?_;rintro k _ S aU hk rfl;refine aa ?_;apply K.cond<;>intro g5
 ·have br:k<c.cn.length:=by omega
  obtain⟨a,rfl⟩:=bu.addr (by omega);obtain⟨cx,eg,aW,eL,dU⟩:=bu.at k br;obtain⟨fz,ir,rfl,iA⟩:=eL.form;obtain⟨n1,kk,rfl,lc⟩:=dU.form;refine aa ?_;apply K.cond<;>intro g6
  ·refine aa ?_;exact⟨⟨_,rfl⟩,aC⟩
  refine aa ?_;apply K.cond<;>intro g7
  ·refine aa ?_;exact⟨⟨_,rfl⟩,aC⟩
  refine aa ?_;exact⟨br,bf,(),trivial,bf⟩
 refine aa ?_;exact⟨⟨_,rfl⟩,aC⟩
theorem Vo(cs:List Value)(m:o.Model)(w:World)(h:o.dM w cs m) :
  bw Tryz.prog F.Aq #[.agg cs.toArray] w fun v w'=>(∃b,v = .bool b∧(b=true→o.Pm m))∧Ext w w':=by
 obtain⟨cz,bV,cj,c1,cq,c2,cr,bJ,cC,bW,rfl,ao,h1,U,ah,aJ,eH,dB,dH,ee,ei⟩:=h.form;refine bP E.Aq ?_;refine bM ?_;refine aa ?_;intro aq bE c8 aC ar;refine aa ?_;apply K.cond<;>intro g0
 ·refine aa ?_;exact⟨⟨false,rfl,fun h=>by cases h⟩,aC⟩
 refine aa ?_;apply K.cond<;>intro g1
 ·refine aa ?_;exact⟨⟨false,rfl,fun h=>by cases h⟩,aC⟩
 refine aa ?_;apply K.cond<;>intro g2
 ·refine aa ?_;exact⟨⟨false,rfl,fun h=>by cases h⟩,aC⟩
 refine aa ?_;apply K.cond<;>intro g3
 ·refine aa ?_;exact⟨⟨false,rfl,fun h=>by cases h⟩,aC⟩
 refine aa ?_;apply K.cond<;>intro g4
 ·refine aa ?_;exact⟨⟨false,rfl,fun h=>by cases h⟩,aC⟩
 have oG:=ar;refine aa ?_;refine K.cR 3 m.procs.length [1] (fun _=>[]) () (fun k _ w'=>Ext aq w'∧∀j (h:j<m.procs.length),j<k→m.procs[j].vars.length≤10∧m.procs[j].cE.length≤16) bp bp ⟨Ext.refl _,fun j _ h=>absurd h (Nat.not_lt_zero _)⟩ ?_;rintro k _ S aU hk ⟨aA,dP⟩;replace ar:=aA.obj oG;have ba:=aC.trans aA;refine aa ?_;apply K.cond<;>intro g5
 ·have br:k<m.procs.length:=by omega
  obtain⟨a,rfl⟩:=ah.addr (by omega);obtain⟨_,cx,eg,aW,eL,dU⟩:=ah.at k br;obtain⟨fz,ir,rfl,iA⟩:=eL.form;obtain⟨n1,kk,rfl,lc⟩:=dU.form;refine aa ?_;apply K.cond<;>intro g6
  ·refine aa ?_;exact⟨⟨false,rfl,fun h=>by cases h⟩,ba⟩
  refine aa ?_;apply K.cond<;>intro g7
  ·refine aa ?_;exact⟨⟨false,rfl,fun h=>by cases h⟩,ba⟩
  refine aa ?_;refine K.cR 4 m.procs[k].cE.length [1,3] (fun _=>[]) () (fun i _ w'=>Ext aq w') bp bp aA ?_;clear ar ba aA;rintro i _ S aY af aA;have ar:=aA.obj oG;have ba:=aC.trans aA;refine aa ?_;apply K.cond<;>intro g8
  ·have cS:i<m.procs[k].cE.length:=by omega
   obtain⟨ac,rfl⟩:=dU.addr (by omega);obtain⟨akK,fS,cv⟩:=Rel.out (dU.at i cS);obtain⟨_,_,_,rfl,_,_⟩:=id cv;refine aa ?_;refine K.call (afK _ m.procs[k].cE[i] aY (cv.ext ba)) ?_;rintro _ bo ⟨⟨b,rfl⟩,aF⟩;cases b with
   | false =>
    refine aa ?_;exact⟨⟨false,rfl,fun h=>by cases h⟩,ba.trans aF⟩
   | true =>
    refine aa ?_;exact⟨cS,bf,(),trivial,aA.trans aF⟩
  ·refine aa ?_;refine⟨br,bf,(),trivial,aA,fun j aI km=>?_⟩;by_cases kF:j=k
   ·subst kF;exact⟨by omega,by omega⟩
   ·exact dP j aI (by omega)
 refine aa ?_;refine K.cR 5 m.props.length [1] (fun _=>[]) () (fun i _ w'=>w'=aU) bp bp rfl ?_;rintro i _ S aY af rfl;refine aa ?_;apply K.cond<;>intro g8
 ·have cS:i<m.props.length:=by omega
  obtain⟨ac,rfl⟩:=aJ.addr (by omega);obtain⟨_,hV,fS,lF⟩:=aJ.at i cS;obtain⟨fz,ir,rfl,iA⟩:=lF.form;refine aa ?_;apply K.cond<;>intro g9
  ·refine aa ?_;exact⟨⟨false,rfl,fun h=>by cases h⟩,ba⟩
  refine aa ?_;exact⟨cS,bf,(),trivial,bf⟩
 refine aa ?_;exact⟨⟨true,rfl,fun _=>⟨by omega,by omega,by omega,by omega,by omega,fun j aI=>dP j aI (by omega)⟩⟩,ba⟩
end Go.Proofs.R
end
section
namespace bt
open Go
theorem K.VB{P:Program}{fJ:TypeId}{cV c3:Operand}{aE:Value→Prop}{a:Bool}{t}(h:P.underlying fJ=some .bool)(hk:aE (.bool false)):gj P .neq fJ cV c3 (.bool a) (.bool a) aE t:=K.Mm h (by rw[bne_self_eq_false];exact hk)
end bt
end
section
namespace o
open Go
structure jl(m:Model)(ref:Int)(t:Bool):Prop where
 none:¬Told m ref→t=false
 there:∀q p k a b,hf m ref q p k→iG m ref a b→(t=true↔(da m p k).to≤(da m p k).from_∨∃x∈b,x∈qp m)
theorem jl.no{m:Model}{ref:Int}(h:¬Told m ref):jl m ref false:=⟨fun _=>rfl,fun _ _ _ _ _ cv=>absurd cv.told h⟩
theorem jl.of{m:Model}{ref:Int}{q p k:Nat}{a b:List Int}{t:Bool}(cv:hf m ref q p k)(er:iG m ref a b)(h:t=true↔(da m p k).to≤(da m p k).from_∨∃x∈b,x∈qp m):jl m ref t :=
 ⟨fun aH=>absurd cv.told aH,fun gF hC k' cX gk J2 acd=>by
  obtain⟨rfl,rfl,rfl⟩:=cv.one J2;obtain⟨rfl,rfl⟩:=er.eq acd;exact h⟩
theorem XK{m:Model}{ref:Int}{q p k:Nat}{a b:List Int}(cv:hf m ref q p k)(er:iG m ref a b):∀x∈b,0≤x∧x<fx m:=fun x av=>write_lt cv x (((er.there q p k cv).2.mem x).1 av)
end o
namespace Go.Proofs.R
open Go Go.RowKit bt
theorem Na{m:o.Model}{b:List Int}(hk:(o.check m).cM=0)(aB:∀x∈b,0≤x∧x<o.fx m):b.any (nu (o.il m))=true↔∃x∈b,x∈o.qp m:=by
 rw[List.any_eq_true];have key:∀x∈b,(nu (o.il m) x=true↔x∈o.qp m):=fun x av=>by
  obtain⟨ao,h1⟩:=aB x av;unfold nu o.il;rw[if_pos hk,List.getElem?_map,List.getElem?_range (by omega)];simp only[Option.map_some,Option.getD_some,decide_eq_true_eq];rw[show((x.toNat:Nat):Int)=x from by omega]
 constructor
 ·rintro⟨x,av,h⟩;exact⟨x,av,(key x av).1 h⟩
 ·rintro⟨x,av,h⟩;exact⟨x,av,(key x av).2 h⟩
theorem WR{m:o.Model}(hk:(o.check m).cM=0):(o.il m).length=o.fx m:=by unfold o.il;rw[if_pos hk];simp
theorem u7{s:ByteArray}{f t:Int}{a b:Option Addr}{ka jw c1 c2:Nat}{y:Bool}:∀x∈(#[.string s,.int .i64 f,.int .i64 t,.slice a ka c1,.slice b jw c2,.bool y]:Array Value).toList,x.oneCell'=true:=by simp[Value.oneCell']
theorem RG(cs:List Value)(m:o.Model)(ref:Int)(w:World)(h:o.dM w cs m)(aV:m.cG)(aZ:gH w) :
  bw Tryz.prog F.ak #[.agg cs.toArray,.int .i64 ref] w fun u w'=>(∃t,u = .bool t∧o.jl m ref t)∧Ext w w':=by
 have dk:=h;obtain⟨cz,bV,cj,c1,cq,c2,cr,bJ,cC,bW,rfl,_⟩:=h.form;refine bP E.ak ?_;refine bM ?_;refine ad ?_;intro aq cp dT aC aK;refine ad ?_;refine K.call (AA _ m aq (dk.ext aC) aV (aZ.ext aC)) ?_;rintro _ aU ⟨rfl,aA⟩;replace aK:=aA.obj aK;have ba:=aC.trans aA;refine ad ?_;refine K.jd (v:=.int .i64 (o.check m).cM) rfl ?_;refine ad ?_;apply K.cond<;>intro g1;rotate_left
 ·refine ad ?_;exact⟨⟨false,bf,o.jl.no fun h=>g1 h.1⟩,ba⟩
 have h6:=o.mP g1;have j6:=o.oV h6.lim;refine ad ?_;refine K.call (EB _ m aU (dk.ext ba) h6.lim) ?_;rintro vr aY ⟨gN,ax⟩;obtain⟨ma,lS,rfl,_⟩:=gN.form;have p2:bG 2 (Flat o.Ref.enc) aY _ _:=bg.fB (enc:=o.Ref.enc) (fun _=>rfl) gN;replace aK:=ax.obj aK;have bz:=ba.trans ax;clear gN;refine ad ?_;apply K.cond<;>intro g2
 ·refine ad ?_;exact⟨⟨false,bf,o.jl.no fun h=>by have:=h.2.1;omega⟩,bz⟩
 refine ad ?_;apply K.cond<;>intro g3
 ·refine ad ?_;exact⟨⟨false,bf,o.jl.no fun h=>by have:=h.2.2;omega⟩,bz⟩
 obtain⟨q,p,k,cv⟩:=o.rX (m:=m) (ref:=ref) ⟨g1,by omega,by omega⟩;obtain⟨r,rfl⟩:=Int.eq_ofNat_of_zero_le (show 0≤ref by omega);have bd:r<(o.refs m).length:=by omega
 have l5:(o.refs m)[r].inst=(q:Int):=cv.at_.uA;have nX:(o.refs m)[r].cmd=(k:Int):=cv.at_.vX;obtain⟨kW,rfl⟩:=p2.addr (by omega);refine eh ?_;refine K.gK [1,2] (fun dY:Nat=>[(6,.pointer (some ⟨dY,0,none⟩))]) (fun dY W=>(∃hq gl bm gJ,W.heap[dY]? = some (.cells #[.string (o.da m p k).name,.int .i64 (o.da m p k).from_,.int .i64 (o.da m p k).to,.slice hq (o.da m p k).guard.length gl,.slice bm (o.da m p k).cn.length gJ,.bool (o.da m p k).fair] T.j))∧Ext aY W) ?_ ?_
 ·have p6:∀{W},Ext aY W→bw Tryz.prog F.a #[.agg #[.slice cz m.scalars.length bV,.slice cj m.vars.length c1,.slice cq m.a7.length c2,.slice cr m.procs.length bJ,.slice cC m.props.length bW]] W fun v w'=>(∃dd ci,v = .slice dd (o.insts m).length ci∧jX w' v (o.insts m))∧Ext W w':=fun {W} he=>(Ae _ m W (dk.ext (bz.trans he)) aV).mono fun v w' ⟨aO,gx⟩=>by
   obtain⟨dd,ci,rfl,_⟩:=aO.form;exact⟨⟨dd,ci,rfl,bg.fB (enc:=o.cU.enc) (fun _=>rfl) aO⟩,gx⟩
  have ew:∀{W} {cw},Ext aY W→jX W cw (o.insts m)→bw Tryz.prog F.k #[.agg #[.slice cz m.scalars.length bV,.slice cj m.vars.length c1,.slice cq m.a7.length c2,.slice cr m.procs.length bJ,.slice cC m.props.length bW],cw,.agg ((o.refs m)[r]).enc.toArray] W fun u w'=>(∃hq gl bm gJ,u = .agg #[.string (o.da m p k).name,.int .i64 (o.da m p k).from_,.int .i64 (o.da m p k).to,.slice hq (o.da m p k).guard.length gl,.slice bm (o.da m p k).cn.length gJ,.bool (o.da m p k).fair])∧Ext W w':=fun {W cw} he af=>(RC _ cw m r q p k W (dk.ext (bz.trans he)) af cv _ l5 nX).mono fun u w' ⟨⟨fV,va,hu,aH,bu⟩,gx⟩=>by
   obtain⟨hq,gl,rfl,_⟩:=aH.form;obtain⟨bm,gJ,rfl,_⟩:=bu.form;exact⟨⟨hq,gl,bm,gJ,hu⟩,gx⟩
  refine ad ?_;intro bo aF;replace aK:=aF.obj aK;have aci:=p2.ext Flat.ext aF;refine ad ?_;refine⟨?_,?_⟩
  ·refine K.call (p6 aF) ?_;rintro _ bD ⟨⟨dd,ci,rfl,bs⟩,aM⟩;have ca:=aF.trans aM;refine⟨aM,?_⟩;refine ad ?_;refine⟨?_,?_⟩
   ·refine K.call (ew ca bs) ?_;rintro _ bQ ⟨⟨hq,gl,bm,gJ,rfl⟩,aN⟩;have c7:=ca.trans aN;refine ad ?_;intro cd dY eK bC b5;refine⟨(aM.trans aN).trans bC,?_⟩;refine K.hT b5 rfl rfl u7 fun c9 iz c5=>?_;have eX:=iz.ext bC eK;refine ad ?_;exact⟨dY,⟨bf,trivial⟩,⟨_,_,_,_,c5⟩,c7.trans eX⟩
   ·refine K.new ?_;intro bQ dY eK aN b5;have c7:=ca.trans aN;refine⟨aM.trans aN,?_⟩;refine ad ?_;refine K.call (ew c7 (bs.ext Flat.ext aN)) ?_;rintro _ cd ⟨⟨hq,gl,bm,gJ,rfl⟩,bC⟩;refine ad ?_;refine K.hT (bC.obj b5) rfl rfl u7 fun c9 iz c5=>?_;have eX:=iz.ext (aN.trans bC) eK;refine ad ?_;exact⟨dY,⟨bf,trivial⟩,⟨_,_,_,_,c5⟩,ca.trans eX⟩
  ·refine K.new ?_;intro bD dY eK aM b5;have ca:=aF.trans aM;refine⟨aM,?_⟩;refine ad ?_;refine K.call (p6 ca) ?_;rintro _ bQ ⟨⟨dd,ci,rfl,bs⟩,aN⟩;have c7:=ca.trans aN;refine⟨aM.trans aN,?_⟩;refine ad ?_;refine K.call (ew c7 bs) ?_;rintro _ cd ⟨⟨hq,gl,bm,gJ,rfl⟩,bC⟩;refine ad ?_;refine K.hT ((aN.trans bC).obj b5) rfl rfl u7 fun c9 iz c5=>?_;have eX:=iz.ext ((aM.trans aN).trans bC) eK;refine ad ?_;exact⟨dY,⟨bf,trivial⟩,⟨_,_,_,_,c5⟩,aF.trans eX⟩
 rintro dY S bo ⟨⟨hq,gl,bm,gJ,b5⟩,aF⟩;replace aK:=aF.obj aK;have bX:=bz.trans aF;refine ad ?_;refine K.call (X6 _ m (r:Int) bo (dk.ext bX) aV (aZ.ext bX)) ?_;rintro _ bD ⟨⟨ag,b4,a,b,rfl,ed,jN,er⟩,aM⟩;have ca:=bX.trans aM;replace aK:=aM.obj aK;replace b5:=aM.obj b5;have e5:=o.XK cv er;have hlen:=WR g1;refine ad ?_;refine K.call (aiD _ m bD (dk.ext ca) aV (aZ.ext ca)) ?_;rintro Il bQ ⟨⟨b9,n,aO⟩,aN⟩;have c7:=ca.trans aN;replace b5:=aN.obj b5;have fin:∀(W:World) (bR:Nat),Ext bQ W→(0<b.length→uX W bR b9 (o.il m))→bw Tryz.prog F.y3 #[b4,.func (.func F.w) #[] #[.pointer (some ⟨bR,0,none⟩)]] W fun ck w'=>ck = .bool (b.any (nu (o.il m)))∧Ext W w':=fun W bR he cm =>
  aiw b4 b bR b9 _ W (jN.ext Flat.ext (aN.trans he)) cm fun x av=>⟨(e5 x av).1,by have:=e5 x av;omega⟩
 have j7:∃p,Il = .slice p n n∧(0<b.length→p=some ⟨b9,0,none⟩∧n=(o.il m).length∧bQ.heap[b9]? = some (.cells (im (o.il m)).toArray T.l)):=by
  rcases aO with ⟨aG,rfl,rfl⟩ | ⟨rfl,aH,_,mG⟩
  ·refine⟨none,rfl,fun aB=>?_⟩;have h1:=e5 _ (List.getElem_mem aB);rw[aG] at hlen;simp at hlen;omega
  ·exact⟨_,rfl,fun _=>⟨rfl,aH,mG⟩⟩
 obtain⟨agZ,rfl,Lk⟩:=j7;refine ad ?_;intro wn bR mC fF fT;refine ad ?_;intro cd dC h7;have bC:Ext bQ cd:=dC.ext fF mC;clear fT;have dw:=c7.trans bC;replace b5:=bC.obj b5;have Cz:0<b.length→uX cd bR b9 (o.il m):=fun aB=>by
  obtain⟨rfl,rfl,mG⟩:=Lk aB;exact⟨h7,bC.obj mG⟩
 refine ad ?_;apply K.cond<;>intro g5
 ·refine ad ?_;exact⟨⟨true,bf,o.jl.of cv er ⟨fun _=>.inl g5,fun _=>rfl⟩⟩,dw⟩
 refine ad ?_;refine K.call (fin cd bR bC Cz) ?_;rintro _ c9 ⟨rfl,bU⟩;refine ad ?_;refine⟨⟨_,bf,o.jl.of cv er ?_⟩,dw.trans bU⟩;rw[Na g1 e5];exact⟨.inr,fun h=>h.resolve_left (by omega)⟩
end Go.Proofs.R
end
section
namespace bt
open Go Go.RowKit
def qV(b:Bool):List Value:=[.bool b]
theorem aaC(b:Bool):∀u∈qV b,u.oneCell'=true:=by simp[qV,Value.oneCell']
end bt
namespace Go.Proofs.R
open Go Go.RowKit bt
def pr(n:Nat)(vs:Nat→Option Addr×Nat×Nat):List Value:=(List.range n).map fun j=>cg (vs j)
theorem GV(n:Nat)(vs:Nat→Option Addr×Nat×Nat):(pr n vs).length=n:=by simp[pr]
theorem KQ{n j:Nat}{vs:Nat→Option Addr×Nat×Nat}(h:j<n):(pr n vs)[j]? = some (cg (vs j)):=by simp[pr,h]
theorem adq{n i:Nat}{vs:Nat→Option Addr×Nat×Nat}{v:Option Addr×Nat×Nat}(h:i<(pr n vs).toArray.size):(pr n vs).toArray.set i (cg v) h=(pr n (dy vs i v)).toArray:=by
 have af:i<n:=by simpa[pr] using h
 simp only[List.set_toArray];congr 1;refine List.ext_getElem? fun j=>?_;by_cases aI:j<n
 ·by_cases e:i=j
  ·subst e;rw[List.getElem?_set_self (by rw[GV];exact aI),KQ aI,AK]
  ·rw[List.getElem?_set_ne e,KQ aI,KQ aI,vU _ _ (fun ba=>e ba.symm)]
 ·rw[List.getElem?_eq_none (by rw[List.length_set,GV];omega),List.getElem?_eq_none (by rw[GV];omega)]
theorem adr(n:Nat):pr n (fun _=>(none,0,0))=List.replicate n (Value.slice none 0 0):=by
 unfold pr;rw[List.map_const'];simp
structure rM(w:World)(dE n base:Nat)(vs:Nat→Option Addr×Nat×Nat)(xs:Nat→List Bool):Prop where
 head:w.heap[dE]? = some (.cells (pr n vs).toArray T.s)
 rows:hx qV T.l 1 base w n vs xs
theorem rM.ext{w w':World}{dE n base:Nat}{vs:Nat→Option Addr×Nat×Nat}{xs:Nat→List Bool}(h:rM w dE n base vs xs)(he:Ext w w'):rM w' dE n base vs xs:=⟨he.obj h.head,h.rows.ext he⟩
theorem rM.cell{w:World}{dE n base:Nat}{vs:Nat→Option Addr×Nat×Nat}{xs:Nat→List Bool}(h:rM w dE n base vs xs){i:Nat}(af:i<n):w.cell? (Addr.add ⟨dE,0,none⟩ (i*1))=some (cg (vs i)):=by
 refine eN h.head ?_;rw[Nat.mul_one];simp[pr,af]
theorem ahF(cs:List Value)(m:o.Model)(w:World)(h:o.dM w cs m)(aV:m.cG) :
  bw Tryz.prog F.Eg #[.agg cs.toArray] w fun u w'=>(((o.check m).cM≠0∧u = .slice none 0 0)∨((o.check m).cM=0∧∃L dE vs xs,o.iZ m (o.refs m).length L∧u = .slice (some ⟨dE,0,none⟩) L.length L.length∧rM w' dE L.length w.heap.size vs xs∧∀i (af:i<L.length),xs i=o.lB L L[i]))∧Ext w w':=by
 have dk:=h;obtain⟨cz,bV,cj,c1,cq,c2,cr,bJ,cC,bW,rfl,_⟩:=h.form;refine bP E.Eg ?_;refine bM ?_;refine ad ?_;intro aq bE c8 aC ar;refine ad ?_;refine K.call (HB _ m aq (dk.ext aC) aV) ?_;rintro _ aU ⟨rfl,aA⟩;replace ar:=aA.obj ar;have ba:=aC.trans aA;refine ad ?_;apply K.cond<;>intro g1;rotate_left
 ·refine ad ?_;exact⟨.inl ⟨g1,bf⟩,ba⟩
 have h6:=o.mP g1;have j6:=o.oV h6.lim;refine ad ?_;refine K.call (WJ _ m aU (dk.ext ba) aV h6.lim) ?_;rintro _ aY ⟨⟨L,base,eJ,p4,Kl,er⟩,ax⟩;obtain⟨Mp,Jb,rfl,_⟩:=er.form;have nn:bG 2 Bv aY _ L:=er.od;have bz:=ba.trans ax;have xm:=eJ.len;have z3:=bz.size;refine ad ?_;refine K.Vy L.length rfl (by omega) fun bo dE xo aF bH=>?_;have Kd:rM bo dE L.length aY.heap.size (fun _=>(none,0,0)) (fun _=>[]):=⟨by rw[adr];exact bH,⟨fun i af=>bg.nil _ _ _ _ _,fun i j k af aI cH he=>by cases he⟩⟩;clear bH;refine ad ?_;refine K.cR 5 L.length [3,4] (fun _:Unit=>[]) () (fun i _ W => ∃vs xs,rM W dE L.length aY.heap.size vs xs∧Ext aY W∧(∀j (aI:j<L.length),j<i→xs j=o.lB L L[j])∧∀j,i≤j→xs j=[]) bp bp ⟨_,_,Kd,aF,fun j _ aI=>by omega,fun _ _=>rfl⟩ ?_;rintro i _ S bD af ⟨vs,xs,fj,aM,kI,kq⟩;have ca:=bz.trans aM;refine ad ?_;apply K.cond<;>intro g2;rotate_left
 ·have kl:i=L.length:=by omega
  refine ad ?_;exact⟨.inr ⟨g1,L,dE,vs,xs,eJ,bf,⟨fj.head,⟨fun i af=>bg.low z3 (fj.rows.own i af),fj.rows.apart⟩⟩,fun j aI=>kI j aI (by omega)⟩,ca⟩
 have eP:i<L.length:=by omega
 refine ad ?_;refine K.cR 6 L.length [3,4,5] (fun _:Unit=>[]) () (fun k _ W => ∃vs xs,rM W dE L.length aY.heap.size vs xs∧Ext aY W∧(∀j (aI:j<L.length),j<i→xs j=o.lB L L[j])∧xs i=(o.lB L L[i]).take k∧∀j,i<j→xs j=[]) bp bp ⟨vs,xs,fj,aM,kI,by rw[kq i (Nat.le_refl _)];rfl,fun j aI=>kq j (by omega)⟩ ?_;rintro k _ iH bQ hk ⟨Il,XM,xk,aN,Ho,Ab,Uq⟩;have c7:=bz.trans aN;refine ad ?_;apply K.cond<;>intro g3;rotate_left
 ·have tL:k=L.length:=by omega
  rw[tL,List.take_of_length_le (by rw[o.vc];exact Nat.le_refl _)] at Ab;refine ad ?_;exact⟨eP,bf,(),trivial,Il,XM,xk,aN,fun j aI gi=>(by
   by_cases e:j=i
   ·subst e;exact Ab
   ·exact Ho j aI (by omega)),fun j aI=>Uq j (by omega)⟩
 have cT:k<L.length:=by omega
 obtain⟨IV,rfl⟩:=nn.addr (by omega);obtain⟨jB,jC,h7,Dv,Dw⟩:=nn.at i eP;obtain⟨mf,lL,xv,Dx,Dy⟩:=nn.at k cT;refine ad ?_;intro cd bC;have po:=aN.trans bC;have Gx:=xk.ext bC;have iw:=Gx.cell eP;have alr:=h7.ext po;have alw:=xv.ext po;refine ad ?_;refine K.ld iw ?_;refine ad ?_;refine K.call (Xr jB jC mf lL _ _ _ _ cd (Dv.ext Flat.ext po) (Dw.ext Flat.ext po) (Dx.ext Flat.ext po) (Dy.ext Flat.ext po)) ?_;rintro _ c9 ⟨rfl,bU⟩;refine⟨bU,?_⟩;refine ad ?_;intro dF akA lX cL dm;have xy:=bU.trans cL;have xl:=Gx.ext xy;have TH:=xl.head;have alM:=cy TH;refine⟨xy,?_⟩;have alV:(XM i).length=k:=by rw[Ab,List.length_take,o.vc];omega
 refine ad ?_;refine K.yY (y:=o.uu L[i] L[k]) i eP xl.rows (fun _=>rfl) (h4 dm) aaC (by omega) (by unfold maxLen;omega) (by have:=po.size;have:=xy.size;omega) fun ck fe zY nW=>?_;have TG:fe.heap[dE]? = some (.cells (pr L.length Il).toArray T.s):=(bg.box (xl.rows.own i eP) nW TH (by decide));refine ad ?_;refine K.Nn TG (by simp[GV];exact eP) rfl fun fQ ia nR=>?_;rw[adq] at nR;have acE:aY.heap.size≤dE:=xo;have adn:Ext aY fe:=bg.j2 (xl.rows.own i eP) (po.trans xy) nW (Nat.le_refl _);have ado:=ia.ext adn acE;have Dj:hx qV T.l 1 aY.heap.size fQ L.length _ _:=zY.mod (A:=fun k=>k=dE) (ia.mod rfl) fun q z aR bL e=>zY.not TG (by decide) q aR (e ▸ bL);refine ad ?_;refine⟨cT,bf,(),trivial,_,_,⟨nR,Dj⟩,ado,fun j aI gi=>by rw[vU _ _ (by omega)];exact Ho j aI gi,?_,fun j aI=>by rw[vU _ _ (by omega)];exact Uq j aI⟩;rw[AK,Ab,List.take_succ_eq_append_getElem (by rw[o.vc];exact cT)];simp[o.lB]
end Go.Proofs.R
end