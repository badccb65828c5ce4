/- Texts joined: ProcQ LibR ProcF ProcG ProcH ExprD ExprE ExprF CmdA CmdB CmdQ CmdC. -/
import Derived.Test.YtfdohkdifdemeaaGreatDoorQdtd
import Derived.Test.YtfdohkdifdemeaaGreatDoorQdth
import Derived.Test.YtfdohkdifdemeaaGreatDoorQdti
set_option linter.all false
set_option maxRecDepth 4000
set_option maxHeartbeats 4000000
section
namespace o
open Go
def cU.key(x:cU):Int:=5*x.proc+x.elem
def chain:cU→List cU→Prop
 | _,[]=>True
 | a,x :: r=>x≠a∧chain x r
theorem Rh:∀(l:List cU) (a:cU),(a :: l).Pairwise (fun x y=>x.key<y.key)→chain a l
 | [],_,_=>trivial
 | x :: r,a,h=>by
  obtain⟨h1,U⟩:=List.pairwise_cons.1 h;refine⟨fun e=>?_,Rh r x U⟩
  have:=h1 x (by simp)
  rw[e] at this;exact absurd this (Int.lt_irrefl _)
theorem UJ{m:Model}:∀(l:List dt) (i:Nat),(iP m l i).Pairwise (fun x y=>x.key<y.key)∧∀x∈iP m l i,5*(i:Int)≤x.key
 | [],_=>⟨List.Pairwise.nil,fun x av=>by simp[iP] at av⟩
 | p :: r,i=>by
  obtain⟨h1,U⟩:=UJ r (i+1);have aZ:∀x∈ih i p,x=⟨(i:Int),0⟩:=fun x av=>by
   unfold ih at av;split at av
   ·simpa using av
   ·cases av
  have aO:∀x∈iS i (elems m p),∃k:Nat,k<4∧x=⟨(i:Int),(k:Int)+1⟩:=fun x av=>by
   unfold iS at av;obtain⟨k,hk,rfl⟩:=List.mem_map.1 av
   have:=List.mem_range.1 hk
   have:=Cc m p
   exact⟨k,by omega,rfl⟩
  have n3:(iS i (elems m p)).Pairwise (fun x y=>x.key<y.key):=by
   unfold iS;rw[List.pairwise_map];exact List.Pairwise.imp (fun {a b} CD=>by simp only[cU.key];omega) List.pairwise_lt_range
  have aha:(ih i p).Pairwise (fun x y=>x.key<y.key):=by
   unfold ih;split
   ·exact List.pairwise_singleton _ _
   ·exact List.Pairwise.nil
  simp only[iP];refine⟨List.pairwise_append.2 ⟨List.pairwise_append.2 ⟨aha,n3,fun a bu b aB=>?_⟩,h1,fun a bu b aB=>?_⟩,fun x av=>?_⟩
  ·obtain rfl:=aZ a bu;obtain⟨k,_,rfl⟩:=aO b aB;simp only[cU.key];omega
  ·have dT:=U b aB;rcases List.mem_append.1 bu with bu | bu
   ·obtain rfl:=aZ a bu;simp only[cU.key];simp at dT;unfold cU.key at dT;omega
   ·obtain⟨k,hk,rfl⟩:=aO a bu;unfold cU.key at dT ⊢;simp at dT ⊢;omega
  ·rcases List.mem_append.1 av with av | av
   ·rcases List.mem_append.1 av with av | av
    ·obtain rfl:=aZ x av;simp[cU.key]
    ·obtain⟨k,hk,rfl⟩:=aO x av;unfold cU.key;simp;omega
   ·have:=U x av
    simp at this;omega
theorem ae1(m:Model):chain ⟨-1,0⟩ (insts m):=by
 obtain⟨h1,U⟩:=UJ (m:=m) m.procs 0;refine Rh _ _ (List.pairwise_cons.2 ⟨fun x av=>?_,h1⟩)
 have:=U x av
 unfold cU.key at this ⊢;simp at this ⊢;omega
theorem Sv(m:Model):∀(l:List cU) (i:Nat) (a:cU) (out:List Ref),chain a l→(l.foldl (lh m) ((i:Int) - 1,a,out)).2.2=out++ob m l i
 | [],_,_,_,_=>by simp[ob]
 | x :: r,i,a,out,h=>by
  simp only[List.foldl_cons];have e:lh m ((i:Int) - 1,a,out) x=(((i+1:Nat):Int) - 1,x,out++refsOf i (qj m x)):=by
   unfold lh;simp only;rw[if_pos h.1];congr 1
   ·omega
   ·congr 2;congr 1;omega
  rw[e,Sv m r (i+1) x _ h.2];simp[ob]
theorem ah2(m:Model):((insts m).foldl (lh m) (-1,⟨-1,0⟩,[])).2.2=refs m:=by
 have:=Sv m (insts m) 0 ⟨-1,0⟩ [] (ae1 m)
 simpa[refs] using this
structure sV(m:Model):Prop where
 procs:m.procs.length≤30
 cE:∀p∈m.procs,p.cE.length≤30
theorem Ml{m:Model}(h:sV m)(x:cU):qj m x≤30:=by
 unfold qj;split
 ·rename_i p aW;refine h.cE p ?_;unfold nth at aW;by_cases ao:0≤x.proc
  ·rw[if_pos ao] at aW;exact List.mem_of_getElem? aW
  ·rw[if_neg ao] at aW;cases aW
 ·omega
theorem Su{m:Model}(h:sV m):∀(l:List cU) (s:Int×cU×List Ref),s.1≤(l.foldl (lh m) s).1∧(l.foldl (lh m) s).1≤s.1+l.length∧(l.foldl (lh m) s).2.2.length≤s.2.2.length+30*l.length
 | [],s=>by simp
 | x :: r,s=>by
  obtain⟨h1,U,ah⟩:=Su h r (lh m s x);simp only[List.foldl_cons,List.length_cons];have aH:=Ml h x;have b2:s.1≤(lh m s x).1∧(lh m s x).1≤s.1+1:=by unfold lh;simp only;split<;>omega
  have ba:(lh m s x).2.2.length≤s.2.2.length+30:=by unfold lh refsOf;simp only[List.length_append,List.length_map,List.length_range];omega
  omega
theorem Wm{m:Model}(h:sV m):∀(l:List cU) (i:Nat),(ob m l i).length≤30*l.length
 | [],_=>by simp[ob]
 | x :: r,i=>by
  have:=Wm h r (i+1)
  have:=Ml h x
  simp only[ob,List.length_append,refsOf,List.length_map,List.length_range,List.length_cons];omega
theorem oV{m:Model}(h:sV m):(refs m).length≤4500:=by
 have:=Wm h (insts m) 0
 have:=xU m
 have:=h.procs
 unfold refs;omega
structure Qg(m:Model)(r:Ref)(i p k:Nat):Prop where
 af:i<(insts m).length
 uA:r.inst=i
 ip:(insts m)[i].proc=p
 aW:p<m.procs.length
 vX:r.cmd=k
 hk:k<m.procs[p].cE.length
theorem Wn{m:Model}:∀(l:List cU) (i0:Nat) (r:Ref),r∈ob m l i0→∃j,∃aI:j<l.length,r.inst=((i0+j:Nat):Int)∧∃k:Nat,k<qj m l[j]∧r.cmd=k
 | [],_,_,h=>by simp[ob] at h
 | x :: l,i0,r,h=>by
  simp only[ob,List.mem_append] at h;rcases h with h | h
  ·unfold refsOf at h;obtain⟨k,hk,rfl⟩:=List.mem_map.1 h;exact⟨0,by simp,by simp,k,by simpa using hk,rfl⟩
  ·obtain⟨j,aI,h1,k,U,ah⟩:=Wn l (i0+1) r h;exact⟨j+1,by simpa using aI,by rw[h1];congr 1;omega,k,by simpa using U,ah⟩
theorem ah1{m:Model}{r:Ref}(h:r∈refs m):∃i p k,Qg m r i p k:=by
 obtain⟨j,aI,h1,k,U,ah⟩:=Wn _ _ _ h;have av:=tY (insts m)[j] (List.getElem_mem _);obtain⟨p,aW⟩:=Int.eq_ofNat_of_zero_le av.bA;have qa:p<m.procs.length:=by have:=av.af;omega
 refine⟨j,p,k,aI,by rw[h1];simp,aW,qa,ah,?_⟩;unfold qj at U;rw[aW,lf (by omega) (by omega)] at U;simpa using U
end o
end
section
namespace bt
open Go Go.RowKit
def Q0(cD t:TypeId)(sz b:Nat)(z:Array Value):wI:=⟨13,[.tmp 4],
 (.hS (.bF [ay 2 (.box cD (ab 0)),aj 4 (.const (.slice none 0 0))])
 (.rE (.hS (.bF [I 6 1])
 (.aQ 0 (.rD (ab 6) 7 (.bF [ay 5 (.new t (.agg z)),hd (.qs sz (ab 5) (ab 7))]) (.aQ 1 (.bF [ae 8 2,nz 9 (.j8 sz (ab 5)),ay 10 (.cQ t 1 sz z.toList [(0,(ab 9))]),ay 11 (.app cD t sz b (ab 8) (ab 10)),ys 2 11])))))
 (.seq (.bF [ae 12 2,I 4 12])
 .ret)))⟩
theorem Vg:∀(vs pre post:List Value),vs.length≤post.length→(vs.zipIdx pre.length).foldl (fun cs (x:Value×Nat)=>cs.set (0+x.2) x.1) (pre++post)=pre++vs++post.drop vs.length
 | [],pre,post,_=>by simp
 | v :: vs,pre,[],h=>by simp at h
 | v :: vs,pre,p :: post,h=>by
  have e6:=Vg vs (pre++[v]) post (by simpa using h);simp only[List.length_append,List.length_cons,List.length_nil] at e6;simp only[List.zipIdx_cons,List.foldl_cons,List.length_cons,List.drop_succ_cons];rw[show(pre++p :: post).set (0+pre.length) v=(pre++[v])++post from by simp,e6];simp
theorem abj{S:Fr}{sz:Nat}{z cs:List Value}{t:Nat}(aL:S t = .agg cs.toArray)(aw:cs.length=sz)(bL:z.length=sz)(ao:0<sz):e4 S ((List.range 1).map fun i=>(i*sz,sz)) [(0,.tmp t)] z=some cs:=by
 have e:lay z 0 (.agg cs.toArray)=cs:=by
  have:=Vg cs [] z (by omega)
  simp only[List.nil_append,List.length_nil] at this;unfold lay;simp only[Value.cells];rw[this,List.drop_eq_nil_of_le (by omega),List.append_nil]
 have b2:(bj S (.tmp t)).cells.size=sz:=by
  show(S t).cells.size=sz;rw[aL];simp[Value.cells,aw]
 have ba:((List.range 1).map fun i=>(i*sz,sz))[0]? = some (0,sz):=by simp
 unfold e4;simp only[ba];rw[if_pos ⟨b2,by omega⟩];unfold e4;show some (lay z 0 (S t))=_;rw[aL,e]
section
variable{α:Type}{P:Program}{f:FuncId}{t cD:TypeId}{sz b:Nat}{enc:α→List Value}{z:Array Value}
theorem YI(hm:P.follows .mixedOrders=true)(ga:w5 P f=some (Q0 cD t sz b z))(bL:z.size=sz)(hlen:∀x,(enc x).length=sz)(tR:∀x,∀u∈enc x,u.oneCell'=true)(dn:0<sz)
  {jL:Nat}{gy:Array Value}{gO:Nat}{mc:List TypeId}{mq ov:List α→Prop}{N:Nat}{w0 w:World}(dA:okF P jL=true)
  (rf:SeqStopsK Fence.wide 0 P jL gy (fun x=>#[.agg (enc x).toArray]) (lq gO mc) mq ov N w0)(he:Ext w0 w)(G9:gO≤w.heap.size)(aL:t∉mc)(Dq:cD∉mc)(cH:cD≠t)(fN:N*b≤140737488355328)(SR:N≤maxLen) :
  bw P f #[.slice none 0 0,.func (.func jL) #[] gy] w fun v w'=>(∃xs,mq xs∧bg enc t sz w.heap.size w' v xs)∧Ext w w':=by
 refine fL.start hm ga (args:=[_,_]) (Nat.le_of_ble_eq_true rfl) ?_;dsimp only[Q0,ab,ai,b4,bh,nz,ay,dh,hd,uM,I,aj,ag,ae,bc,ys,bI];refine fL.hS ?_;refine aa ?_;intro aq bE c8 aC ar;refine aa ?_;refine fL.rE (fL.hS ?_);simp -dsimp only[c6,cA,Nat.reduceAdd,Nat.reduceEqDiff,reduceIte,reduceCtorEq,de];refine fL.aQ (fL.rD (w0:=w0) (enc:=fun x=>.agg (enc x).toArray) (by simp[fD,b6]) dA rf (he.trans aC) (lq.ok mc (Nat.le_trans G9 aC.size))
  (fun pre W=>Mod (fun k=>k=bE) aq W∧∃(bm:Option Addr) (n c:Nat),W.heap[bE]? = some (.cells #[.slice bm n c] cD)∧bg enc t sz aq.heap.size W (.slice bm n c) pre) ?_ ⟨Mod.refl _ _,none,0,0,ar,bg.nil _ _ _ _ _⟩ ?_ ?_)
 ·rintro pre W b8 row ⟨hm,bm,n,c,aB,aZ⟩ aV bd;refine⟨hm.high aV fun r e=>(bd r e).1,bm,n,c,?_,aZ.mod (Mod.grown (A:=fun k=>row=some k) aV fun k e=>e) fun k hk a=>?_⟩
  ·rw[aV.block bE (cy aB) fun e=>?_]
   ·exact aB
   ·obtain⟨ak,h1,U⟩:=(bd bE e.symm).2;rw[aB] at h1;injection h1 with h1;subst h1;cases U
  ·obtain⟨cur,ah⟩:=aZ.aQ k hk;obtain⟨ak,h1,U⟩:=(bd k a).2;rw[ah] at h1;injection h1 with h1;subst h1;cases U
 ·rintro pre x W ⟨hm,bm,n,c,np,aZ⟩ cB;have TQ:=cy ar;have alW:=hm.size
  try (simp -dsimp only[c6,cA,Nat.reduceAdd,Nat.reduceEqDiff,reduceIte,reduceCtorEq,de])
  refine K.new fun hI dX jf aM b3=>?_
  try (simp -dsimp only[c6,cA,Nat.reduceAdd,Nat.reduceEqDiff,reduceIte,reduceCtorEq,de])
  refine K.hT b3 bL (by simpa using hlen x) (by simpa using tR x) fun eE hw aK=>?_
  try (simp -dsimp only[c6,cA,Nat.reduceAdd,Nat.reduceEqDiff,reduceIte,reduceCtorEq,de])
  have ba:=hw.ext aM jf;refine⟨ba.keeps _,ba.hA (by omega),fun mu tT=>?_⟩;obtain⟨l,a1,G6,h9⟩:=tT.mod;have bB:=tT.cells aK;have fE:=tT.cells (ba.obj np);have gT:bg enc t sz aq.heap.size mu (.slice bm n c) pre:=(aZ.ext ba).mod h9 fun k hk a=>by
   subst a;obtain⟨cur,ah⟩:=(aZ.ext ba).aQ k hk;exact G6 _ _ _ ah
  try (simp -dsimp only[c6,cA,Nat.reduceAdd,Nat.reduceEqDiff,reduceIte,reduceCtorEq,de])
  refine K.qd fE (Ext.refl _) rfl ?_
  try (simp -dsimp only[c6,cA,Nat.reduceAdd,Nat.reduceEqDiff,reduceIte,reduceCtorEq,de])
  refine K.j8 (h4 bB) (hlen x) ?_
  try (simp -dsimp only[c6,cA,Nat.reduceAdd,Nat.reduceEqDiff,reduceIte,reduceCtorEq,de])
  refine K.oy (abj (cs:=enc x) (by simp[b6]) (hlen x) (by simpa using bL) dn) fun IU FO Gy aF bH=>?_
  try (simp -dsimp only[c6,cA,Nat.reduceAdd,Nat.reduceEqDiff,reduceIte,reduceCtorEq,de])
  have adW:pre.length+1≤N:=cB;refine K.u0 (ys:=[x]) (gT.ext aF) hlen (by simpa using h4 bH) rfl tR (Nat.le_trans (Nat.mul_le_mul_right b adW) fN) (by simp only[List.length_cons,List.length_nil];omega) (by have:=h9.size;have:=aF.size;have:=ba.size;omega) fun ck qG eF l1 je=>?_;obtain⟨iR,rU,rfl,_⟩:=eF.form;have gw:=aF.obj fE;have zG:qG.heap[bE]? = some (.cells #[.slice bm n c] cD):=by
   rw[l1.block bE (cy gw) fun e=>?_]
   ·exact gw
   ·obtain⟨cur,ah⟩:=(gT.ext aF).aQ bE e.symm;rw[gw] at ah;injection ah with ah;injection ah with _ ah;exact cH ah
  try (simp -dsimp only[c6,cA,Nat.reduceAdd,Nat.reduceEqDiff,reduceIte,reduceCtorEq,de])
  refine K.sO zG (by simp) rfl fun lx fy b5=>?_
  try (simp -dsimp only[c6,cA,Nat.reduceAdd,Nat.reduceEqDiff,reduceIte,reduceCtorEq,de])
  have gM:∀k,(Value.slice bm n c).ownBlock=some k→aq.heap.size≤k:=fun k hk=>(gT.lt k hk).1;have afV:Mod (fun k=>(Value.slice bm n c).ownBlock=some k∨k=bE) IU lx:=(Mod.grown (A:=fun k=>(Value.slice bm n c).ownBlock=some k) l1 fun k e=>e).comp (A':=fun k=>k=bE) (fy.mod rfl) (fun _ _ a=>.inl a) (fun _ _ a=>.inr a);have Me:Mod (fun k=>(Value.slice bm n c).ownBlock=some k∨k=bE) mu lx:=aF.mod.comp afV (A:=fun _=>False) (fun _ _ h=>h.elim) (fun _ _ h=>h);refine⟨Me.keeps fun k hk a=>?_,Me.hA (by have:=h9.size;have:=ba.size;omega) (fun k hk a=>?_) (fun k kj fJ r5 a hk z8=>?_),?_,iR,_,rU,b5,?_⟩
  ·rcases a with a | a
   ·obtain⟨cur,ah⟩:=gT.aQ k a;exact⟨_,_,_,ah⟩
   ·subst a;exact⟨_,_,_,fE⟩
  ·rcases a with a | a
   ·have:=gM k a;have:=aC.size;omega
   ·omega
  ·rcases a with a | a
   ·obtain⟨cur,ah⟩:=gT.aQ k a;rw[ah] at hk;injection hk with hk;injection hk with _ hk;subst hk;exact aL z8
   ·subst a;rw[fE] at hk;injection hk with hk;injection hk with _ hk;subst hk;exact Dq z8
  ·refine(hm.comp (B:=fun k=>k=bE) (A':=fun k=>(Value.slice bm n c).ownBlock=some k∨k=bE∨k=l) ?_ (fun _ _ a=>a) fun k hk a=>?_)
   ·exact(ba.mod (A:=fun _=>False)).comp (h9.comp Me (fun _ _ a=>(Or.inr (Or.inr a):_∨_∨_)) (fun _ _ a=>by rcases a with a | a;exact .inl a;exact .inr (.inl a))) (fun _ _ h=>h.elim) (fun _ _ h=>h)
   ·rcases a with a | a | a
    ·have:=gM k a;omega
    ·exact a
    ·omega
  ·refine eF.mod (fy.mod (A:=fun k=>k=bE) rfl) fun k hk a=>?_;subst a;obtain⟨cur,ah⟩:=eF.aQ k hk;rw[zG] at ah;injection ah with ah;injection ah with _ ah;exact cH ah
 ·rintro D xs W hj cm ⟨hm,bm,n,c,np,aZ⟩ bx;simp -dsimp only[c6,cA,Nat.reduceAdd,Nat.reduceEqDiff,reduceIte,reduceCtorEq,de];refine K.qd np (Ext.refl _) rfl ?_;simp -dsimp only[c6,cA,Nat.reduceAdd,Nat.reduceEqDiff,reduceIte,reduceCtorEq,de];refine fL.ret bx ?_;simp -dsimp only[c6,cA,Nat.reduceAdd,Nat.reduceEqDiff,reduceIte,reduceCtorEq,de];have b2:Ext w W:=hm.ext aC fun k hk e=>by omega
  refine⟨⟨xs,cm,(aZ.mod (A:=fun k=>k=D) ((dz.e2 _ _ _).mod rfl) fun k hk a=>?_).low aC.size⟩,b2.e2 (Nat.le_trans aC.size hj) _⟩;subst a;obtain⟨cur,ah⟩:=aZ.aQ k hk;rw[bx] at ah;injection ah with ah;cases ah
end
end bt
end
section
namespace bt
open Go Go.RowKit
theorem bg.map{α β:Type}{enc:β→List Value}{g:α→β}{e:TypeId}{sz base:Nat}{w:World}{v:Value}{xs:List α}(h:bg (fun x=>enc (g x)) e sz base w v xs):bg enc e sz base w v (xs.map g):=by
 unfold bg at *;rw[List.length_map,List.flatMap_map];exact h
theorem bg.fB{α:Type}{enc:α→List Value}{e:TypeId}{sz base:Nat}{w:World}{v:Value}{xs:List α}(dn:∀x,(enc x).length=sz)(h:bg enc e sz base w v xs):bG sz (Flat enc) w v xs:=bg.od dn h
theorem bg.new{α:Type}{enc:α→List Value}{e:TypeId}{sz:Nat}{w w':World}{v:Value}{xs:List α}(dn:∀x,(enc x).length=sz)(h:bg enc e sz w.heap.size w' v xs):e7 w (fun w=>bG sz (Flat enc) w v xs) w':=fun aU m =>
 bg.od dn (bg.mod h m fun k hk a=>by have:=(h.lt k hk).1;omega)
end bt
namespace Go.Proofs.R
open Go Go.RowKit bt
abbrev jX(w:World)(v:Value)(l:List o.cU):Prop:=bG 2 (Flat o.cU.enc) w v l
abbrev FD(w:World)(v:Value)(l:List o.Ref):Prop:=bG 2 (Flat o.Ref.enc) w v l
theorem UP(cs:List Value)(m:o.Model)(w:World)(h:o.dM w cs m) :
  bw Tryz.prog F.y4 #[.agg cs.toArray] w fun v w'=>(∃b,v = .func (.func F.am) #[] #[.pointer (some ⟨b,0,none⟩)]∧w'.heap[b]? = some (.cells cs.toArray T.b))∧Ext w w':=by
 obtain⟨cz,bV,cj,c1,cq,c2,cr,bJ,cC,bW,rfl,_⟩:=h.form;refine bP E.y4 ?_;refine bM ?_;refine aa ?_;intro aq bE c8 aC ar;refine aa ?_;exact⟨⟨bE,rfl,ar⟩,aC⟩
theorem Ae(cs:List Value)(m:o.Model)(w:World)(h:o.dM w cs m)(aV:m.cG) :
  bw Tryz.prog F.a #[.agg cs.toArray] w fun v w'=>bg o.cU.enc T.n 2 w.heap.size w' v (o.insts m)∧Ext w w':=by
 obtain⟨cz,bV,cj,c1,cq,c2,cr,bJ,cC,bW,rfl,_⟩:=h.form;have aW:=aV.procs;have a1:=o.xU m;unfold o.dD at aW;refine bP E.a ?_;refine bM ?_;refine aa ?_;intro aq bE c8 aC ar;refine aa ?_;refine K.call (UP _ m aq (h.ext aC)) ?_;rintro _ aU ⟨⟨b,rfl,aK⟩,aA⟩;have c0:Ext w aU:=aC.trans aA;refine aa ?_;refine K.call (f:=F.pd) (R:=fun v w'=>bg o.cU.enc T.n 2 aU.heap.size w' v (o.insts m)∧Ext aU w') ?_ ?_
 ·refine bP E.pd ?_;refine bM ?_;refine aa ?_;refine K.call (YI (α:=o.uY m) (enc:=fun x=>x.1.enc) l3 Bd.vi rfl (fun _=>rfl) (fun x u hu=>by simp[o.cU.enc] at hu;rcases hu with rfl | rfl<;>rfl) (by decide) (by kernel_rfl)
   (UK aK h c0) (Ext.refl _) c0.size (by decide) (by decide) (by decide) (by omega) (by unfold maxLen;omega)) ?_
  rintro v aY ⟨⟨xs,xS,aZ⟩,ax⟩;refine aa ?_;exact⟨by rw[←xS];exact aZ.map,ax⟩
 ·rintro v aY ⟨aZ,ax⟩;refine aa ?_;exact⟨aZ.low c0.size,c0.trans ax⟩
structure kT(aq:World)(ch db dX:Nat)(s:Int×o.cU×List o.Ref)(W:World):Prop where
 mod:Mod (fun k=>k∈[ch,db,dX]) aq W
 ex:∃bm n c,W.heap[ch]? = some (.cells #[.slice bm n c] T.t)∧bg o.Ref.enc T.ak 2 aq.heap.size W (.slice bm n c) s.2.2
 aJ:W.heap[db]? = some (.cells #[.int .i64 s.1] T.a)
 bk:W.heap[dX]? = some (.cells s.2.1.enc.toArray T.n)
theorem kT.move{aq:World}{ch db dX:Nat}{s:Int×o.cU×List o.Ref}{W b8:World}{A:Nat→Prop}(h:kT aq ch db dX s W)(m:Mod A W b8)(ed:∀k c t f,W.heap[k]? = some (.cells c t f)→¬A k)(kG:∀k,A k→aq.heap.size≤k):kT aq ch db dX s b8:=by
 obtain⟨bm,n,c,e,aZ⟩:=h.ex;refine⟨h.mod.comp m (fun _ _ a=>a) fun k hk a=>absurd (kG k a) (by omega),⟨bm,n,c,m.obj (ed _ _ _ _ e) e,aZ.mod m fun k hk a=>?_⟩,m.obj (ed _ _ _ _ h.aJ) h.aJ,m.obj (ed _ _ _ _ h.bk) h.bk⟩;obtain⟨cur,ah⟩:=aZ.aQ k hk;exact ed _ _ _ _ ah a
theorem kT.ext{aq:World}{ch db dX:Nat}{s:Int×o.cU×List o.Ref}{W b8:World}(h:kT aq ch db dX s W)(e:Ext W b8):kT aq ch db dX s b8:=h.move (A:=fun _=>False) e.mod (fun _ _ _ _ _ h=>h) fun _ h=>h.elim
theorem u5{W:World}{k:Nat}{c kj:Array Value}{t fJ:TypeId}{f r5:Nat×Nat}(h:W.heap[k]? = some (.cells c t f))(bK:W.heap[k]? = some (.cells kj fJ r5)):t=fJ:=by
 rw[h] at bK;injection bK with bK;injection bK
theorem kT.kd{aq:World}{ch db dX:Nat}{s:Int×o.cU×List o.Ref}{W b8:World}{n:Int}(h:kT aq ch db dX s W)(hw:dz db W b8)(aw:b8.heap[db]? = some (.cells #[.int .i64 n] T.a))(n34:ch≠db)(n45:dX≠db):kT aq ch db dX (n,s.2) b8:=by
 obtain⟨bm,k,c,e,aZ⟩:=h.ex;refine⟨h.mod.comp (A':=fun k=>k=db) (hw.mod rfl) (fun _ _ a=>a) fun k hk a=>by simp[a],⟨bm,k,c,hw.obj e n34,aZ.mod (hw.mod (A:=fun k=>k=db) rfl) fun k hk a=>?_⟩,aw,hw.obj h.bk n45⟩;subst a;obtain⟨cur,ah⟩:=aZ.aQ k hk;exact absurd (u5 ah h.aJ) (by decide)
theorem kT.hr{aq:World}{ch db dX:Nat}{s:Int×o.cU×List o.Ref}{W b8:World}{x:o.cU}(h:kT aq ch db dX s W)(hw:dz dX W b8)(aw:b8.heap[dX]? = some (.cells x.enc.toArray T.n))(n35:ch≠dX)(n45:dX≠db):kT aq ch db dX (s.1,x,s.2.2) b8:=by
 obtain⟨bm,k,c,e,aZ⟩:=h.ex;refine⟨h.mod.comp (A':=fun k=>k=dX) (hw.mod rfl) (fun _ _ a=>a) fun k hk a=>by simp[a],⟨bm,k,c,hw.obj e n35,aZ.mod (hw.mod (A:=fun k=>k=dX) rfl) fun k hk a=>?_⟩,hw.obj h.aJ (Ne.symm n45),aw⟩;subst a;obtain⟨cur,ah⟩:=aZ.aQ k hk;exact absurd (u5 ah h.bk) (by decide)
theorem kT.app{aq:World}{ch db dX:Nat}{s:Int×o.cU×List o.Ref}{W b8 FI:World}{bm iR:Option Addr}{n c hB kj:Nat}{l:List o.Ref}(h:kT aq ch db dX s W)(he:W.heap[ch]? = some (.cells #[.slice bm n c] T.t))
  (aZ:bg o.Ref.enc T.ak 2 aq.heap.size W (.slice bm n c) s.2.2)(mF:bg o.Ref.enc T.ak 2 aq.heap.size b8 (.slice iR hB kj) l)(aV:W.grownBy b8 (Value.slice bm n c).ownBlock)(hw:dz ch b8 FI)
  (aw:FI.heap[ch]? = some (.cells #[.slice iR hB kj] T.t))(n34:ch≠db)(n35:ch≠dX):kT aq ch db dX (s.1,s.2.1,l) FI∧gQ aq.heap.size [ch,db,dX] [T.ak] W FI:=by
 have cv:gQ aq.heap.size [ch,db,dX] [T.ak] W b8:=gQ.grown aZ aV (by simp);have oO:∀{k:Nat} {c:Array Value} {t:TypeId},W.heap[k]? = some (.cells c t)→t≠T.ak→b8.heap[k]? = some (.cells c t):=fun {k c t} hk aL=>by
  rw[aV.block k (cy hk) fun e=>?_]
  ·exact hk
  ·obtain⟨cur,ah⟩:=aZ.aQ k e.symm;exact aL (u5 hk ah)
 have SI:=cv.trans (hw.zh (by simp));refine⟨⟨gQ.from h.mod SI,⟨iR,hB,kj,aw,mF.mod (hw.mod (A:=fun k=>k=ch) rfl) fun k hk a=>?_⟩,hw.obj (oO h.aJ (by decide)) (Ne.symm n34),hw.obj (oO h.bk (by decide)) (Ne.symm n35)⟩,SI⟩;subst a;obtain⟨cur,ah⟩:=mF.aQ k hk;exact absurd (u5 ah (oO he (by decide))) (by decide)
theorem EB(cs:List Value)(m:o.Model)(w:World)(h:o.dM w cs m)(dg:o.sV m) :
  bw Tryz.prog F.e #[.agg cs.toArray] w fun v w'=>bg o.Ref.enc T.ak 2 w.heap.size w' v (o.refs m)∧Ext w w':=by
 obtain⟨cz,bV,cj,c1,cq,c2,cr,bJ,cC,bW,rfl,ao,h1,U,ah,aJ,eH,dB,dH,ee,ei⟩:=h.form;have G2:=o.xU m;have qa:=dg.procs;refine fL.start l3 Bd.e (args:=[_]) (Nat.le_of_ble_eq_true rfl) ?_;dsimp only[D.e,ab,ai,b4,bh,nz,ay,dh,hd,uM,I,aj,ag,ae,bc,ys,bI,an,aP,cu,bl,az,du,ct,J,aD,a6,cf,ht,bZ,bb,eS,e0,aS,au,al,List.map_cons,List.map_nil];refine fL.hS ?_;refine aa ?_;intro NF bE c8 q6 CP;refine aa ?_;refine fL.hS ?_;refine aa ?_;intro Io ch fE oI np;refine aa ?_;refine fL.hS ?_;refine aa ?_;intro wh db gw l0 fS;refine aa ?_;intro wd dX jf oJ Tk;have GA:dX≠db:=by have:=cy fS;omega
 replace fS:=oJ.obj fS;refine aa ?_;intro ajT Hk e9;have ac6:=Hk.obj Tk GA;refine aa ?_;intro wf Hl GK;replace GK:wf.heap[dX]? = some (.cells (⟨-1,0⟩:o.cU).enc.toArray T.n):=GK;have E7:=cy CP;have E8:=cy np;have anp:=cy fS;have JG:Ext NF wf:=Hl.ext (Hk.ext ((oI.trans l0).trans oJ) (by have:=oI.size;omega)) (by have:=oI.size;have:=l0.size;omega);have R0:Ext Io ajT:=Hk.ext (l0.trans oJ) (by omega);have R1:Ext Io wf:=Hl.ext R0 (by have:=l0.size;omega);have S4:=R1.obj np;have acu:=JG.obj CP;replace e9:=Hl.obj e9 (Ne.symm GA);have n34:ch≠db:=by omega
 have n35:ch≠dX:=by have:=l0.size;omega
 have anl:=oI.size;have ano:=l0.size;clear ac6 Tk fS Hk Hl R0 R1 np CP oI l0 oJ;refine fL.rE (fL.hS ?_);refine aa ?_;refine K.call (UP _ m wf (h.ext (q6.trans JG))) ?_;rintro _ qv ⟨⟨akG,rfl,Ku⟩,CX⟩;have uR:∀{w'},Ext qv w'→Ext w w':=fun e=>((q6.trans JG).trans CX).trans e;have GF:=CX.obj S4;have Kh:=CX.obj acu;have JY:=CX.obj e9;have J0:=CX.obj GK;have amx:=cy GF;have amy:=cy JY;have amz:=cy J0;simp -dsimp only[c6,cA,Nat.reduceAdd,Nat.reduceEqDiff,reduceIte,reduceCtorEq,de];refine fL.aQ (fL.rD (w0:=qv) (enc:=fun x:o.uY m=>UC x.1) (by simp[fD,b6]) (by kernel_rfl) (UK Ku h (uR (Ext.refl _))) (Ext.refl _) (lq.ok _ (uR (Ext.refl _)).size)
  (fun pre W=>kT qv ch db dX ((pre.map Subtype.val).foldl (o.lh m) (-1,⟨-1,0⟩,[])) W) ?_ ⟨Mod.refl _ _,⟨none,0,0,GF,bg.nil _ _ _ _ _⟩,JY,J0⟩ ?_ ?_)
 ·rintro pre W b8 row kH aV bd;refine kH.move (A:=fun k=>row=some k) (Mod.grown aV fun k e=>e) (fun k c t f hk a=>?_) fun k a=>(bd k a).1;obtain⟨ak,h1,U⟩:=(bd k a).2;rw[hk] at h1;injection h1 with h1;subst h1;cases U
 ·rintro pre x W kH cB;have GD:=o.Su dg (pre.map Subtype.val) (-1,⟨-1,0⟩,[]);simp only[List.length_map,List.length_nil] at GD;have key:((pre++[x]).map Subtype.val).foldl (o.lh m) (-1,⟨-1,0⟩,[])=o.lh m ((pre.map Subtype.val).foldl (o.lh m) (-1,⟨-1,0⟩,[])) x.1:=by
   rw[List.map_append,List.foldl_append];rfl
  generalize (pre.map Subtype.val).foldl (o.lh m) (-1,⟨-1,0⟩,[])=s at kH GD key;have Hb:=o.Ml dg x.1;have Du:=x.2;refine eh ?_;intro hI dY eK aC b5;refine eh ?_;refine⟨aC.keeps _,aC.hA (Nat.le_trans (uR (Ext.refl _)).size kH.mod.size),fun eE tT=>?_⟩;obtain⟨l,a1,G6,fa⟩:=tT.mod;replace b5:=tT.cells b5;have tV:kT qv ch db dX s eE:=(kH.ext aC).move fa (fun k c t f hk a=>by subst a;exact G6 _ _ _ hk) fun k a=>by omega
  have aav:qv.heap.size≤eE.heap.size:=tV.mod.size;have ak4:eE.heap[bE]? = qv.heap[bE]? := tV.mod.block bE (cy Kh) (by simp;omega);have TX:dY∉[ch,db,dX]:=by have:=kH.mod.size;simp;omega
  clear kH tT fa G6 JY J0 GF e9 S4 GK;generalize je:(if x.1≠s.2.1 then s.1+1 else s.1)=at' at key;refine eh ?_;refine K.gK [1,3,4,5,6] (fun _=>[]) (fun(_:Unit) b8=>kT qv ch db dX (at',s.2) b8∧gQ qv.heap.size [ch,db,dX] [T.ak] eE b8) ?_ ?_
  ·have akV:=tV.aJ;have SG:=tV.bk;refine aa ?_;refine K.VA (sig:=o.WY) (by kernel_rfl) (o.Rr _) (o.Rr _) fun r bd=>?_;refine aa ?_;refine K.dO (fun g1=>?_) (fun g1=>?_)
   ·have cH:x.1≠s.2.1:=fun e=>bd.1 g1 (by rw[e]);rw[if_pos cH] at je;subst je;refine aa ?_;intro mu fk bB;refine aa ?_;exact⟨(),trivial,tV.kd fk bB n34 GA,fk.zh (by simp)⟩
   ·have heq:x.1=s.2.1:=o.aeZ _ _ (Classical.byContradiction fun aH=>by rw[bd.2 aH] at g1;cases g1);rw[if_neg (by simp[heq])] at je;subst je;refine aa ?_;exact⟨(),trivial,tV,(Ext.refl eE).zh⟩
  rintro _ S mu ⟨Lx,Tl⟩;replace b5:=gQ.obj Tl b5 TX (by decide);have Ki:=Lx.mod.block bE (cy Kh) (by simp;omega);rw[Kh] at Ki;have SG:=Lx.bk;have RO:∀b∈[ch,db,dX],w.heap.size≤b:=fun b aB=>by
   have:=q6.size
   simp at aB;rcases aB with rfl | rfl | rfl<;>omega
  refine eh ?_;simp -dsimp only[cA];refine eh ?_;intro IU eu bH;have Ui:=Lx.hr eu bH n35 GA;have ac9:=gQ.trans Tl (eu.zh (by simp));have ak5:=eu.obj Ki (by omega);replace b5:=eu.obj b5 (by simp at TX;omega);have B3:Ext w IU:=Ui.mod.ext (uR (Ext.refl _)) fun k hk a=>by have:=RO k a;omega
  clear Ki SG;obtain⟨oP,xF⟩:=Int.eq_ofNat_of_zero_le Du.bA;have sh:oP<m.procs.length:=by have:=Du.af;omega
  obtain⟨a,rfl⟩:=ah.addr (by omega);obtain⟨aG,cx,eg,dU,eL,fU⟩:=ah.at oP sh;obtain⟨_,_,rfl,_⟩:=eL.form;obtain⟨_,_,rfl,lc⟩:=fU.form;have k4:o.qj m x.1=m.procs[oP].cE.length:=by
   unfold o.qj;rw[xF,o.lf (by omega) (by omega)];simp
  rw[k4] at Hb;refine aa ?_;refine K.dx oP xF sh ?_;refine aa ?_;refine K.cR 26 m.procs[oP].cE.length [1,3,4,5,6,25] (fun _=>[]) () (fun j _ b8=>kT qv ch db dX (at',x.1,s.2.2++o.refsOf at' j) b8∧gQ qv.heap.size [ch,db,dX] [T.ak] eE b8) bp bp ⟨by simpa[o.refsOf] using Ui,ac9⟩ ?_;rintro j _ S lx aI ⟨Dp,Ky⟩;refine aa ?_;apply K.cond<;>intro g2
  ·obtain⟨bm,n,c,bz,aZ⟩:=Dp.ex;have bX:=Dp.aJ;have al8:=Dp.mod.size;refine aa ?_;intro pT akz iM bC dq;refine aa ?_;have hlen:(s.2.2++o.refsOf at' j).length+1≤5000:=by
    simp only[List.length_append,o.refsOf,List.length_map,List.length_range];omega
   refine K.u0 (ys:=[(⟨at',(j:Int)⟩:o.Ref)]) (aZ.ext bC) (fun _=>rfl) (by simpa[o.Ref.enc] using h4 dq) rfl (by intro y u hu;simp[o.Ref.enc] at hu;rcases hu with rfl | rfl<;>rfl)
    (by simp only[List.length_cons,List.length_nil];omega) (by simp only[List.length_cons,List.length_nil];unfold maxLen;omega) (by have:=bC.size;omega) fun ck Yi kp vz _=>?_
   obtain⟨iR,rU,rfl,_⟩:=kp.form;have akR:Yi.heap[ch]? = some (.cells #[.slice bm n c] T.t):=by
    rw[vz.block ch (cy (bC.obj bz)) fun e=>?_]
    ·exact bC.obj bz
    ·obtain⟨cur,ah⟩:=(aZ.ext bC).aQ ch e.symm;exact absurd (u5 ah (bC.obj bz)) (by decide)
   refine aa ?_;intro aks hp dm;obtain⟨aeA,ada⟩:=(Dp.ext bC).app (bC.obj bz) (aZ.ext bC) kp vz hp dm n34 n35;refine aa ?_;exact⟨by omega,bf,(),trivial,by rw[o.Wo,←List.append_assoc];exact aeA,gQ.trans Ky (gQ.trans bC.zh ada)⟩
  ·have kF:j=m.procs[oP].cE.length:=by omega
   refine aa ?_;refine⟨gQ.keeps Ky (fun b aB=>?_),gQ.hA Ky (Nat.le_trans (uR (Ext.refl _)).size aav) (uR (Ext.refl _)).size (fun b aB=>⟨RO b aB,fun c t f hk aL=>?_⟩) (by decide),?_⟩
   ·simp at aB;rcases aB with rfl | rfl | rfl<;>omega
   ·simp at aB;rcases aB with rfl | rfl | rfl
    ·obtain⟨_,_,_,e,_⟩:=tV.ex
     have:=u5 hk e;subst this;revert aL;decide
    ·have:=u5 hk tV.aJ;subst this;revert aL;decide
    ·have:=u5 hk tV.bk;subst this;revert aL;decide
   ·show kT qv ch db dX _ lx;rw[key]
    have:o.lh m s x.1=(at',x.1,s.2.2++o.refsOf at' j):=by unfold o.lh;rw[je,k4,kF]
    rw[this];exact Dp
 ·rintro D xs W hj cm kH bx;obtain⟨bm,n,c,bz,aZ⟩:=kH.ex;have xA:=o.ah2 m;rw[cm] at aZ;rw[xA] at aZ;simp -dsimp only[c6,cA,Nat.reduceAdd,Nat.reduceEqDiff,reduceIte,reduceCtorEq,de];refine K.qd bz (Ext.refl _) rfl ?_;simp -dsimp only[c6,cA,Nat.reduceAdd,Nat.reduceEqDiff,reduceIte,reduceCtorEq,de];refine fL.ret bx ?_;simp -dsimp only[c6,cA,Nat.reduceAdd,Nat.reduceEqDiff,reduceIte,reduceCtorEq,de];have tr:w.heap.size≤qv.heap.size:=(uR (Ext.refl _)).size;have b2:Ext w W:=kH.mod.ext (uR (Ext.refl _)) fun k hk a=>by
   have:=q6.size
   simp at a;rcases a with rfl | rfl | rfl<;>omega
  refine⟨(aZ.mod (A:=fun k=>k=D) ((dz.e2 _ _ _).mod rfl) fun k hk a=>?_).low tr,b2.e2 (Nat.le_trans tr hj) _⟩;subst a;obtain⟨cur,ah⟩:=aZ.aQ k hk;rw[bx] at ah;injection ah with ah;cases ah
end Go.Proofs.R
end
section
namespace o
theorem UD:∀(y:cU),∀u∈y.enc,u.oneCell'=true:=by intro y u hu;simp[cU.enc] at hu;rcases hu with rfl | rfl<;>rfl
theorem ahZ:∀(y:Ref),∀u∈y.enc,u.oneCell'=true:=by intro y u hu;simp[Ref.enc] at hu;rcases hu with rfl | rfl<;>rfl
end o
namespace Go.Proofs.R
open Go Go.RowKit bt
theorem vW(cs:List Value)(m:o.Model)(w:World)(h:o.dM w cs m)(aV:m.cG) :
  bw Tryz.prog F.oR #[.agg cs.toArray] w fun v w'=>bg o.cU.enc T.n 2 w.heap.size w' v (o.insts m)∧Ext w w':=by
 obtain⟨cz,bV,cj,c1,cq,c2,cr,bJ,cC,bW,rfl,ao,h1,U,ah,aJ,eH,dB,dH,ee,ei⟩:=h.form;have aW:=aV.procs;have a1:=o.xU m;unfold o.dD at aW;refine bP E.oR ?_;refine bM ?_;refine aa ?_;intro aq bE c8 aC ar;refine aa ?_;refine K.cR 4 m.procs.length [1] (fun x:gf×List o.cU=>[(3,.slice x.1.1 x.1.2.1 x.1.2.2)]) ((none,0,0),[]) (fun k x w'=>(Ext w w'∧w'.heap[bE]? = aq.heap[bE]?)∧bg o.cU.enc T.n 2 w.heap.size w' (.slice x.1.1 x.1.2.1 x.1.2.2) x.2∧x.2++o.iP m (m.procs.drop k) k=o.insts m) bp bp ⟨⟨aC,rfl⟩,bg.nil _ _ _ _ _,by simp[o.insts]⟩ ?_;rw[ar];clear ar;rintro k ⟨v,l⟩ S aU hk ⟨⟨aA,aK⟩,ko,p8⟩;refine aa ?_;apply K.cond<;>intro g1
 ·have br:k<m.procs.length:=by omega
  obtain⟨a,rfl⟩:=ah.addr (by omega);obtain⟨aG,cx,eg,dU,eL,fU⟩:=ah.at k br;obtain⟨_,_,rfl,_⟩:=eL.form;obtain⟨_,_,rfl,_⟩:=fU.form;rw[o.UE br] at p8;have vC:=congrArg List.length p8;simp only[List.length_append] at vC;have tH:=o.Cc m m.procs[k];refine eh ?_;simp -dsimp only[cA];refine eh ?_;refine K.gK [1,4] (fun x:gf=>[(3,.slice x.1 x.2.1 x.2.2)]) (fun x w'=>(Ext w w'∧w'.heap[bE]? = aU.heap[bE]?)∧bg o.cU.enc T.n 2 w.heap.size w' (.slice x.1 x.2.1 x.2.2) (l++o.ih k m.procs[k])) ?_ ?_
  ·refine aa ?_;apply K.cond<;>intro g2
   ·have b2:o.ih k m.procs[k]=[⟨(k:Int),0⟩]:=by unfold o.ih;rw[if_pos g2]
    rw[b2] at vC ⊢;simp only[List.length_cons,List.length_nil] at vC;refine aa ?_;intro aY ch fE ax bB;have gT:=ko.ext ax;have np:=ax.obj aK;refine aa ?_;refine K.ki (y:=⟨(k:Int),0⟩) gT bB rfl (fun _=>rfl) o.UD (by simp only;omega) (by unfold maxLen;simp only;omega) (aA.trans ax).size fun bm n c bo fu zO=>?_;refine aa ?_;exact⟨(bm,n,c),bp,⟨gT.j2 (aA.trans ax) zO (Nat.le_refl _),by rw[aK];exact gT.box zO np (by decide)⟩,fu⟩
   ·have b2:o.ih k m.procs[k]=[]:=by unfold o.ih;rw[if_neg g2]
    refine aa ?_;exact⟨v,bp,⟨aA,bf⟩,by rw[b2,List.append_nil];exact ko⟩
  rintro v3 S aY ⟨⟨ax,bB⟩,gT⟩;rw[aK] at bB;clear aK;refine aa ?_;refine K.yu [1,4] (fun x:gf×Nat=>[(3,.slice x.1.1 x.1.2.1 x.1.2.2),(5,.int .i64 ((x.2:Int)+1))]) (v3,0) (fun x w'=>(x.2≤o.elems m m.procs[k]∧Ext w w'∧w'.heap[bE]? = aY.heap[bE]?)∧bg o.cU.enc T.n 2 w.heap.size w' (.slice x.1.1 x.1.2.1 x.1.2.2) (l++o.ih k m.procs[k]++o.iS k x.2)) (fun x=>4 - x.2) bp ⟨⟨Nat.zero_le _,ax,rfl⟩,by simpa[o.iS] using gT⟩ ?_;rw[bB];clear bB;rintro⟨v4,j⟩ S bo ⟨⟨aI,aF,bH⟩,fu⟩;refine aa ?_;refine K.gm _ (fun w' e=>ahQ _ m m.procs[k] _ _ w' (h.ext (aF.trans e))) ?_;refine aa ?_;intro bD aM;have b3:=aM.obj bH;have eF:=fu.ext aM;refine aa ?_;apply K.cond<;>intro g2
  ·have eQ:j<o.elems m m.procs[k]:=by omega
   refine aa ?_;intro bQ dY eK aN b5;have et:=eF.ext aN;have np:=aN.obj b3;have tE:=(aF.trans aM).trans aN;refine aa ?_;have kG:(l++o.ih k m.procs[k]++o.iS k j).length+1≤(o.insts m).length:=by
    simp only[List.length_append,o.iS,List.length_map,List.length_range] at vC ⊢;omega
   refine K.ki (y:=⟨(k:Int),(j:Int)+1⟩) et b5 rfl (fun _=>rfl) o.UD (Nat.le_trans (Nat.mul_le_mul_right 16 kG) (by omega)) (Nat.le_trans kG (by unfold maxLen;omega)) tE.size fun bm n c cd eR ix=>?_;refine aa ?_;exact⟨((bm,n,c),j+1),bp,⟨⟨by show j+1≤_;omega,et.j2 tE ix (Nat.le_refl _),et.box ix np (by decide)⟩,by rw[o.VR,←List.append_assoc];exact eR⟩,by show 4 - (j+1)<4 - j;omega⟩
  ·have kF:j=o.elems m m.procs[k]:=by simp only at aI;omega
   refine aa ?_;exact⟨br,bf,(v4,l++(o.ih k m.procs[k]++o.iS k j)),bp,⟨aF.trans aM,b3⟩,by rw[←List.append_assoc];exact eF,by rw[kF,←p8];simp⟩
 ·rw[List.drop_eq_nil_of_le (by omega)] at p8;refine aa ?_;refine⟨?_,aA⟩;simp only[o.iP,List.append_nil] at p8;rw[←p8];exact ko
theorem EA(cs:List Value)(m:o.Model)(w:World)(h:o.dM w cs m)(aV:m.cG)(dg:o.sV m) :
  bw Tryz.prog F.uh #[.agg cs.toArray] w fun v w'=>bg o.Ref.enc T.ak 2 w.heap.size w' v (o.refs m)∧Ext w w':=by
 obtain⟨cz,bV,cj,c1,cq,c2,cr,bJ,cC,bW,rfl,ao,h1,U,ah,aJ,eH,dB,dH,ee,ei⟩:=h.form;have j6:=o.oV dg;refine bP E.uh ?_;refine bM ?_;refine aa ?_;intro aq bE c8 aC ar;refine aa ?_;refine K.call (vW _ m aq (h.ext aC) aV) ?_;rintro cw aU ⟨af,aA⟩;have aK:=aA.obj ar;have j7:jX aU cw (o.insts m):=bg.fB (enc:=o.cU.enc) (fun _=>rfl) af;obtain⟨dd,ci,rfl,bi⟩:=j7.form;have JA:=aC.trans aA;refine aa ?_;refine K.cR 5 (o.insts m).length [1,3] (fun x:gf×List o.Ref=>[(4,.slice x.1.1 x.1.2.1 x.1.2.2)]) ((none,0,0),[]) (fun k x w'=>(Ext aU w'∧bg o.Ref.enc T.ak 2 aU.heap.size w' (.slice x.1.1 x.1.2.1 x.1.2.2) x.2)∧x.2++o.ob m ((o.insts m).drop k) k=o.refs m) bp bp ⟨⟨Ext.refl _,bg.nil _ _ _ _ _⟩,by simp[o.refs]⟩ ?_;rintro k ⟨v,l⟩ S aY hk ⟨⟨ax,gT⟩,zU⟩;have bB:=ax.obj aK;refine aa ?_;apply K.cond<;>intro g1
 ·have br:k<(o.insts m).length:=by omega
  have Du:=o.tY (o.insts m)[k] (List.getElem_mem _);obtain⟨oP,xF⟩:=Int.eq_ofNat_of_zero_le Du.bA;have sh:oP<m.procs.length:=by have:=Du.af;omega
  obtain⟨a,rfl⟩:=ah.addr (by omega);obtain⟨gB,rfl⟩:=j7.addr (by omega);obtain⟨aG,cx,eg,dU,eL,fU⟩:=ah.at oP sh;obtain⟨_,_,rfl,_⟩:=eL.form;obtain⟨_,_,rfl,lc⟩:=fU.form;have k4:o.qj m (o.insts m)[k]=m.procs[oP].cE.length:=by
   unfold o.qj;rw[xF,o.lf (by omega) (by omega)];simp
  rw[o.ah0 br,k4] at zU;have vC:=congrArg List.length zU;simp only[List.length_append] at vC;refine aa ?_;refine K.cR 6 m.procs[oP].cE.length [1,3,5] (fun x:gf=>[(4,.slice x.1 x.2.1 x.2.2)]) v (fun j x w'=>Ext aU w'∧bg o.Ref.enc T.ak 2 aU.heap.size w' (.slice x.1 x.2.1 x.2.2) (l++o.refsOf k j)) bp bp ⟨ax,by simpa[o.refsOf] using gT⟩ ?_;clear bB;rintro j v4 S bo aI ⟨aF,fu⟩;have bH:=aF.obj aK;have alR:=dU.ext JA;refine aa ?_;refine K.dx oP xF sh ?_;refine aa ?_;intro bD aM;have eF:=fu.ext aM;refine aa ?_;apply K.cond<;>intro g2
  ·have eQ:j<m.procs[oP].cE.length:=by omega
   refine aa ?_;intro bQ dY eK aN b5;have et:=eF.ext aN;have tE:=(aF.trans aM).trans aN;refine aa ?_;have kG:(l++o.refsOf k j).length+1≤4500:=by
    simp only[List.length_append,o.refsOf,List.length_map,List.length_range] at vC ⊢;omega
   refine K.ki (y:=⟨(k:Int),(j:Int)⟩) et b5 rfl (fun _=>rfl) o.ahZ (by omega) (by unfold maxLen;omega) tE.size fun bm n c cd eR ix=>?_;refine aa ?_;exact⟨eQ,bf,(bm,n,c),bp,et.j2 tE ix (Nat.le_refl _),by rw[o.Wo,←List.append_assoc];exact eR⟩
  ·have kF:j=m.procs[oP].cE.length:=by omega
   refine aa ?_;exact⟨br,bf,(v4,l++o.refsOf k j),bp,⟨aF.trans aM,eF⟩,by rw[kF,←zU];simp⟩
 ·rw[List.drop_eq_nil_of_le (by omega)] at zU;refine aa ?_;refine⟨?_,JA.trans ax⟩;simp only[o.ob,List.append_nil] at zU;rw[←zU];exact gT.low JA.size
end Go.Proofs.R
end
section
namespace bt
open Go
def c4(n:Int):List Value:=[.int .i64 n]
theorem j1:∀(y:Int),∀u∈c4 y,u.oneCell'=true:=by intro y u hu;simp[c4] at hu;subst hu;rfl
instance amd:oZ (Flat c4) (fun n=>[Value.int .i64 n]):=⟨fun _ _ _ h=>h⟩
end bt
end
section
set_option linter.unusedSimpArgs false
namespace Go.Proofs.R
open Go Go.RowKit bt
abbrev encI:Int→List Value:=fun n=>[Value.int .i64 n]
abbrev qC(base:Nat)(w:World)(v:Value)(xs:List Int):Prop:=bg encI T.a 1 base w v xs
structure qB(base b:Nat)(w:World)(m:Value)(st:List Int):Prop where
 ex:∃yl,w.heap[b]? = some (.cells #[yl,m] T.ox)∧qC base w yl st
 lt:b<base
 le:base≤w.heap.size
theorem qB.ext{base b:Nat}{w w':World}{m:Value}{st:List Int}(h:qB base b w m st)(he:Ext w w'):qB base b w' m st :=
 let ⟨yl,h1,U⟩:=h.ex
 ⟨⟨yl,he.obj h1,U.ext he⟩,h.lt,Nat.le_trans h.le he.size⟩
theorem SA(st:List Int)(h:0<st.length):st.getLastD 0=st[st.length - 1]:=by
 rw[List.getLastD_eq_getLast?,List.getLast?_eq_getElem?,List.getElem?_eq_getElem (by omega)];rfl
theorem ajk(base b:Nat)(w:World)(m:Value)(st:List Int)(h:qB base b w m st)(ao:0<st.length) :
  bw Tryz.prog F.Cb #[.pointer (some ⟨b,0,none⟩)] w fun v w'=>v = .int .i64 (st.getLastD 0)∧Ext w w':=by
 obtain⟨yl,ea,aZ⟩:=h.ex;obtain⟨bm,cap,rfl,aw,hm⟩:=aZ.form;have af:Ints w _ st:=bg.od (enc:=encI) (sz:=1) (fun _=>rfl) aZ;obtain⟨a,rfl⟩:=af.addr ao;unfold maxLen at hm;refine bP E.Cb ?_;refine bM ?_;refine bn ?_;refine K.dx (st.length - 1) (by omega) (by omega) ?_;refine bn ?_;intro aq he;refine bn ?_;rw[SA _ ao];exact dv
theorem afi(x:o.Node)(cs:List Value)(s:o.Scope)(base b:Nat)(w:World)(m:Value)(st:List Int)(av:x.ok)(h:o.fm w cs s)(hm:qB base b w m st)(ah:x.op=3→0<st.length) :
  bw Tryz.prog F.d1 #[.pointer (some ⟨b,0,none⟩),.agg x.enc.toArray,.agg cs.toArray] w fun v w'=>v = .tuple #[.int .i64 (o.ie x s (st.getLastD 0)).1,.int .i64 (o.ie x s (st.getLastD 0)).2]∧Ext w w':=by
 obtain⟨a0,bV,dG,c1,a2,c2,a3,bJ,a4,bW,rfl,Eu,dQ,ef,ev,hR,eH,dB,dH,ee,ei⟩:=h.form;refine bP E.d1 ?_;refine bM ?_;simp -dsimp only[cA];refine o8 ?_;refine K.new fun aq bE c8 aC ar=>?_;refine o8 ?_;refine K.new fun aU cp dT aA aK=>?_;have he:=aC.trans aA;have dc:aU.heap[bE]? = some (.cells #[.int .i64 x.op,.int .i64 x.n] T.f):=aA.obj ar;clear ar;refine o8 ?_;simp -dsimp only[cA];refine o8 ?_;refine K.cut (fun a8 w'=>a8 0 = .pointer (some ⟨b,0,none⟩)∧a8 4 = .pointer (some ⟨bE,0,none⟩)∧a8 5 = .pointer (some ⟨cp,0,none⟩)∧w'=aU∧(x.op=2∨x.op=3∨x.op=4) ∧
  a8 8=if x.op=4 then .slice a4 s.locals.length bW else .slice dG s.vars.length c1) ?_ ?_
 ·refine bn ?_;apply K.cond<;>intro g1
  ·refine bn ?_;refine K.call (QX x.n 0 aU) ?_;rintro _ aY ⟨rfl,ax⟩;have hk:o.ie x s (st.getLastD 0)=if o.within x.n then (0,0) else (0,10):=by rw[o.ie,if_pos g1]
   have aL:(o.tell (· + ·) x.n 0).2=o.within x.n:=by
    unfold o.tell
    have:o.within 0=true:=rfl
    simp only[Int.add_zero,this,Bool.and_true,Bool.and_self];split<;>simp_all
   rw[hk,aL];refine bn ?_;refine K.dO (fun g2=>?_) (fun g2=>?_)
   all_goals
    refine bn ?_;rw[g2];exact dv
  refine bn ?_;apply K.cond<;>intro g4
  ·refine bn ?_;refine⟨trivial,trivial,trivial,trivial,.inr (.inr g4),by rw[if_pos g4]⟩
  refine bn ?_;apply K.cond<;>intro g2
  ·refine bn ?_;refine⟨trivial,trivial,trivial,trivial,.inl g2,by rw[if_neg g4]⟩
  refine bn ?_;apply K.cond<;>intro g3
  ·refine bn ?_;refine⟨trivial,trivial,trivial,trivial,.inr (.inl g3),by rw[if_neg g4]⟩
  refine bn ?_;refine K.gX (c:=[_,_]) dc (Ext.refl _) rfl ?_;refine bn ?_;refine K.gX (c:=[_,_,_,_,_,_]) aK (Ext.refl _) rfl ?_;refine bn ?_;refine K.call (afj x _ s aU av (h.ext he)) ?_;rintro _ aY ⟨rfl,ax⟩;refine bn ?_;have hk:o.ie x s (st.getLastD 0)=o.la x s:=by rw[o.ie,if_neg g1,if_neg (by omega)]
  rw[hk];exact dv
 ·rintro S w' cm ⟨iB,pF,pG,rfl,l4,WL⟩;have hk:o.ie x s (st.getLastD 0)=(let q:=o.fw (if x.op=4 then s.locals else s.vars) x.n s;if q.2.2=false then (0,8) else if (x.op=3∧(q.2.1=0∨st.getLastD 0≠q.2.1))∨(x.op≠3∧q.2.1≠0) then (0,9) else (q.1,0)):=by
   rw[o.ie,if_neg (by omega),if_pos l4]
  rw[hk];clear hk;have aO:o.hh w' (S 8) (if x.op=4 then s.locals else s.vars):=by
   rw[WL];split
   ·exact hR.ext he
   ·exact dQ.ext he
  generalize (if x.op=4 then s.locals else s.vars)=l at aO ⊢;obtain⟨NB,eX⟩:∃NB,S 8=NB:=⟨_,rfl⟩;rw[eX] at aO;clear WL;refine eG (And.intro iB (And.intro pF (And.intro pG eX))) ?_;refine K.gX (c:=[_,_,_,_,_,_]) aK (Ext.refl _) rfl ?_;refine eG (And.intro iB (And.intro pF pG)) ?_;refine K.call (ajH _ l x.n _ s w' aO (h.ext he)) ?_;rintro _ aY ⟨rfl,ax⟩;generalize o.fw l x.n s=q;obtain⟨vV,yf,MM⟩:=q;refine eG (And.intro iB (And.intro pF pG)) ?_;refine K.dO (fun g1=>?_) (fun g1=>?_);rotate_left
  ·refine bn ?_;simp only[g1,if_true];exact dv
  have m3:=(hm.ext he).ext ax;refine eG (And.intro iB (And.intro pF pG)) ?_;apply K.cond<;>intro g2
  ·refine eG (And.intro iB (And.intro pF pG)) ?_;apply K.cond<;>intro g3
   ·refine eG (And.intro iB (And.intro pF pG)) ?_;simp only[g1,Bool.true_eq_false,if_false];rw[if_pos (.inl ⟨g2,.inl g3⟩)];exact dv
   refine eG (And.intro iB (And.intro pF pG)) ?_;refine K.call (ajk base b aY m st m3 (ah g2)) ?_;rintro _ bo ⟨rfl,aF⟩;refine eG (And.intro iB (And.intro pF pG)) ?_;apply K.cond<;>intro g4
   ·refine eG (And.intro iB (And.intro pF pG)) ?_;simp only[g1,Bool.true_eq_false,if_false];rw[if_neg (by omega)];exact dv
   ·refine bn ?_;simp only[g1,Bool.true_eq_false,if_false];rw[if_pos (.inl ⟨g2,.inr g4⟩)];exact dv
  ·refine eG (And.intro iB (And.intro pF pG)) ?_;apply K.cond<;>intro g4
   all_goals
    refine bn ?_;simp only[g1,Bool.true_eq_false,if_false]
   ·rw[if_neg (by omega)];exact dv
   ·rw[if_pos (.inr ⟨g2,g4⟩)];exact dv
end Go.Proofs.R
end
section
set_option linter.unusedSimpArgs false
namespace Go.Proofs.R
open Go Go.RowKit bt
theorem K.MN{P:Program}{x:Value}{args:List Value}{w:World}{aE:Value→Prop}{t}(v:Value)(h:∀w',Ext w w'→uQ P x args w' (fun u b1=>u=v∧Ext w' b1) ⟨⟩)(hk:aE v):Bq P x args w aE t:=by
 unfold Bq;refine⟨v,fun w' he=>?_,hk⟩
 have:=h w' he
 unfold uQ at this;obtain⟨f,first,cap,e,aT,bd⟩:=this;exact⟨f,first,cap,e,aT,bd.mono fun _ _ ⟨h1,U⟩=>⟨h1,he.trans U⟩⟩
theorem yC.ext{w w':World}{v:Value}{g:Int→Int→Int×Bool}(he:Ext w w')(h:yC w v g):yC w' v g:=by
 rcases h with h | ⟨c,f,p,h1,U,ah⟩
 ·exact .inl h
 ·exact .inr ⟨c,f,p,h1,he.obj U,ah⟩
def Np(f:o.Node→List Int→Int×Int)(two:o.o3→List Int→Int×Int)(leaf:o.Node→List Int→Int×Int):Prop :=
 ∀x st,f x st=match o.hP x.op with | some ak=>two ak (st.drop (st.length - ak.parts.toNat)) | none=>leaf x st
theorem VJ{x:Int}{ak:o.o3}(h:o.hP x=some ak):1≤ak.parts∧ak.parts≤2:=by
 unfold o.hP at h
 repeat' split at h
 all_goals first | (cases h;exact⟨by decide,by decide⟩) | cases h
theorem ai7(f:o.Node→List Int→Int×Int)(two:o.o3→List Int→Int×Int)(leaf:o.Node→List Int→Int×Int)(aT:Np f two leaf)
  (x:o.Node)(base b:Nat)(w:World)(m oh v2:Value)(st:List Int)(hm:qB base b w m st)(aZ:o4 w m)(tv:st.length≤24)
  (K6:0≤o.fH x.op→o.fH x.op≤st.length→o.hP x.op=none→∀w' di t,Ext w w'→(∀b1,Ext w' b1→di (.tuple #[.int .i64 (leaf x st).1,.int .i64 (leaf x st).2]) b1)→wo Tryz.prog oh [.agg x.enc.toArray] w' di t)
  (LB:∀ak fz iA w' di t,Ext w w'→o.hP x.op=some ak→Bm w' ak fz→ak.parts≤st.length→Ints w' iA (st.drop (st.length - ak.parts.toNat)) →
   (∀b1,Ext w' b1→di (.tuple #[.int .i64 (two ak (st.drop (st.length - ak.parts.toNat))).1,.int .i64 (two ak (st.drop (st.length - ak.parts.toNat))).2]) b1)→uQ Tryz.prog v2 [fz,iA] w' di t) :
  bw Tryz.prog F.B8 #[.pointer (some ⟨b,0,none⟩),.agg x.enc.toArray,oh,v2] w fun v w' =>
   v = .int .i64 (o.stepG f x st).1∧Mod (fun k=>k=b∨base≤k) w w'∧((o.stepG f x st).1=0→qB base b w' m (o.stepG f x st).2):=by
 obtain⟨yl,ea,gM⟩:=hm.ex;obtain⟨bm,cap,rfl,CR,k3⟩:=gM.form;have af:Ints w _ st:=bg.od (enc:=encI) (sz:=1) (fun _=>rfl) gM;unfold maxLen at k3;refine bP E.B8 ?_;refine bM ?_;simp -dsimp only[cA];refine o8 ?_;refine K.new fun aq bE c8 aC ar=>?_;refine o8 ?_;simp -dsimp only[cA];refine o8 ?_;refine K.gm _ (fun w' e=>ag4 x.op m w' (aZ.ext (aC.trans e))) ?_;refine o8 ?_;intro aU aA;have en:=aC.trans aA;refine o8 ?_;simp -dsimp only[cA];generalize aH:o.fH x.op=n;have js : -1≤n∧n≤2:=by rw[←aH];unfold o.fH; (repeat' split)<;>omega
 refine bn ?_;apply K.cond<;>intro g1
 ·refine bn ?_;have aG:o.stepG f x st=(3,st):=by unfold o.stepG;rw[aH,if_pos g1]
  rw[aG];exact⟨rfl,en.mod,fun h=>by cases h⟩
 refine bn ?_;apply K.cond<;>intro g2
 ·refine bn ?_;have aG:o.stepG f x st=(4,st):=by unfold o.stepG;rw[aH,if_neg g1,if_pos g2]
  rw[aG];exact⟨rfl,en.mod,fun h=>by cases h⟩
 refine o8 ?_;simp -dsimp only[cA];refine o8 ?_;simp -dsimp only[cA];refine o8 ?_;have hz:o.stepG f x st=if (f x st).2≠0 then ((f x st).2,st) else if (st.take (st.length - n.toNat)++[(f x st).1]).length > 12 then (12,st) else (0,st.take (st.length - n.toNat)++[(f x st).1]):=by
  unfold o.stepG;rw[aH,if_neg g1,if_neg g2]
 rw[hz];clear hz;have vy:=aT x st;generalize bd:f x st=r at vy ⊢;refine K.cut (fun a8 w'=>a8 0 = .pointer (some ⟨b,0,none⟩)∧a8 9 = .int .i64 n∧a8 10 = .int .i64 r.1∧a8 11 = .int .i64 r.2∧Ext w w') ?_ ?_
 ·refine bn ?_;intro aY ax;obtain⟨es,q,DE,DF,xW⟩:=(aZ.ext (en.trans ax)).look x.op;refine bn ?_;refine K.l6 DE DF ?_;cases l4:o.hP x.op with
  | none =>
   simp only[l4] at xW vy;subst xW;simp only[lG,Option.map_none,Option.getD_none,Option.isSome_none,if_true];refine bn ?_;refine K.new fun bo db gw aF bH=>?_;refine⟨aF,?_⟩;refine bn ?_;refine K.hT (cs:=#[.int .i64 0,.int .i64 0,.int .i64 0,.nilFunc]) bH rfl rfl (by simp[Value.oneCell']) fun bD eU b3=>?_;have aM:Ext aY bD:=eU.ext aF gw;clear bH eU aF;refine bn ?_;refine K.gX (c:=[_,_]) (aA.obj ar) (fK) rfl ?_;refine bn ?_;refine K6 (by omega) (by omega) l4 _ _ _ ((en.trans ax).trans aM) fun bQ aN=>?_;refine bn ?_;rw[vy];exact⟨trivial,trivial,rfl,rfl,((en.trans ax).trans aM).trans aN⟩
  | some ak =>
   simp only[l4] at xW vy;obtain⟨i,fz,rfl,u,rfl,bx⟩:=xW;obtain⟨cj,cq⟩:=VJ l4;have on:=(o.HJ l4).1;simp only[lG,Option.map_some,Option.getD_some,Option.isSome_some,if_true];refine bn ?_;refine K.new fun bo db gw aF bH=>?_;refine⟨aF,?_⟩;refine bn ?_;refine K.hT (cs:=#[.int .i64 ak.parts,.int .i64 ak.iV,.int .i64 ak.makes,u]) bH rfl rfl (by rcases bx with ⟨f,rfl,_⟩ | ⟨c,f,p,rfl,_⟩<;>simp[Value.oneCell']) fun bD eU b3=>?_;have aM:Ext aY bD:=eU.ext aF gw;clear bH eU aF;have KN:=(en.trans ax).trans aM;have aly:Bm aY ak (.agg #[.int .i64 ak.parts,.int .i64 ak.iV,.int .i64 ak.makes,u]):=⟨u,rfl,bx⟩;obtain⟨p,rfl⟩:=Int.eq_ofNat_of_zero_le (show 0≤n by omega);have aW:ak.parts.toNat=p:=by omega
   refine bn ?_;refine K.gX (c:=[_,_,_,_]) b3 (Ext.refl _) rfl ?_;refine bn ?_;refine K.aiK (st.length - p) (by simp -dsimp only[c6,cA,Nat.reduceAdd,Nat.reduceEqDiff,reduceIte,reduceCtorEq,de];rw[Int.ofNat_sub (by omega)]) ⟨by omega,by omega⟩ ?_;have aL:=af.tail (st.length - p) (by omega);rw[aW] at vy;refine bn ?_;refine K.MN _ (fun w' e=>LB ak _ _ w' _ _ (KN.trans e) l4 ⟨u,rfl,bx.ext (aM.trans e)⟩ (by omega) (by rw[aW];exact aL.ext Flat.ext (KN.trans e)) fun b1 ba=>⟨rfl,ba⟩) ?_;refine bn ?_;intro bQ aN;refine bn ?_;rw[vy,aW];exact⟨trivial,trivial,rfl,rfl,KN.trans aN⟩
 ·clear ar aC aA en;rintro S aY cm ⟨iB,EG,EF,AT,ax⟩;simp -dsimp only[cA];refine eG (And.intro iB (And.intro EG (And.intro EF AT))) ?_;apply K.cond<;>intro g3;rotate_left
  ·refine eG AT ?_;rw[if_pos g3];exact⟨rfl,ax.mod,fun h=>absurd h g3⟩
  obtain⟨p,rfl⟩:=Int.eq_ofNat_of_zero_le (show 0≤n by omega);have ph:¬r.2≠0:=by simpa using g3
  rw[if_neg ph];have k3:(st.take (st.length - p)++[r.1]).length=st.length - p+1:=by simp[List.length_take]
  have h9:=hm.ext ax;have gT:qC base aY (.slice bm st.length cap) st:=gM.ext ax;refine o8 ?_;simp -dsimp only[cA];refine eG (And.intro iB (And.intro EG (And.intro EF AT))) ?_;intro bo aF;have fu:qC base bo (.slice bm st.length cap) st:=gT.ext aF;refine eG (And.intro iB (And.intro EG (And.intro EF AT))) ?_;refine K.yi (st.length - p) (by simp -dsimp only[c6,cA,Nat.reduceAdd,Nat.reduceEqDiff,reduceIte,reduceCtorEq,de];rw[Int.ofNat_sub (by omega)]) (by omega) ?_;refine eG (And.intro iB (And.intro EG (And.intro EF AT))) ?_;refine K.oy (cs:=[r.1].flatMap encI) (by simp[List.range,List.range.loop,e4,lay,fD,b6,Value.cells,encI]) fun bD dX jf aM b3=>?_;refine⟨aM,?_⟩;refine bn ?_;have eF:qC base bD (.slice bm (st.length - p) cap) (st.take (st.length - p)):=bg.head (enc:=encI) (sz:=1) (xs:=st) (fun _=>rfl) (bg.ext aM fu) (st.length - p) (Nat.sub_le _ _);have cB:(st.take (st.length - p)).length=st.length - p:=by simp[List.length_take]
  have AL:((st.take (st.length - p)).length+[r.1].length)*8≤140737488355328:=by rw[cB];simp only[List.length_cons,List.length_nil];omega
  have ahr:(st.take (st.length - p)).length+[r.1].length≤maxLen:=by rw[cB];simp only[List.length_cons,List.length_nil,maxLen];omega
  have dQ:∀y,∀u∈encI y,u.oneCell'=true:=fun y u h=>by simp[encI] at h;subst h;rfl
  refine K.yX (xs:=st.take (st.length - p)) (ys:=[r.1]) eF (fun _=>rfl) (h4 b3) rfl dQ AL ahr (by have:=hm.le;have:=ax.size;have:=aF.size;have:=aM.size;omega) fun v6 bQ et jP=>?_;have zG:bD.heap[b]? = some (.cells #[.slice bm st.length cap,m] T.ox):=aM.obj (aF.obj (ax.obj ea));have eK:bQ.heap[b]? = some (.cells #[.slice bm st.length cap,m] T.ox):=by
   refine(jP.block b (cy zG) fun e=>?_).trans zG
   have:=(eF.lt b e.symm).1
   have:=hm.lt
   omega
  refine bn ?_;refine K.st1 eK (by simp) (by obtain⟨bm,cap,e,_⟩:=et.form;rw[e];rfl) fun cd dC dq=>?_;have tN:Mod (fun k=>k=b∨base≤k) w cd :=
   (((ax.trans aF).trans aM).mod.trans (Mod.grown jP fun k hk=>.inr (eF.lt k hk).1)).trans (dC.mod (.inl rfl))
  have sj:qB base b cd m (st.take (st.length - p)++[r.1]) :=
   ⟨⟨v6,dq,et.wr dC hm.lt⟩,hm.lt,Nat.le_trans hm.le tN.size⟩
  obtain⟨yd,akJ,rfl,b5,_⟩:=et.form;rw[k3];have alJ:((st.take (st.length - p)++[r.1]).length:Int)=st.length - p+1:=by rw[k3];omega
  refine eG (And.intro iB (And.intro EG (And.intro EF AT))) ?_;apply K.cond<;>intro g4
  ·refine bn ?_;simp only[Int.toNat_natCast,k3];rw[if_pos (by omega)];exact⟨rfl,tN,fun h=>by cases h⟩
  ·refine bn ?_;simp only[Int.toNat_natCast,k3];rw[if_neg (by omega)];exact⟨rfl,tN,fun _=>sj⟩
end Go.Proofs.R
end
section
set_option linter.unusedSimpArgs false
namespace Go.Proofs.R
open Go Go.RowKit bt
theorem ail(f:o.Node→List Int→Int×Int)(two:o.o3→List Int→Int×Int)(leaf:o.Node→List Int→Int×Int)(aT:Np f two leaf)(cG:Int→Prop)
  (b:Nat)(w0 w:World)(Hi:Ext w0 w)(p4:w0.heap.size≤b)(hV oh v2:Value)(e:List o.Node)(he:o.fY w0 hV e)(aB:w.heap[b]? = some (.cells #[.slice none 0 0,.map none] T.ox))
  (C2:∀x st,x.ok→(∀z∈st,cG z)→0≤o.fH x.op→o.fH x.op≤st.length→(f x st).2=0→cG (f x st).1)
  (K6:∀x st base m w',x.ok→Mod (fun k=>k=b) w w'→qB base b w' m st→(∀z∈st,cG z)→0≤o.fH x.op→o.fH x.op≤st.length→o.hP x.op=none→∀aq di t,Ext w' aq →
   (∀b1,Ext aq b1→di (.tuple #[.int .i64 (leaf x st).1,.int .i64 (leaf x st).2]) b1)→wo Tryz.prog oh [.agg x.enc.toArray] aq di t)
  (LB:∀ak fz iA l w' di t,Mod (fun k=>k=b) w w'→Bm w' ak fz→(∃x,o.hP x=some ak)→ak.parts=l.length→Ints w' iA l →
   (∀b1,Ext w' b1→di (.tuple #[.int .i64 (two ak l).1,.int .i64 (two ak l).2]) b1)→uQ Tryz.prog v2 [fz,iA] w' di t) :
  bw Tryz.prog F.B2 #[.pointer (some ⟨b,0,none⟩),hV,oh,v2] w fun v w' =>
   v = .tuple #[.int .i64 (o.nt f e).1,.int .i64 (o.nt f e).2]∧Mod (fun k=>k=b) w w':=by
 obtain⟨bm,cap,rfl,hlen⟩:=he.form;refine bP E.B2 ?_;refine bM ?_;refine bn ?_;apply K.cond<;>intro g1
 ·refine bn ?_;rw[o.nt,if_pos (by omega)];exact⟨rfl,Mod.refl _ _⟩
 refine bn ?_;apply K.cond<;>intro g2
 ·refine bn ?_;rw[o.nt,if_neg (by omega),if_pos (by omega)];exact⟨rfl,Mod.refl _ _⟩
 refine bn ?_;refine K.call (agP w) ?_;rintro m aq ⟨Dg,aC⟩;refine bn ?_;refine K.st1 (aC.obj aB) (by decide) (by obtain⟨r,_,_,_,e,_⟩:=Dg;rw[e];rfl) fun aU sq aK=>?_;have Kr:aU.heap[b]? = some (.cells #[.slice none 0 0,m] T.ox):=aK;clear aK;have aed:o4 aU m:=Dg.mod (A:=fun k=>k=b) (sq.mod rfl) fun k ak h1 U hk=>by
  subst hk;rw[aC.obj aB] at h1;injection h1 with h1
  rcases U with ⟨es,c,U⟩ | ⟨cs,U⟩
  ·rw[U] at h1;cases h1
  ·rw[U] at h1;injection h1 with _ h1
   cases h1
 have TV:Mod (fun k=>k=b) w aU:=aC.mod.trans (sq.mod rfl);have cB:b<aU.heap.size:=cy Kr;refine bn ?_;refine K.Cs 27 e.length (fun k S w'=>Mod (fun k=>k=b) aU w'∧∃st,o.fP f (e.take k) []=(0,st)∧qB aU.heap.size b w' m st∧(0<k→1≤st.length)∧st.length≤12∧∀z∈st,cG z)
  (by simp -dsimp only[c6,cA,Nat.reduceAdd,Nat.reduceEqDiff,reduceIte,reduceCtorEq,de]) ⟨Mod.refl _ _,[],by simp[o.fP],⟨⟨_,Kr,bg.nil _ _ _ _ _⟩,cB,Nat.le_refl _⟩,by simp,by simp,by simp⟩ ?_
 rintro k S aY cm hk nk ⟨tN,st,iy,Dd,JX,qZ,C1⟩;have ao:=cm 0 rfl;have h1:=cm 1 rfl;have U:=cm 2 rfl;have ah:=cm 3 rfl;have r9:=cm 25 rfl;have lW:=cm 26 rfl;simp only[b6,Nat.reduceAdd,Nat.reduceEqDiff,reduceIte,jr,my] at ao h1 U ah r9 lW;clear cm;have G7:Mod (fun k=>k=b) w aY:=TV.trans tN;refine eG (And.intro ao (And.intro h1 (And.intro U (And.intro ah (And.intro r9 (And.intro lW nk)))))) ?_;apply K.cond<;>intro g3
 ·have br:k<e.length:=by omega
  have akU:Ext w0 aY:=G7.ext Hi fun q aR e=>by omega
  obtain⟨a,rfl⟩:=he.addr (by omega);have mK:=(he.at k br).ok;have jS:=fun ao=>o.Wy (f:=f) (e:=e) (by omega) br iy ao;have z1:=o.EC br iy;have aee:o4 aY m:=aed.mod (A:=fun k=>k=b) tN fun k ak h1 U hk=>by
   subst hk;rw[Kr] at h1;injection h1 with h1
   rcases U with ⟨es,c,U⟩ | ⟨cs,U⟩
   ·rw[U] at h1;cases h1
   ·rw[U] at h1;injection h1 with _ h1
    cases h1
  refine eG (And.intro ao (And.intro h1 (And.intro U (And.intro ah (And.intro r9 (And.intro lW nk)))))) ?_;generalize av:e[k]=x at *;refine K.sF (vs:=x.enc) (fun _=>by simp -dsimp only[c6,cA,Nat.reduceAdd,Nat.reduceEqDiff,reduceIte,reduceCtorEq,de]) rfl rfl (by simp[o.Node.enc,Value.oneCell']) fun bo db gw aF bH=>?_;refine eG (And.intro ao (And.intro h1 (And.intro U (And.intro ah (And.intro r9 (And.intro lW nk)))))) ?_;refine K.gX (c:=x.enc) bH (Ext.refl _) rfl ?_;refine eG (And.intro ao (And.intro h1 (And.intro U (And.intro ah (And.intro r9 (And.intro lW nk)))))) ?_;have La:Mod (fun k=>k=b) w bo:=G7.trans aF.mod;refine K.call (ai7 f two leaf aT x aU.heap.size b bo m oh v2 st (Dd.ext aF) (aee.ext aF) (by omega)
   (fun dQ ef ev w' di t Dr hk=>K6 x st _ m bo mK La (Dd.ext aF) C1 dQ ef ev w' di t Dr hk)
   (fun ak fz iA w' di t Dr dQ ef ev hR hk=>LB ak fz iA _ w' di t (La.trans Dr.mod) ef ⟨_,dQ⟩ (by have:=VJ dQ;simp[List.length_drop];omega) hR hk)) ?_
  rintro _ bD ⟨rfl,k2,Uj⟩;have ad0:Mod (fun k=>k=b) w bD:=La.then k2 fun i af h=>by
   rcases h with h | h
   ·exact h
   ·have:=TV.size;omega
  refine eG (And.intro ao (And.intro h1 (And.intro U (And.intro ah (And.intro r9 (And.intro lW nk)))))) ?_;apply K.cond<;>intro g4;rotate_left
  ·refine eG (And.intro ao (And.intro h1 (And.intro U (And.intro ah (And.intro r9 (And.intro lW nk)))))) ?_;rw[jS g4];exact⟨bf,ad0⟩
  have Dc:=o.ai6 g4;have adE:∀z∈(o.stepG f x st).2,cG z:=by
   have aV:=C2 x st mK C1;clear jS z1 Dc Uj;unfold o.stepG at g4 ⊢;by_cases dQ:o.fH x.op<0
   ·rw[if_pos dQ] at g4;cases g4
   by_cases ef:(st.length:Int)<o.fH x.op
   ·rw[if_neg dQ,if_pos ef] at g4;cases g4
   by_cases ev:(f x st).2≠0
   ·rw[if_neg dQ,if_neg ef,if_pos ev] at g4;exact absurd g4 ev
   by_cases hR:(st.take (st.length - (o.fH x.op).toNat)++[(f x st).1]).length > 12
   ·rw[if_neg dQ,if_neg ef,if_neg ev,if_pos hR] at g4;cases g4
   rw[if_neg dQ,if_neg ef,if_neg ev,if_neg hR];intro z bL;rcases List.mem_append.1 bL with bL | bL
   ·exact C1 z (List.mem_of_mem_take bL)
   ·simp at bL;subst bL;exact aV (by omega) (by omega) (by simpa using ev)
  refine eG (And.intro ao (And.intro h1 (And.intro U (And.intro ah (And.intro r9 (And.intro lW nk)))))) ?_;refine⟨br,bf,?_,(o.stepG f x st).2,?_,Uj g4,fun _=>Dc.1,Dc.2,adE⟩
  ·refine(tN.trans aF.mod).then k2 fun i af h=>?_;rcases h with h | h
   ·exact h
   ·omega
  ·rw[z1];exact Prod.ext g4 rfl
 ·have br:k=e.length:=by omega
  subst br;rw[List.take_length] at iy;obtain⟨yl,ea,gM⟩:=Dd.ex;obtain⟨iR,rU,rfl,CR,k3⟩:=gM.form;have af:Ints aY _ st:=bg.od (enc:=encI) (sz:=1) (fun _=>rfl) gM;have h1:=JX (by omega);obtain⟨a,rfl⟩:=af.addr h1;have ga:o.nt f e=if st.length > 1 then (0,5) else (st.headD 0,0):=by
   rw[o.nt,if_neg (by omega),if_neg (by omega),iy,if_neg (by simp)]
  rw[ga];clear ga;refine eG (And.intro ao (And.intro h1 (And.intro U (And.intro ah (And.intro r9 (And.intro lW nk)))))) ?_;apply K.cond<;>intro g4
  ·refine bn ?_;rw[if_pos (by omega)];exact⟨rfl,G7⟩
  ·refine eG (And.intro ao (And.intro h1 (And.intro U (And.intro ah (And.intro r9 (And.intro lW nk)))))) ?_;refine K.dx 0 rfl (by omega) ?_;refine bn ?_;rw[if_neg (by omega)]
   have:st.headD 0=st[0]:=by
    cases st with
    | nil=>simp at h1
    | cons z st=>rfl
   rw[this];exact⟨bf,G7⟩
theorem afp(ak:o.o3)(u iA:Value)(l:List Int)(w:World)(a1:Ints w iA l) :
  bw Tryz.prog F.d2 #[.agg #[.int .i64 ak.parts,.int .i64 ak.iV,.int .i64 ak.makes,u],iA] w fun v w'=>v = .tuple #[.int .i64 (o.mM ak l).1,.int .i64 (o.mM ak l).2]∧Ext w w':=by
 obtain⟨bm,cap,rfl,hlen⟩:=a1.form;refine bP E.d2 ?_;refine bM ?_;refine bn ?_;refine K.new fun aq b aB aC ar=>?_;refine bn ?_;refine K.Cs 10 l.length (fun k S w'=>w'=aq∧(l.take k).all (fun k=>(decide (ak.iV = -1)||decide (k=ak.iV))&&decide (k=l.headD 0))=true) (by simp -dsimp only[c6,cA,Nat.reduceAdd,Nat.reduceEqDiff,reduceIte,reduceCtorEq,de]) ⟨rfl,by simp⟩ ?_;rintro k S aU cm hk jM ⟨rfl,dP⟩;have h1:=cm 1 rfl;have U:=cm 2 rfl;have df:=cm 8 rfl;have hi:=cm 9 rfl;simp only[b6,Nat.reduceAdd,Nat.reduceEqDiff,reduceIte,jr,my] at h1 U df hi;clear cm;refine eG (And.intro h1 (And.intro U (And.intro df (And.intro hi jM)))) ?_;apply K.cond<;>intro g1;rotate_left
 ·rw[List.take_of_length_le (by omega)] at dP;refine eG (And.intro h1 (And.intro U (And.intro df (And.intro hi jM)))) ?_;rw[o.mM,if_pos dP];exact dv
 have br:k<l.length:=by omega
 obtain⟨a,rfl⟩:=a1.addr (by omega);have vF:l.take (k+1)=l.take k++[l[k]]:=List.take_succ_eq_append_getElem br;have Kk:=List.all_append (xs:=l.take (k+1)) (ys:=l.drop (k+1)) (f:=fun k=>(decide (ak.iV = -1)||decide (k=ak.iV))&&decide (k=l.headD 0));rw[List.take_append_drop,vF,List.all_append] at Kk;have ao:l.headD 0=l[0]:=by
  cases l with
  | nil=>simp at br
  | cons z l=>rfl
 have GC:((decide (ak.iV = -1)||decide (l[k]=ak.iV))&&decide (l[k]=l.headD 0))=false→o.mM ak l=(0,9):=by
  intro h;rw[o.mM,if_neg (by rw[Kk];simp only[List.all_cons,List.all_nil,h];simp)]
 have C2:((decide (ak.iV = -1)||decide (l[k]=ak.iV))&&decide (l[k]=l.headD 0))=true→(l.take (k+1)).all (fun k=>(decide (ak.iV = -1)||decide (k=ak.iV))&&decide (k=l.headD 0))=true:=by
  intro h;rw[vF,List.all_append,dP];simp only[List.all_cons,List.all_nil,h];rfl
 rw[ao] at GC;clear Kk;have aW:0<l.length:=by omega
 have pt:Ints aU (.slice (some a) l.length cap) l:=a1.ext aC;have GY:=C2;rw[ao] at C2 dP
 (repeat' first
 | (refine K.cond (fun _=>?_) (fun _=>?_)<;>try (exfalso;omega))
 | (refine K.dO (fun _=>?_) (fun _=>?_))
 | assumption
 | exact Ext.refl _
 | refine Ext.trans ?_ (by assumption)
 | refine K.wrap (by omega) ?_
 | refine K.sB (by assumption) ?_ rfl ?_
 | refine K.qd (by assumption) ?_ rfl ?_
 | refine K.ud (by assumption) ?_ (by omega) rfl ?_
 | refine K.ue (by assumption) ?_ (by omega) rfl ?_
 | refine K.uc (by assumption) ?_ (by omega) rfl ?_
 | refine K.tX (by omega) ?_
 | refine K.rZ (by first | assumption | omega) ?_
 | refine K.td (by first | assumption | omega) ?_
 | refine K.pX (by assumption) ?_
 | refine K.qR (by assumption) ?_
 | simp -dsimp only[c6,cA,Nat.reduceAdd,Nat.reduceEqDiff,reduceIte,reduceCtorEq,de,h1,U,df,hi,jM])
 all_goals first
  | (have ea:=GC (by simp;omega);rw[ea];refine⟨bf,aC⟩)
  | (refine⟨by omega,bf,trivial,?_⟩;rw[ao];exact C2 (by simp;omega))
theorem aff(x:o.Node)(cs:List Value)(s:o.Scope)(base b pm dr:Nat)(w:World)(m:Value)(st:List Int)(ajj:TypeId)(av:x.ok)(h:o.fm w cs s)(hm:qB base b w m st)(ah:x.op=3→0<st.length)
  (T7:w.heap[pm]? = some (.cells #[.pointer (some ⟨b,0,none⟩)] ajj))(xL:w.heap[dr]? = some (.cells cs.toArray T.d)) :
  bw Tryz.prog F.d0 #[.agg x.enc.toArray,.pointer (some ⟨pm,0,none⟩),.pointer (some ⟨dr,0,none⟩)] w fun v w' =>
   v = .tuple #[.int .i64 (o.ie x s (st.getLastD 0)).1,.int .i64 (o.ie x s (st.getLastD 0)).2]∧Ext w w':=by
 obtain⟨v0,v1,v2,v3,v4,rfl,_⟩:=h.ex;refine bP E.d0 ?_;refine bM ?_;refine bn ?_;refine K.new fun aq bE c8 aC ar=>?_;have dc:aq.heap[bE]? = some (.cells x.enc.toArray T.f):=ar;refine bn ?_;refine K.gX (c:=x.enc) dc (Ext.refl _) rfl ?_;refine bn ?_;refine K.gX xL aC rfl ?_;refine bn ?_;refine K.call (afi x _ s base b aq m st av (h.ext aC) (hm.ext aC) ah) ?_;rintro _ aU ⟨rfl,aA⟩;refine bn ?_;exact dv
theorem abh(s:o.Scope):Np (o.eY s) o.mM fun x st=>o.ie x s (st.getLastD 0):=fun _ _=>rfl
theorem U3(hV:Value)(e:List o.Node)(cs:List Value)(s:o.Scope)(w:World)(he:o.fY w hV e)(h:o.fm w cs s) :
  bw Tryz.prog F.dE #[hV,.agg cs.toArray] w fun v w'=>v = .tuple #[.int .i64 (o.kind e s).1,.int .i64 (o.kind e s).2]∧Ext w w':=by
 obtain⟨v0,v1,v2,v3,v4,rfl,_⟩:=h.ex;refine bP E.dE ?_;refine bM ?_;refine bn ?_;refine K.new fun aq dr xL aC ar=>?_;refine bn ?_;refine K.cP (cs:=[.slice none 0 0,.map none]) (by simp[e4]) ?_;refine bn ?_;refine K.new fun aU b aB aA aK=>?_;refine bn ?_;refine K.new fun aY pm T7 ax bB=>?_;refine bn ?_;refine K.sO bB (by decide) rfl fun bo eu bH=>?_;have acT:bo.heap[pm]? = some (.cells #[.pointer (some ⟨b,0,none⟩)] T.a0):=bH;have aF:Ext aU bo:=eu.ext ax T7;have alS:=cy aK;have aen:=cy ar;have KS:Ext w bo:=(aC.trans aA).trans aF;clear bH eu ax bB;have gw:=aF.obj aK;have k5:=aF.obj (aA.obj ar);have fC:=aC.size;refine bn ?_;refine K.call (ail (o.eY s) o.mM (fun x st=>o.ie x s (st.getLastD 0)) (abh s) (fun _=>True) b w bo KS (by omega) hV _ _ e he gw (fun _ _ _ _ _ _ _=>trivial) ?_ ?_) ?_
 ·intro x st base m w' av hm Dd _ dQ ef ev ajS di t mJ hk;refine K.mv (first:=[]) (cap:=[.pointer (some ⟨pm,0,none⟩),.pointer (some ⟨dr,0,none⟩)]) (by kernel_rfl)
   (aff x _ s base b pm dr ajS m st _ av (h.ext ((hm.ext KS (by intro k hk e;omega)).trans mJ)) (Dd.ext mJ) ?_ (mJ.obj (hm.obj (by omega) acT)) (mJ.obj (hm.obj (by omega) k5))) fun v b1 ⟨h1,U⟩=>by subst h1;exact hk b1 U
  intro ah
  have:o.fH x.op=1:=by rw[ah];rfl
  omega
 ·rintro ak fz iA l w' di t hm ⟨u,rfl,bx⟩ _ a1 af hk;exact K.Jd (first:=[]) (cap:=[]) (by kernel_rfl) (afp ak u iA l w' af) fun v b1 ⟨h1,U⟩=>by subst h1;exact hk b1 U
 rintro _ bD ⟨rfl,k2⟩;have aM:Ext w bD:=k2.ext KS (by intro k hk e;omega);refine bn ?_;exact dv
end Go.Proofs.R
end
section
namespace o
open Go Go.RowKit bt
def OE(v:Value):Option (Var×Int)→Prop
 | some q=>v = .tuple #[.agg q.1.enc.toArray,.int .i64 q.2,.bool true]
 | none => ∃(x:Var) (k:Int),v = .tuple #[.agg x.enc.toArray,.int .i64 k,.bool false]
end o
namespace Go.Proofs.R
open Go Go.RowKit bt
theorem Rv(a b:Int)(cs:List Value)(s:o.Scope)(w:World)(h:o.fm w cs s) :
  bw Tryz.prog F.cl #[.int .i64 a,.int .i64 b,.agg cs.toArray] w fun v w'=>v = .tuple #[.int .i64 (o.kx a b s).1,.bool (o.kx a b s).2]∧Ext w w':=by
 obtain⟨a0,bV,dG,c1,a2,c2,a3,bJ,a4,bW,rfl,ao,h1,U,ah,aJ,eH,dB,dH,ee,ei⟩:=h.form;refine bP E.cl ?_;refine bM ?_;refine aa ?_;intro aq b aB aC ar;refine aa ?_
 (repeat' (refine bn ?_;first | (refine K.cond (fun _=>?_) (fun _=>?_)<;>try (exfalso;omega)) | refine K.dO (fun _=>?_) (fun _=>?_)))<;>try refine bn ?_
 all_goals
  refine⟨?_,fK⟩;unfold o.kx
  (repeat' split)<;>first | rfl | (exfalso;omega)
theorem RA(v:Value)(l:List o.Var)(n:Int)(cs:List Value)(s:o.Scope)(w:World)(a1:o.hh w v l)(h:o.fm w cs s) :
  bw Tryz.prog F.rR #[v,.int .i64 n,.agg cs.toArray] w fun v w'=>o.OE v (o.declared l n s)∧Ext w w':=by
 obtain⟨v0,v1,v2,v3,v4,rfl,_⟩:=h.ex;obtain⟨bm,cap,rfl,hlen⟩:=a1.form;refine bP E.rR ?_;refine bM ?_;refine aa ?_;intro aq bE c8 aC ar;refine aa ?_;intro aU cp dT aA aK;have he:=aC.trans aA;refine aa ?_;apply K.cond<;>intro g1
 ·refine aa ?_;intro aY fk bB;refine aa ?_;rw[o.declared,o.kK (.inl g1)];exact⟨⟨(⟨⟨#[]⟩,0,0,0,0,0⟩:o.Var),0,rfl⟩,fk.ext he (by have:=aC.size;omega)⟩
 refine aa ?_;apply K.cond<;>intro g2
 ·refine aa ?_;intro aY fk bB;refine aa ?_;rw[o.declared,o.kK (.inr (by omega))];exact⟨⟨(⟨⟨#[]⟩,0,0,0,0,0⟩:o.Var),0,rfl⟩,fk.ext he (by have:=aC.size;omega)⟩
 obtain⟨i,rfl⟩:=Int.eq_ofNat_of_zero_le (show 0≤n by omega);have af:i<l.length:=by omega
 rw[o.declared,o.lf (by omega) (by omega)];simp only[Int.toNat_natCast];obtain⟨a,rfl⟩:=a1.addr (by omega);refine aa ?_;refine K.gm _ (fun w' e=>Rv _ _ _ s w' (h.ext (he.trans e))) ?_;refine aa ?_;intro aY ax;have aK:=ax.obj aK;refine aa ?_;intro bo eu bH;refine aa ?_;refine⟨?_,eu.ext (he.trans ax) (by have:=aC.size;omega)⟩;by_cases aB:(o.kx l[i].scalar l[i].over s).2=true
 ·rw[if_pos aB,aB];rfl
 ·rw[if_neg aB,Bool.eq_false_iff.2 aB];exact⟨_,_,rfl⟩
theorem ZL(n:Int)(cs:List Value)(s:o.Scope)(w:World)(h:o.fm w cs s) :
  bw Tryz.prog F.kA #[.int .i64 n,.agg cs.toArray] w fun v w'=>v = .tuple #[.int .i64 ((o.channel n s).getD 0),.bool (o.channel n s).isSome]∧Ext w w':=by
 obtain⟨a0,bV,dG,c1,a2,c2,a3,bJ,a4,bW,rfl,ao,h1,U,ah,aJ,eH,dB,dH,ee,ei⟩:=h.form;refine bP E.kA ?_;refine bM ?_;refine aa ?_;intro aq bE c8 aC ar;refine aa ?_;apply K.cond<;>intro g1
 ·refine aa ?_;rw[o.channel,o.kK (.inl g1)];exact dv
 refine aa ?_;apply K.cond<;>intro g2
 ·refine aa ?_;rw[o.channel,o.kK (.inr (by omega))];exact dv
 obtain⟨i,rfl⟩:=Int.eq_ofNat_of_zero_le (show 0≤n by omega);have af:i<s.a7.length:=by omega
 rw[o.channel,o.lf (by omega) (by omega)];simp only[Int.toNat_natCast];obtain⟨a,rfl⟩:=U.addr (by omega);refine aa ?_;refine K.gm _ (fun w' e=>Rv _ _ _ s w' (h.ext (aC.trans e))) ?_;refine aa ?_;intro aU aA;refine aa ?_;refine⟨?_,fK⟩;by_cases aB:(o.kx s.a7[i].scalar 0 s).2=true
 ·rw[if_pos aB,aB];rfl
 ·rw[if_neg aB,Bool.eq_false_iff.2 aB];rw[o.ajh (Bool.eq_false_iff.2 aB)];rfl
theorem I2(hV:Value)(e:List o.Node)(k:Int)(cs:List Value)(s:o.Scope)(w:World)(aH:o.fY w hV e)(h:o.fm w cs s) :
  bw Tryz.prog F.pU #[hV,.int .i64 k,.agg cs.toArray] w fun v w'=>v = .int .i64 (o.asked e k s)∧Ext w w':=by
 obtain⟨v0,v1,v2,v3,v4,rfl,_⟩:=h.ex;refine bP E.pU ?_;refine bM ?_;refine aa ?_;intro aq bE c8 aC ar;refine aa ?_;refine K.call (U3 hV e _ s aq (aH.ext aC) (h.ext aC)) ?_;rintro _ aU ⟨rfl,aA⟩;refine aa ?_;rw[o.asked];apply K.cond<;>intro g1
 ·rw[if_neg (by simpa using g1)];refine aa ?_;apply K.cond<;>intro g2
  ·refine aa ?_;rw[if_neg (by simpa using g2)];exact dv
  refine aa ?_;rw[if_pos g2];exact dv
 refine aa ?_;rw[if_pos g1];exact dv
theorem Xh(a:o.Act)(cw cx:Value)(w:World):bw Tryz.prog F.kX #[.agg (a.enc cw cx).toArray] w fun v w'=>v = .bool (o.hs a)∧Ext w w':=by
 refine bP E.kX ?_;refine bM ?_;refine aa ?_;intro aq bE c8 aC ar;refine aa ?_;rw[o.hs];apply K.cond<;>intro g1
 ·refine aa ?_;refine⟨?_,fK⟩;congr 1;simp[g1]
 refine aa ?_;refine⟨?_,fK⟩;congr 1;simp[g1]
theorem ahL(a:o.Act)(cw cx:Value)(k:Int)(cs:List Value)(s:o.Scope)(w:World)(h:o.fm w cs s) :
  bw Tryz.prog F.eq #[.agg (a.enc cw cx).toArray,.int .i64 k,.agg cs.toArray] w fun v w'=>v = .int .i64 (o.Ez a k s)∧Ext w w':=by
 obtain⟨v0,v1,v2,v3,v4,rfl,ao,h1,U,ah,aJ,_⟩:=h.ex;refine bP E.eq ?_;refine bM ?_;refine aa ?_;intro aq bE c8 aC ar;refine aa ?_;intro aU cp dT aA aK;have he:=aC.trans aA;refine aa ?_;refine K.call (RA v4 s.locals a.loc _ s aU (aJ.ext he) (h.ext he)) ?_;rintro q aY ⟨aR,ax⟩;rw[o.Ez];cases bx:o.declared s.locals a.loc s with
 | none =>
  rw[bx] at aR;obtain⟨x,k',rfl⟩:=aR;refine aa ?_;intro bo db gw aF bH;refine aa ?_;exact dv
 | some q =>
  obtain⟨x,k'⟩:=q;rw[bx] at aR;subst aR;refine aa ?_;intro bo db gw aF bH;refine aa ?_;apply K.cond<;>intro g1
  ·refine aa ?_;apply K.cond<;>intro g2
   ·refine aa ?_;simp only[g1,g2,ne_eq,not_true_eq_false,or_self,if_false];exact dv
   refine aa ?_;simp only[g2,ne_eq,not_false_eq_true,or_true,if_true];exact dv
  refine aa ?_;simp only[g1,ne_eq,not_false_eq_true,true_or,if_true];exact dv
end Go.Proofs.R
end
section
namespace o
open Go Go.RowKit bt
theorem IY{s:Scope}{l:List Act}{k:Nat}{t:Bool}(h:k<l.length) :
  jZ s (l.drop k) k t=if hs l[k]&&t then (2+(k:Int),7) else if jF l[k] s≠0 then (2+(k:Int),jF l[k] s) else jZ s (l.drop (k+1)) (k+1) (t||hs l[k]):=by
 rw[List.drop_eq_getElem_cons h];rfl
end o
namespace Go.Proofs.R
open Go Go.RowKit bt
theorem IW(k:Int)(a:o.Act)(cw cx:Value)(cs:List Value)(s:o.Scope)(w:World)(bE cp:Nat)(c8:w.heap[bE]? = some (.cells (a.enc cw cx).toArray T.q))(dT:w.heap[cp]? = some (.cells cs.toArray T.d))
  (aO:o.fY w cx a.value)(h:o.fm w cs s) :
  bw Tryz.prog F.Ci #[.int .i64 k,.pointer (some ⟨bE,0,none⟩),.pointer (some ⟨cp,0,none⟩)] w fun v w'=>v = .int .i64 (o.asked a.value k s)∧Ext w w':=by
 obtain⟨v0,v1,v2,v3,v4,rfl,_⟩:=h.ex;refine bP E.Ci ?_;refine bM ?_;refine aa ?_;refine K.call (I2 cx a.value k _ s w aO h) ?_;rintro _ aU ⟨rfl,aA⟩;refine aa ?_;exact dv
theorem Yt(a:o.Act)(cw cx:Value)(cs:List Value)(s:o.Scope)(w:World)(af:o.fY w cw a.index)(aO:o.fY w cx a.value)(h:o.fm w cs s) :
  bw Tryz.prog F.d9 #[.agg (a.enc cw cx).toArray,.agg cs.toArray] w fun v w'=>v = .int .i64 (o.jF a s)∧Ext w w':=by
 obtain⟨v0,v1,v2,v3,v4,rfl,ao,h1,U,ah,aJ,eH⟩:=h.ex;refine bP E.d9 ?_;refine bM ?_;refine aa ?_;intro aq bE c8 aC ar;refine aa ?_;intro aU cp dT aA aK;have he:=aC.trans aA;have ar:=aA.obj ar;by_cases q:a.kind=1∨a.kind=2∨a.kind=3
 ·rw[o.jF,if_pos q];generalize dg:(if a.kind=3 then s.locals else s.vars)=L;have Tf:∀oh n,oh=(if a.kind=3 then v4 else v1)→bw Tryz.prog F.rR #[oh,.int .i64 n,.agg #[v0,v1,v2,v3,v4,.int .i64 s.self]] aU fun v w'=>o.OE v (o.declared L n s)∧Ext aU w':=by
   rintro oh n rfl;refine RA _ L n _ s aU ?_ (h.ext he);rw[←dg];split
   ·exact aJ.ext he
   ·exact h1.ext he
  by_cases qm:a.kind=2
  ·refine aa ?_;refine K.call (Tf _ _ (by simp[qm])) ?_;rintro u aY ⟨aR,ax⟩;have ar:=ax.obj ar;have aK:=ax.obj aK;have tD:=he.trans ax;cases bx:o.declared L a.to s with
   | none =>
    rw[bx] at aR;obtain⟨x,k',rfl⟩:=aR;refine aa ?_;intro bo db gw aF bH;refine aa ?_;exact dv
   | some u =>
    obtain⟨x,k'⟩:=u;rw[bx] at aR;subst aR;have aeg:=o.aac bx;simp only at aeg;refine aa ?_;intro bo db gw aF bH;have ar:=aF.obj ar;have aK:=aF.obj aK;have oH:=tD.trans aF;refine aa ?_;refine K.Mm (by kernel_rfl) ?_;refine aa ?_;by_cases ef:x.over=0
    ·refine K.pX (by simp[qm,ef]) ?_;refine aa ?_;exact⟨by simp[qm,ef],fK⟩
    refine K.qR (by simp[qm,ef]) ?_;refine aa ?_;refine K.call (I2 cw a.index _ _ s bo (af.ext oH) (h.ext oH)) ?_;rintro _ bD ⟨rfl,aM⟩;have ar:=aM.obj ar;have aK:=aM.obj aK;have GP:=oH.trans aM;refine aa ?_;refine K.cond (fun ev=>?_) (fun ev=>?_)
    ·refine aa ?_;refine K.mv (first:=[]) (cap:=[_,_]) (by kernel_rfl) (IW k' a cw cx _ s bD bE cp ar aK (aO.ext GP) (h.ext GP)) ?_;rintro _ bQ ⟨rfl,aN⟩;refine aa ?_;exact⟨by simp[qm,ef,ev],fK⟩
    ·refine aa ?_;exact⟨by simp[qm,ef,ev],fK⟩
  have sI:a.kind=1∨a.kind=3:=by omega
  clear q;rcases sI with q | q
  all_goals
   refine aa ?_;refine K.call (Tf _ _ (by simp[q])) ?_;rintro u aY ⟨aR,ax⟩;have ar:=ax.obj ar;have aK:=ax.obj aK;have tD:=he.trans ax;cases bx:o.declared L a.to s with
   | none =>
    rw[bx] at aR;obtain⟨x,k',rfl⟩:=aR;refine aa ?_;intro bo db gw aF bH;refine aa ?_;exact dv
   | some u =>
    obtain⟨x,k'⟩:=u;rw[bx] at aR;subst aR;refine aa ?_;intro bo db gw aF bH;have ar:=aF.obj ar;have aK:=aF.obj aK;have oH:=tD.trans aF;refine aa ?_;refine K.Mm (by kernel_rfl) ?_;refine aa ?_;by_cases ef:x.over=0
    ·refine K.qR (by simp[q,ef]) ?_;refine aa ?_;refine K.mv (first:=[]) (cap:=[_,_]) (by kernel_rfl) (IW k' a cw cx _ s bo bE cp ar aK (aO.ext oH) (h.ext oH)) ?_;rintro _ bQ ⟨rfl,aN⟩;refine aa ?_;exact⟨by simp[q,ef],fK⟩
    ·refine K.pX (by simp[q,ef]) ?_;refine aa ?_;exact⟨by simp[q,ef],fK⟩
 by_cases hR:a.kind=4∨a.kind=5
 ·rw[o.jF,if_neg q,if_pos hR];have MK:a.kind≠3:=by omega
  have AL:a.kind≠1:=by omega
  have ML:a.kind≠2:=by omega
  have step:∀(w':World),Ext aU w'→bw Tryz.prog F.kA #[.int .i64 a.to,.agg #[v0,v1,v2,v3,v4,.int .i64 s.self]] w' fun v b1=>v = .tuple #[.int .i64 ((o.channel a.to s).getD 0),.bool (o.channel a.to s).isSome]∧Ext w' b1 :=
   fun w' e=>ZL a.to _ s w' (h.ext (he.trans e))
  rcases hR with hR | hR
  ·refine aa ?_;refine K.call (step aU (Ext.refl _)) ?_;rintro _ aY ⟨rfl,ax⟩;have ar:=ax.obj ar;have aK:=ax.obj aK;have tD:=he.trans ax;cases bx:o.channel a.to s with
   | none =>
    simp only[Option.isSome_none,Option.getD_none];refine aa ?_;exact dv
   | some k =>
    simp only[Option.isSome_some,Option.getD_some];refine aa ?_;refine K.mv (first:=[]) (cap:=[_,_]) (by kernel_rfl) (IW k a cw cx _ s aY bE cp ar aK (aO.ext tD) (h.ext tD)) ?_;rintro _ bQ ⟨rfl,aN⟩;refine aa ?_;exact⟨by simp[hR],fK⟩
  ·refine aa ?_;refine K.call (step aU (Ext.refl _)) ?_;rintro _ aY ⟨rfl,ax⟩;have ar:=ax.obj ar;have aK:=ax.obj aK;have tD:=he.trans ax;cases bx:o.channel a.to s with
   | none =>
    simp only[Option.isSome_none,Option.getD_none];refine aa ?_;exact dv
   | some k =>
    simp only[Option.isSome_some,Option.getD_some];refine aa ?_;refine K.call (ahL a cw cx k _ s aY (h.ext tD)) ?_;rintro _ bQ ⟨rfl,aN⟩;refine aa ?_;exact⟨by simp[hR],fK⟩
 rw[o.jF,if_neg q,if_neg hR];have MK:a.kind≠3:=by omega
 have AL:a.kind≠1:=by omega
 have ML:a.kind≠2:=by omega
 have V7:a.kind≠4:=by omega
 have amI:a.kind≠5:=by omega
 refine aa ?_;exact dv
end Go.Proofs.R
end
section
namespace o
open Go
theorem ads{c:dL}{n:Int}(h:head c n=0):isName c.name=true∧0≤c.from_∧c.from_<n∧0≤c.to∧c.to<n∧c.cn.length≤6:=by
 unfold head at h;by_cases h1:isName c.name=false
 ·rw[if_pos h1] at h;cases h
 rw[if_neg h1] at h;by_cases U:c.from_<0∨n≤c.from_∨c.to<0∨n≤c.to
 ·rw[if_pos U] at h;cases h
 rw[if_neg U] at h;by_cases ah:c.cn.length > 6
 ·rw[if_pos ah] at h;cases h
 exact⟨by simpa using h1,by omega,by omega,by omega,by omega,by omega⟩
end o
end
section
namespace Go.Proofs.R
open Go Go.RowKit bt
theorem TB(n:Int)(p:o.dt)(n3 pC:Value)(w:World)(b:Nat)(aB:w.heap[b]? = some (.cells (p.enc n3 pC).toArray T.g)) :
  bw Tryz.prog F.Ch #[.int .i64 n,.pointer (some ⟨b,0,none⟩)] w fun v w'=>v = .bool (decide (n<0∨p.cW≤n))∧w'=w:=by
 refine bP E.Ch ?_;refine bM ?_;refine aa ?_;apply K.cond<;>intro g1
 ·refine aa ?_;exact⟨by simp[g1],bf⟩
 refine aa ?_;exact⟨by simp[g1],bf⟩
theorem adt(c:o.dL)(fV va:Value)(p:o.dt)(n3 pC:Value)(w:World)(aZ:gH w)(aH:o.hE c.name)(bu:o.oi w va c.cn) :
  bw Tryz.prog F.d8 #[.agg (c.enc fV va).toArray,.agg (p.enc n3 pC).toArray] w fun v w'=>v = .int .i64 (o.head c p.cW)∧Ext w w':=by
 obtain⟨bm,cap,rfl,hlen⟩:=bu.form;refine bP E.d8 ?_;refine bM ?_;refine aa ?_;intro aq bE c8 aC ar;refine aa ?_;intro aU cp dT aA aK;have he:=aC.trans aA;have ar:=aA.obj ar;refine aa ?_;refine K.call (HD c.name aU (aZ.ext he) aH) ?_;rintro _ aY ⟨rfl,ax⟩;have ar:=ax.obj ar;have aK:=ax.obj aK;have tD:=he.trans ax;rw[o.head];refine aa ?_;refine K.dO (fun g1=>?_) (fun g1=>?_);rotate_left
 ·refine aa ?_;exact⟨by simp[g1],fK⟩
 refine aa ?_;refine K.mv (first:=[]) (cap:=[_]) (by kernel_rfl) (TB c.from_ p n3 pC aY cp aK) ?_;rintro _ _ ⟨rfl,rfl⟩;refine aa ?_;apply K.cond<;>intro g2
 ·refine aa ?_;refine⟨?_,fK⟩;rw[if_neg (by simp[g1]),if_pos (by omega)]
 refine aa ?_;refine K.mv (first:=[]) (cap:=[_]) (by kernel_rfl) (TB c.to p n3 pC _ cp aK) ?_;rintro _ _ ⟨rfl,rfl⟩;refine aa ?_;apply K.cond<;>intro g3
 ·refine aa ?_;refine⟨?_,fK⟩;rw[if_neg (by simp[g1]),if_pos (by omega)]
 refine aa ?_;apply K.cond<;>intro g4
 ·refine aa ?_;refine⟨?_,fK⟩;rw[if_neg (by simp[g1]),if_neg (by omega),if_pos (by omega)]
 ·refine aa ?_;refine⟨?_,fK⟩;rw[if_neg (by simp[g1]),if_neg (by omega),if_neg (by omega)]
theorem ZW(c:o.dL)(fV va:Value)(p:o.dt)(n3 pC:Value)(cs:List Value)(s:o.Scope)(w:World)(aZ:gH w)(aH:o.hE c.name)(aV:o.fY w fV c.guard)(bu:o.oi w va c.cn)
  (aO:o.hh w n3 p.vars)(aw:o.om w pC p.cE)(h:o.fm w cs s) :
  bw Tryz.prog F.BZ #[.agg (c.enc fV va).toArray,.agg (p.enc n3 pC).toArray,.agg cs.toArray] w fun v w' =>
   v = .tuple #[.int .i64 (o.iJ c p.cW s).1,.int .i64 (o.iJ c p.cW s).2]∧Ext w w':=by
 obtain⟨a0,bV,dG,c1,a2,c2,a3,bJ,a4,bW,rfl,_⟩:=h.form;obtain⟨bm,cap,rfl,hlen⟩:=bu.form;obtain⟨hq,Zn,rfl,adX⟩:=aV.form;obtain⟨_,_,rfl,_⟩:=aO.form;obtain⟨_,_,rfl,_⟩:=aw.form;refine bP E.BZ ?_;refine bM ?_;refine aa ?_;intro aq bE c8 aC ar;refine aa ?_;intro aU cp dT aA aK;refine aa ?_;intro aY ch fE ax bB;have he:=(aC.trans aA).trans ax;have ar:=(aA.trans ax).obj ar;have aK:=ax.obj aK;refine aa ?_;refine K.call (adt c _ _ p _ _ aY (aZ.ext he) aH (bu.ext he)) ?_;rintro _ bo ⟨rfl,aF⟩;have ar:=aF.obj ar;have bB:=aF.obj bB;have oH:=he.trans aF;rw[o.iJ];refine aa ?_;apply K.cond<;>intro g1;rotate_left
 ·refine aa ?_;exact⟨by simp[g1],fK⟩
 rw[if_neg (by simpa using g1)];have bY:=(o.ads g1).2.2.2.2.2;refine eh ?_;refine K.gK [3,4,5] (fun _=>[]) (fun(_:Unit) w'=>Ext bo w'∧¬(c.guard.length > 0∧o.asked c.guard 1 s≠0)) ?_ ?_
 ·refine aa ?_;apply K.cond<;>intro g2
  ·refine aa ?_;refine K.call (I2 _ c.guard 1 _ s bo (aV.ext oH) (h.ext oH)) ?_;rintro _ bD ⟨rfl,aM⟩;refine aa ?_;apply K.cond<;>intro g3
   ·refine aa ?_;exact⟨(),trivial,fK,fun ea=>ea.2 g3⟩
   ·refine aa ?_;rw[if_pos ⟨by omega,g3⟩];exact dv
  ·refine aa ?_;exact⟨(),trivial,fK,fun ea=>g2 (by omega)⟩
 rintro _ S bD ⟨aM,C1⟩;have ar:=aM.obj ar;have bB:=aM.obj bB;have GP:=oH.trans aM;rw[if_neg C1];refine aa ?_;refine K.cR 34 c.cn.length [3,4,5,32,33] (fun b=>[(10,.bool b)]) false (fun k b w'=>Ext bD w'∧o.jZ s c.cn 0 false=o.jZ s (c.cn.drop k) k b) bp bp ⟨Ext.refl _,by simp⟩ ?_;rintro k b S bQ hk ⟨aN,bs⟩;have tE:=GP.trans aN;refine aa ?_;apply K.cond<;>intro g1
 ·have br:k<c.cn.length:=by omega
  obtain⟨a,rfl⟩:=bu.addr (by omega);obtain⟨cw,cx,iw,fq,rk⟩:=bu.at k br;obtain⟨_,_,rfl,_⟩:=fq.form;obtain⟨_,_,rfl,_⟩:=rk.form;rw[o.IY br] at bs;refine aa ?_;intro cd kX iM bC dq;refine eh ?_;intro c9 iz c5;have tG:=iz.ext bC iM;have GR:=tE.trans tG;have bB:=(aN.trans tG).obj bB;refine eh ?_;refine K.gK [3,5,10,11,12,32,33,34] (fun _=>[]) (fun(_:Unit) w'=>Ext c9 w'∧¬(o.hs c.cn[k]&&b)=true) ?_ ?_
  ·refine aa ?_;refine K.call (Xh c.cn[k] _ _ c9) ?_;rintro _ dF ⟨rfl,cL⟩;refine aa ?_;refine K.dO (fun g2=>?_) (fun g2=>?_)
   ·refine aa ?_;refine K.dO (fun g3=>?_) (fun g3=>?_)
    ·refine aa ?_;rw[bs,if_pos (by simp[g2,g3])];exact dv
    ·refine aa ?_;exact⟨(),trivial,fK,by simp[g3]⟩
   ·refine aa ?_;exact⟨(),trivial,fK,by simp[g2]⟩
  rintro _ S dF ⟨cL,g2⟩;rw[if_neg g2] at bs;have c5:=cL.obj c5;have bB:=cL.obj bB;refine eh ?_;refine K.gK [3,5,11,12,32,33,34] (fun u=>[(10,.bool u)]) (fun u w'=>Ext dF w'∧u=(b||o.hs c.cn[k])) ?_ ?_
  ·refine aa ?_;refine K.dO (fun g3=>?_) (fun g3=>?_)
   ·refine aa ?_;exact⟨true,bp,fK,by simp[g3]⟩
   ·refine aa ?_;refine K.call (Xh c.cn[k] _ _ dF) ?_;rintro _ fe ⟨rfl,dj⟩;refine aa ?_;exact⟨o.hs c.cn[k],bp,fK,by simp[g3]⟩
  rintro _ S fe ⟨dj,rfl⟩;have c5:=dj.obj c5;have bB:=dj.obj bB;have KM:=(GR.trans cL).trans dj;have alz:=((aN.trans tG).trans cL).trans dj;refine aa ?_;refine K.call (Yt c.cn[k] _ _ _ s fe (fq.ext KM) (rk.ext KM) (h.ext KM)) ?_;rintro _ fQ ⟨rfl,hn⟩;refine aa ?_;apply K.cond<;>intro g3
  ·refine aa ?_;rw[if_neg (by simpa using g3)] at bs;exact⟨br,bf,_,bp,fK,bs⟩
  ·refine aa ?_;rw[bs,if_pos g3];exact dv
 ·refine aa ?_;rw[bs,List.drop_eq_nil_of_le (by omega)];exact dv
end Go.Proofs.R
end